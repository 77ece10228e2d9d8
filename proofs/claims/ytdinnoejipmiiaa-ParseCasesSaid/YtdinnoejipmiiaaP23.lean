/-
  ParseCases answers true for every text: a text without a quote reads the same, small or great its letters. No condition.
-/
import Derived.Shelf.Strings.Search3
import Derived.Shelf.Vars
import Derived.Test.YtdinnoejipmiiaaProg
import Derived.Test.YtdinnoejipmiiaaP22
import Derived.Test.YtdinnoejipmiiaaP21
import Derived.Test.YtdinnoejipmiiaaP16
set_option linter.unusedVariables false
set_option linter.unusedSimpArgs false
namespace Go.Proofs
open Go.Shelf
def Try.lays144_ren : Go.Shelf.Ren := ⟨fun | 144 => 74 | 143 => 81 | 219 => 86 | 217 => 88 | 225 => 89 | 224 => 90 | 267 => 91 | 266 => 92 | 314 => 93 | n => n, fun | 9 => 9 | 4 => 4 | 3 => 3 | 5 => 5 | 46 => 132 | 146 => 136 | 51 => 135 | n => n, fun | 1 => 0 | n => n⟩
theorem Try.lays144 : Go.Proofs.Lays.n144 Try.prog Try.lays144_ren := {
  mixed := by kernel_rfl
  f143 := Try.func81.trans (congrArg some (by kernel_rfl))
  f144 := Try.func74.trans (congrArg some (by kernel_rfl))
  f217 := Try.func88.trans (congrArg some (by kernel_rfl))
  f219 := Try.func86.trans (congrArg some (by kernel_rfl))
  f224 := Try.func90.trans (congrArg some (by kernel_rfl))
  f225 := Try.func89.trans (congrArg some (by kernel_rfl))
  f266 := Try.func92.trans (congrArg some (by kernel_rfl))
  f267 := Try.func91.trans (congrArg some (by kernel_rfl))
  f314 := Try.func93.trans (congrArg some (by kernel_rfl))
  t3 := Try.underlying3
  a3 := Try.isAgg3
  z3 := Try.sizeOf3
  v3 := Try.zeroValue3
  t4 := Try.underlying4
  a4 := Try.isAgg4
  z4 := Try.sizeOf4
  v4 := Try.zeroValue4
  t5 := Try.underlying5
  a5 := Try.isAgg5
  z5 := Try.sizeOf5
  v5 := Try.zeroValue5
  t9 := Try.underlying9
  a9 := Try.isAgg9
  z9 := Try.sizeOf9
  v9 := Try.zeroValue9
  t46 := Try.underlying132
  a46 := Try.isAgg132
  z46 := Try.sizeOf132
  v46 := Try.zeroValue132
  t51 := Try.underlying135
  a51 := Try.isAgg135
  z51 := Try.sizeOf135
  v51 := Try.zeroValue135
  t146 := Try.underlying136
  a146 := Try.isAgg136
  z146 := Try.sizeOf136
  v146 := Try.zeroValue136
  g1 := by kernel_rfl }
open Go.RowKit Go.Lib in
theorem Try.strings_Contains (s sub : ByteArray) (m : Int) (w : World) (hs : s.size < 4294967281) (hm : w.cell? ⟨0, 0, none⟩ = some (.int .i64 m)) :
    Calls Try.prog 74 #[.string s, .string sub] w fun e w' => e = .returned (.bool (Lib.contains s.data.toList sub.data.toList)) ∧ w' = w := Any.strings_Contains Try.lays144 s sub m w hs hm
end Go.Proofs

namespace Go.Av.Pa
theorem fail_st (st : PS) (a e : Int) : st.fail a e = { st with bat := if st.be = 0 then a else st.bat, be := if st.be = 0 then e else st.be } := by
  unfold PS.fail; split <;> simp_all
end Go.Av.Pa
namespace Go.Proofs.Ytdinnoejipmiiaa
open Go.Av
open Go.Av.Pa (PS atP isP wrongP takeP needP kindP nameP)
theorem contains_within (w s : List UInt8) : Lib.contains w s = Pa.within w s := by
  unfold Lib.contains Pa.within
  have key : ∀ i : Nat, Lib.occAt w s i = ((w.drop i).take s.length == s) := fun i => by
    unfold Lib.occAt
    rw [Bool.eq_iff_iff, List.isPrefixOf_iff_prefix, List.prefix_iff_eq_take, beq_iff_eq]
    exact eq_comm
  rcases Lib.index_spec w s with ⟨h1, h2⟩ | ⟨i, h1, h2, h3, h4⟩
  · rw [decide_eq_false (by omega)]
    symm
    rw [List.any_eq_false]
    intro i hi
    rw [List.mem_range] at hi
    rw [← key i, h2 i (by omega)]
    simp
  · rw [decide_eq_true (by omega)]
    symm
    rw [List.any_eq_true]
    exact ⟨i, List.mem_range.2 (by omega), by rw [← key i]; exact h3⟩
theorem within_spec (w s : List UInt8) (hw : w.length < 4294967281) (h : AHeap) (hg : Glob h) : ACalls Try.prog 74 [str w, str s] h (fun x h' => x = bl (Pa.within w s) ∧ h' = h) := by
  intro vs W hv hr
  obtain ⟨m, hm⟩ := hg.cell hr
  cases hv with
  | cons v1 vs1 =>
    cases vs1 with
    | cons v2 vs2 =>
      cases vs2
      cases v1; cases v2
      refine (Go.Proofs.Try.strings_Contains ⟨w.toArray⟩ ⟨s.toArray⟩ m W (by simpa [ByteArray.size] using hw) hm).mono ?_
      rintro e w' ⟨rfl, rfl⟩
      refine ⟨_, bl (Pa.within w s), h, rfl, ⟨rfl, rfl⟩, ?_, hr, .refl h _⟩
      rw [← contains_within]
      exact .v _
def pst (T : List Tok) (fin : Int) (st : PS) : List AV := [toksA T .ro, i64 st.i, i64 fin, i64 st.bat, i64 st.be, i64 st.d]
structure PAt (T : List Tok) (fin : Int) (st : PS) (p : Nat) (h : AHeap) : Prop where
  glob : Glob h
  box : h p = some (.box (pst T fin st))
def PC (T : List Tok) (fin : Int) (f : FuncId) (args : List AV) (st : PS) (x : AV) (st' : PS) : Prop :=
  ∀ p h, PAt T fin st p h → ACalls Try.prog f (ptr p :: args) h (fun x' h' => x' = x ∧ h' = h.set p (.box (pst T fin st')))
def PCU (T : List Tok) (fin : Int) (f : FuncId) (args : List AV) (st : PS) (st' : PS) : Prop :=
  ∀ p h, PAt T fin st p h → ACalls Try.prog f (ptr p :: args) h (fun _ h' => h' = h.set p (.box (pst T fin st')))
def PC0 (T : List Tok) (fin : Int) (f : FuncId) (args : List AV) (st : PS) (x : AV) : Prop :=
  ∀ p h, PAt T fin st p h → ACalls Try.prog f (ptr p :: args) h (fun x' h' => x' = x ∧ h' = h)
section
variable {c : Cls} {E : AEnv} {h H : AHeap} {K : AV → AHeap → Prop} {T : List Tok} {fin : Int}
theorem callPC {f : FuncId} {args : List Operand} {al : List AV} {p : Nat} {st st' : PS} {x : AV} (hc : c = .act) (ha : avs E args = some (ptr p :: al)) (hcall : PC T fin f al st x st') (hg : Glob h) (hp : h p = some (.box (pst T fin st))) (hH : h.set p (.box (pst T fin st')) = H) (hk : K x H) : ROpS Try.prog c (.call f args) E h K :=
  callN hc ha (hcall p h ⟨hg, hp⟩) hH hk
theorem callPCU {f : FuncId} {args : List Operand} {al : List AV} {p : Nat} {st st' : PS} (hc : c = .act) (ha : avs E args = some (ptr p :: al)) (hcall : PCU T fin f al st st') (hg : Glob h) (hp : h p = some (.box (pst T fin st))) (hH : h.set p (.box (pst T fin st')) = H) (hk : ∀ x, K x H) : ROpS Try.prog c (.call f args) E h K :=
  callNU hc ha (hcall p h ⟨hg, hp⟩) hH hk
theorem callPC0 {f : FuncId} {args : List Operand} {al : List AV} {p : Nat} {st : PS} {x : AV} (hc : c = .act) (ha : avs E args = some (ptr p :: al)) (hcall : PC0 T fin f al st x) (hg : Glob h) (hp : h p = some (.box (pst T fin st))) (hk : K x h) : ROpS Try.prog c (.call f args) E h K :=
  callN hc ha (hcall p h ⟨hg, hp⟩) rfl hk
theorem callG {f : FuncId} {args : List Operand} {al : List AV} {x : AV} (hc : c = .act) (ha : avs E args = some al) (hcall : ∀ h', Glob h' → ACalls Try.prog f al h' (fun x' h'' => x' = x ∧ h'' = h')) (hg : Glob h) (hk : K x h) : ROpS Try.prog c (.call f args) E h K :=
  callN hc ha (hcall h hg) rfl hk
end
section
variable {T : List Tok} {fin : Int}
def r14 : RCode :=
  (.seq (.region [
    ⟨(some 2), none, .act, .mv (.const (.bool false))⟩])
  (.seq (.region [
    ⟨(some 3), none, .act, .mv (.tmp 0)⟩,
    ⟨(some 4), none, .act, .nilCheck (.tmp 3)⟩,
    ⟨(some 5), none, .act, .fieldAddr 3 (.tmp 4)⟩,
    ⟨(some 6), none, .act, .fieldAddr 1 (.tmp 5)⟩,
    ⟨(some 7), none, .act, .load false 1 (.tmp 6)⟩,
    ⟨(some 8), none, .act, .eq false .int (.tmp 7) (.const (.int .i64 0))⟩,
    ⟨(some 2), none, .act, .mv (.tmp 8)⟩])
  .ret))
theorem res14 : ∃ c, Try.f14.body = some c ∧ resCode Try.prog 9 c = some r14 := ⟨_, rfl, by kernel_rfl⟩
theorem rr14 : resRes Try.prog Try.f14.results.toList = some [.tmp 2] := by kernel_rfl
theorem ok_spec (st : PS) : PC0 T fin 14 [] st (bl st.good) := by
  intro p h ⟨hg, hp⟩
  obtain ⟨c', hc1, hc2⟩ := res14
  refine ACalls.enter Try.func14 hc1 Try.ntmps14 hc2 (Nat.le_of_ble_eq_true rfl) rfl ?_
  unfold pst at hp
  repeat' (first | refine S.nilK ?_ | (refine S.op rfl ?_; first | refine R.mv rfl ?_ | refine R.fieldAddr rfl ?_ | refine R.nilCheck rfl ?_ | refine R.load (by decide) rfl (by (repeat' (first | assumption)); first | done | fail) rfl ?_ | ((first | refine S.eqInt rfl rfl ?_ ?_) <;> intro hlt <;> try (exfalso; omega))) | refine S.seq ?_ | refine S.region ?_)
  all_goals
    apply S.ret rr14
    case hx => repeat (first | exact ResAt.nil | apply ResAt.tmp rfl)
    refine ⟨congrArg bl ?_, rfl⟩
    unfold PS.good
    first | exact (beq_iff_eq.2 hlt).symm | exact (beq_eq_false_iff_ne.2 hlt).symm
def r21 : RCode :=
  (.seq (.region [
    ⟨(some 2), none, .act, .mv (.const (.int .i64 0))⟩])
  (.seq (.seq (.region [
    ⟨(some 3), none, .pure, .mv (.tmp 0)⟩,
    ⟨(some 4), none, .pure, .nilCheck (.tmp 3)⟩,
    ⟨(some 5), none, .pure, .fieldAddr 1 (.tmp 4)⟩,
    ⟨(some 6), none, .read, .load false 1 (.tmp 5)⟩,
    ⟨(some 7), none, .pure, .mv (.tmp 0)⟩,
    ⟨(some 8), none, .pure, .nilCheck (.tmp 7)⟩,
    ⟨(some 9), none, .pure, .fieldAddr 0 (.tmp 8)⟩,
    ⟨(some 10), none, .read, .load false 1 (.tmp 9)⟩,
    ⟨(some 11), none, .pure, .len (.tmp 10)⟩,
    ⟨(some 12), none, .pure, .bin .lss (.tmp 6) (.tmp 11)⟩])
  (.cond (.tmp 12)
   (.seq (.region [
     ⟨(some 13), none, .pure, .mv (.tmp 0)⟩,
     ⟨(some 14), none, .pure, .nilCheck (.tmp 13)⟩,
     ⟨(some 15), none, .pure, .fieldAddr 0 (.tmp 14)⟩,
     ⟨(some 16), none, .read, .load false 1 (.tmp 15)⟩,
     ⟨(some 17), none, .pure, .mv (.tmp 0)⟩,
     ⟨(some 18), none, .pure, .nilCheck (.tmp 17)⟩,
     ⟨(some 19), none, .pure, .fieldAddr 1 (.tmp 18)⟩,
     ⟨(some 20), none, .read, .load false 1 (.tmp 19)⟩,
     ⟨(some 21), none, .pure, .indexAddr 4 (.tmp 16) (.tmp 20)⟩,
     ⟨(some 22), none, .pure, .fieldAddr 3 (.tmp 21)⟩,
     ⟨(some 23), none, .read, .load false 1 (.tmp 22)⟩,
     ⟨(some 2), none, .pure, .mv (.tmp 23)⟩])
   .ret)
   .skip))
  (.seq (.region [
    ⟨(some 24), none, .act, .mv (.tmp 0)⟩,
    ⟨(some 25), none, .act, .nilCheck (.tmp 24)⟩,
    ⟨(some 26), none, .act, .fieldAddr 2 (.tmp 25)⟩,
    ⟨(some 27), none, .act, .load false 1 (.tmp 26)⟩,
    ⟨(some 2), none, .act, .mv (.tmp 27)⟩])
  .ret)))
theorem res21 : ∃ c, Try.f21.body = some c ∧ resCode Try.prog 28 c = some r21 := ⟨_, rfl, by kernel_rfl⟩
theorem rr21 : resRes Try.prog Try.f21.results.toList = some [.tmp 2] := by kernel_rfl
theorem at_spec (st : PS) : PC0 T fin 21 [] st (i64 (atP T fin st)) := by
  intro p h ⟨hg, hp⟩
  obtain ⟨c', hc1, hc2⟩ := res21
  refine ACalls.enter Try.func21 hc1 Try.ntmps21 hc2 (Nat.le_of_ble_eq_true rfl) rfl ?_
  unfold pst toksA at hp
  have hlen : (T.map Pa.Tok.cells).length = T.length := by simp
  unfold atP
  cases hl : T[st.i]? with
  | some t =>
    have hi := (List.getElem?_eq_some_iff.1 hl).1
    have h1 : (T.map Pa.Tok.cells)[((st.i : Nat) : Int).toNat]? = some [i64 t.kind, str t.s, i64 t.n, i64 t.pos] := by simp [hl]; rfl
    repeat' (first | refine S.nilK ?_ | (refine S.op rfl ?_; first | refine R.indexAddr rfl rfl (by omega) h1 ?_ | refine R.mv rfl ?_ | refine R.fieldAddr rfl ?_ | refine R.fieldAddrR rfl ?_ | refine R.nilCheck rfl ?_ | refine R.loadR rfl rfl ?_ | refine R.load (by decide) rfl (by (repeat' (first | assumption)); first | done | fail) rfl ?_ | refine R.len rfl ?_ | ((first | refine S.lss rfl rfl ?_ ?_) <;> intro hlt <;> try (exfalso; omega))) | refine S.seq ?_ | refine S.region ?_ | refine S.condT rfl ?_)
    apply S.ret rr21
    case hx => repeat (first | exact ResAt.nil | apply ResAt.tmp rfl)
    exact ⟨rfl, rfl⟩
  | none =>
    have hi := List.getElem?_eq_none_iff.1 hl
    repeat' (first | refine S.nilK ?_ | (refine S.op rfl ?_; first | refine R.mv rfl ?_ | refine R.fieldAddr rfl ?_ | refine R.nilCheck rfl ?_ | refine R.load (by decide) rfl (by (repeat' (first | assumption)); first | done | fail) rfl ?_ | refine R.len rfl ?_ | ((first | refine S.lss rfl rfl ?_ ?_) <;> intro hlt <;> try (exfalso; omega))) | refine S.seq ?_ | refine S.region ?_ | refine S.condF rfl ?_ | refine RRun.skip ?_)
    apply S.ret rr21
    case hx => repeat (first | exact ResAt.nil | apply ResAt.tmp rfl)
    exact ⟨rfl, rfl⟩
def r20 : RCode :=
  (.seq (.region [
    ⟨(some 6), none, .act, .mv (.tmp 0)⟩,
    ⟨(some 7), none, .act, .call 14 [(.tmp 6)]⟩])
  (.cond (.tmp 7)
   (.region [
     ⟨(some 8), none, .act, .mv (.tmp 0)⟩,
     ⟨(some 9), none, .act, .mv (.tmp 1)⟩,
     ⟨(some 10), none, .act, .mv (.tmp 2)⟩,
     ⟨(some 11), none, .act, .build [(.int .i64 0), (.int .i64 0)] [(0, 1, (.tmp 9)), (1, 1, (.tmp 10))]⟩,
     ⟨(some 12), none, .act, .nilCheck (.tmp 8)⟩,
     ⟨(some 13), none, .act, .fieldAddr 3 (.tmp 12)⟩,
     ⟨none, none, .act, .store 2 (.tmp 13) (.tmp 11)⟩])
   .skip))
theorem res20 : ∃ c, Try.f20.body = some c ∧ resCode Try.prog 14 c = some r20 := ⟨_, rfl, by kernel_rfl⟩
theorem rr20 : resRes Try.prog Try.f20.results.toList = some [] := by kernel_rfl
theorem fail_spec (st : PS) (a e : Int) : PCU T fin 20 [i64 a, i64 e] st (st.fail a e) := by
  intro p h ⟨hg, hp⟩
  obtain ⟨c', hc1, hc2⟩ := res20
  refine ACalls.enter Try.func20 hc1 Try.ntmps20 hc2 (Nat.le_of_ble_eq_true rfl) rfl ?_
  have c14 := ok_spec st p h ⟨hg, hp⟩
  rw [Pa.fail_st]
  unfold PS.good at c14
  by_cases hb : st.be = 0
  · rw [beq_iff_eq.2 hb] at c14
    rw [if_pos hb, if_pos hb]
    unfold pst at hp ⊢
    repeat' (first | refine S.nilK ?_ | (refine S.op rfl ?_; first | refine callN rfl rfl c14 rfl ?_ | refine R.mv rfl ?_ | refine R.fieldAddr rfl ?_ | refine R.nilCheck rfl ?_ | refine R.build rfl rfl ?_) | (refine S.op0 rfl ?_; first | refine S.storeN rfl rfl (by (repeat' (first | assumption)); first | done | fail) rfl rfl rfl (by rfl) rfl (by repeat' (first | exact rfl)) ?_) | refine S.seq ?_ | refine S.region ?_ | refine S.condT rfl ?_)
    apply S.done rr20
    case hx => repeat (first | exact ResAt.nil)
    rfl
  · rw [beq_eq_false_iff_ne.2 hb] at c14
    rw [if_neg hb, if_neg hb]
    unfold pst at hp ⊢
    repeat' (first | refine S.nilK ?_ | (refine S.op rfl ?_; first | refine callN rfl rfl c14 rfl ?_ | refine R.mv rfl ?_) | refine S.seq ?_ | refine S.region ?_ | refine S.condF rfl ?_ | refine RRun.skip ?_)
    apply S.done rr20
    case hx => repeat (first | exact ResAt.nil)
    exact (AHeap.set_eq _ hp).symm
def r13 : RCode :=
  (.region [
    ⟨(some 2), none, .act, .mv (.tmp 0)⟩,
    ⟨(some 3), none, .act, .mv (.tmp 0)⟩,
    ⟨(some 4), none, .act, .call 21 [(.tmp 3)]⟩,
    ⟨(some 5), none, .act, .call 20 [(.tmp 2), (.tmp 4), (.const (.int .i64 200))]⟩])
theorem res13 : ∃ c, Try.f13.body = some c ∧ resCode Try.prog 6 c = some r13 := ⟨_, rfl, by kernel_rfl⟩
theorem rr13 : resRes Try.prog Try.f13.results.toList = some [] := by kernel_rfl
theorem wrong_spec (st : PS) : PCU T fin 13 [] st (wrongP T fin st) := by
  intro p h ⟨hg, hp⟩
  obtain ⟨c', hc1, hc2⟩ := res13
  refine ACalls.enter Try.func13 hc1 Try.ntmps13 hc2 (Nat.le_of_ble_eq_true rfl) rfl ?_
  have c21 := at_spec st p h ⟨hg, hp⟩
  have c20 := fail_spec st (atP T fin st) 200 p h ⟨hg, hp⟩
  repeat' (first | refine S.nilK ?_ | (refine S.op rfl ?_; first | refine callN rfl rfl c21 rfl ?_ | refine callNU rfl rfl c20 rfl (fun x => ?_) | refine R.mv rfl ?_) | refine S.region ?_)
  apply S.done rr13
  case hx => repeat (first | exact ResAt.nil)
  rfl
end
end Go.Proofs.Ytdinnoejipmiiaa

namespace Go.Proofs.Ytdinnoejipmiiaa
open Go.Av
open Go.Av.Pa (PS atP isP wrongP takeP needP kindP nameP)
section
variable {T : List Tok} {fin : Int}
theorem good_T {st : PS} (h : st.be = 0) : st.good = true := beq_iff_eq.2 h
theorem good_F {st : PS} (h : ¬ st.be = 0) : st.good = false := beq_eq_false_iff_ne.2 h
def r47 : RCode :=
  (.seq (.region [
    ⟨(some 4), none, .act, .mv (.const (.bool false))⟩])
  (.seq (.seq (.region [
    ⟨(some 6), none, .pure, .mv (.tmp 0)⟩,
    ⟨(some 7), none, .act, .call 14 [(.tmp 6)]⟩,
    ⟨(some 8), none, .pure, .un .not (.tmp 7)⟩,
    ⟨(some 9), none, .pure, .mv (.tmp 8)⟩,
    ⟨(some 10), (some (9, false)), .pure, .mv (.tmp 0)⟩,
    ⟨(some 11), (some (9, false)), .pure, .nilCheck (.tmp 10)⟩,
    ⟨(some 12), (some (9, false)), .pure, .fieldAddr 1 (.tmp 11)⟩,
    ⟨(some 13), (some (9, false)), .read, .load false 1 (.tmp 12)⟩,
    ⟨(some 14), (some (9, false)), .pure, .mv (.tmp 0)⟩,
    ⟨(some 15), (some (9, false)), .pure, .nilCheck (.tmp 14)⟩,
    ⟨(some 16), (some (9, false)), .pure, .fieldAddr 0 (.tmp 15)⟩,
    ⟨(some 17), (some (9, false)), .read, .load false 1 (.tmp 16)⟩,
    ⟨(some 18), (some (9, false)), .pure, .len (.tmp 17)⟩,
    ⟨(some 19), (some (9, false)), .pure, .bin .geq (.tmp 13) (.tmp 18)⟩,
    ⟨(some 20), none, .pure, .pick (.tmp 9) (.const (.bool true)) (.tmp 19)⟩])
  (.cond (.tmp 20)
   (.seq (.region [
     ⟨(some 4), none, .act, .mv (.const (.bool false))⟩])
   .ret)
   .skip))
  (.seq (.regionT (.step ⟨(some 21), none, .pure, .mv (.tmp 0)⟩ (.step ⟨(some 22), none, .pure, .nilCheck (.tmp 21)⟩ (.step ⟨(some 23), none, .pure, .fieldAddr 0 (.tmp 22)⟩ (.step ⟨(some 25), none, .pure, .mv (.tmp 0)⟩ (.step ⟨(some 26), none, .pure, .nilCheck (.tmp 25)⟩ (.step ⟨(some 27), none, .pure, .fieldAddr 1 (.tmp 26)⟩ (.alt ⟨(some 24), none, .read, .load false 1 (.tmp 23)⟩ (.alt ⟨(some 28), none, .read, .load false 1 (.tmp 27)⟩ (.step ⟨(some 29), none, .pure, .indexAddr 4 (.tmp 24) (.tmp 28)⟩ (.step ⟨(some 30), none, .pure, .load true 4 (.tmp 29)⟩ (.alt ⟨(some 5), none, .act, .alloc [(.int .i64 0), (.string ⟨#[]⟩), (.int .i64 0), (.int .i64 0)]⟩ (.alt ⟨none, none, .act, .store 4 (.tmp 5) (.tmp 30)⟩ .done
    .stop)
    .stop)))
    (.alt ⟨(some 5), none, .act, .alloc [(.int .i64 0), (.string ⟨#[]⟩), (.int .i64 0), (.int .i64 0)]⟩ (.step ⟨(some 28), none, .read, .load false 1 (.tmp 27)⟩ (.step ⟨(some 29), none, .pure, .indexAddr 4 (.tmp 24) (.tmp 28)⟩ (.step ⟨(some 30), none, .pure, .load true 4 (.tmp 29)⟩ (.alt ⟨none, none, .act, .store 4 (.tmp 5) (.tmp 30)⟩ .done
    .stop))))
    .stop))
    (.alt ⟨(some 28), none, .read, .load false 1 (.tmp 27)⟩ (.alt ⟨(some 24), none, .read, .load false 1 (.tmp 23)⟩ (.step ⟨(some 29), none, .pure, .indexAddr 4 (.tmp 24) (.tmp 28)⟩ (.step ⟨(some 30), none, .pure, .load true 4 (.tmp 29)⟩ (.alt ⟨(some 5), none, .act, .alloc [(.int .i64 0), (.string ⟨#[]⟩), (.int .i64 0), (.int .i64 0)]⟩ (.alt ⟨none, none, .act, .store 4 (.tmp 5) (.tmp 30)⟩ .done
    .stop)
    .stop)))
    (.alt ⟨(some 5), none, .act, .alloc [(.int .i64 0), (.string ⟨#[]⟩), (.int .i64 0), (.int .i64 0)]⟩ (.step ⟨(some 24), none, .read, .load false 1 (.tmp 23)⟩ (.step ⟨(some 29), none, .pure, .indexAddr 4 (.tmp 24) (.tmp 28)⟩ (.step ⟨(some 30), none, .pure, .load true 4 (.tmp 29)⟩ (.alt ⟨none, none, .act, .store 4 (.tmp 5) (.tmp 30)⟩ .done
    .stop))))
    .stop))
    (.alt ⟨(some 5), none, .act, .alloc [(.int .i64 0), (.string ⟨#[]⟩), (.int .i64 0), (.int .i64 0)]⟩ (.step ⟨(some 24), none, .read, .load false 1 (.tmp 23)⟩ (.step ⟨(some 28), none, .read, .load false 1 (.tmp 27)⟩ (.step ⟨(some 29), none, .pure, .indexAddr 4 (.tmp 24) (.tmp 28)⟩ (.step ⟨(some 30), none, .pure, .load true 4 (.tmp 29)⟩ (.alt ⟨none, none, .act, .store 4 (.tmp 5) (.tmp 30)⟩ .done
    .stop)))))
    .stop))))))))))
  (.seq (.region [
    ⟨(some 31), none, .act, .fieldAddr 1 (.tmp 5)⟩,
    ⟨(some 32), none, .act, .load false 1 (.tmp 31)⟩,
    ⟨(some 33), none, .act, .mv (.tmp 1)⟩,
    ⟨(some 34), none, .act, .eq false .str (.tmp 32) (.tmp 33)⟩,
    ⟨(some 35), none, .act, .mv (.tmp 34)⟩,
    ⟨(some 36), (some (35, true)), .act, .fieldAddr 0 (.tmp 5)⟩,
    ⟨(some 37), (some (35, true)), .act, .load false 1 (.tmp 36)⟩,
    ⟨(some 38), (some (35, true)), .act, .eq false .int (.tmp 37) (.const (.int .i64 1))⟩,
    ⟨(some 39), (some (35, true)), .act, .mv (.tmp 38)⟩,
    ⟨(some 40), (some (39, false)), .act, .fieldAddr 0 (.tmp 5)⟩,
    ⟨(some 41), (some (39, false)), .act, .load false 1 (.tmp 40)⟩,
    ⟨(some 42), (some (39, false)), .act, .eq false .int (.tmp 41) (.const (.int .i64 4))⟩,
    ⟨(some 43), (some (35, true)), .act, .pick (.tmp 39) (.const (.bool true)) (.tmp 42)⟩,
    ⟨(some 44), none, .act, .pick (.tmp 35) (.tmp 43) (.const (.bool false))⟩,
    ⟨(some 4), none, .act, .mv (.tmp 44)⟩])
  .ret))))
theorem res47 : ∃ c, Try.f47.body = some c ∧ resCode Try.prog 45 c = some r47 := ⟨_, rfl, by kernel_rfl⟩
theorem rr47 : resRes Try.prog Try.f47.results.toList = some [.tmp 4] := by kernel_rfl
theorem is_spec (st : PS) (s : List UInt8) : PC0 T fin 47 [str s] st (bl (isP T st s)) := by
  intro p h ⟨hg, hp⟩
  obtain ⟨c', hc1, hc2⟩ := res47
  refine ACalls.weak (ACalls.enter Try.func47 hc1 Try.ntmps47 hc2 (Nat.le_of_ble_eq_true rfl) rfl ?_)
  have c14 := ok_spec st p h ⟨hg, hp⟩
  unfold pst toksA at hp
  have hlen : (T.map Pa.Tok.cells).length = T.length := by simp
  unfold isP
  by_cases hb : st.be = 0
  · rw [good_T hb] at c14 ⊢
    cases hl : T[st.i]? with
    | none =>
      have hi := List.getElem?_eq_none_iff.1 hl
      repeat' (first | refine S.nilK ?_ | (refine S.op rfl ?_; first | refine callN rfl rfl c14 rfl ?_ | refine R.mv rfl ?_ | refine R.fieldAddr rfl ?_ | refine R.nilCheck rfl ?_ | refine R.load (by decide) rfl (by (repeat' (first | assumption)); first | done | fail) rfl ?_ | refine R.pickF rfl rfl ?_ | refine R.len rfl ?_ | refine R.not rfl ?_ | ((first | refine S.geq rfl rfl ?_ ?_) <;> intro hlt <;> try (exfalso; omega))) | refine S.seq ?_ | refine S.region ?_ | refine S.condT rfl ?_)
      apply S.ret rr47
      case hx => repeat (first | exact ResAt.nil | apply ResAt.tmp rfl)
      exact ⟨_, h, .refl _, (by repeat (first | exact AHeap.le.refl _)), rfl, rfl⟩
    | some t =>
      have hi := (List.getElem?_eq_some_iff.1 hl).1
      have h1 : (T.map Pa.Tok.cells)[((st.i : Nat) : Int).toNat]? = some [i64 t.kind, str t.s, i64 t.n, i64 t.pos] := by simp [hl]; rfl
      cases hs : (t.s == s) with
      | true =>
        repeat' (first | refine S.nilK ?_ | (refine S.op rfl ?_; first | refine callN rfl rfl c14 rfl ?_ | refine R.indexAddr rfl rfl (by omega) h1 ?_ | refine S.eqSv rfl rfl hs ?_ | refine R.mv rfl ?_ | refine R.fieldAddr rfl ?_ | refine R.nilCheck rfl ?_ | refine R.loadR rfl rfl ?_ | refine R.load (by decide) rfl (by (repeat' (first | assumption | exact AHeap.set_same _ _ _ | refine AHeap.get_fresh ‹_› ?_)); first | done | fail) rfl ?_ | refine R.pickT rfl rfl ?_ | refine R.pickF rfl rfl ?_ | refine R.len rfl ?_ | refine R.not rfl ?_ | refine R.alloc rfl (fun b hb => ?_) | ((first | refine S.geq rfl rfl ?_ ?_ | refine S.eqInt rfl rfl ?_ ?_) <;> intro hlt <;> try (exfalso; omega))) | (refine S.op0 rfl ?_; first | refine S.storeN rfl rfl (by (repeat' (first | exact AHeap.set_same _ _ _)); first | done | fail) rfl rfl rfl (by rfl) rfl (by repeat' (first | exact AHeap.set_set _ _ _ _)) ?_) | refine S.skip rfl ?_ | refine S.seq ?_ | refine S.region ?_ | refine S.regionT ?_ | refine S.talt ?_ ?_ | exact S.tstop | refine S.condF rfl ?_ | refine RRun.skip ?_)
        all_goals
          apply S.ret rr47
          case hx => repeat (first | exact ResAt.nil | apply ResAt.tmp rfl)
          refine ⟨_, h, .refl _, (by repeat (first | exact AHeap.le.refl _ | refine AHeap.le.set ?_ _ (by (repeat' (first | assumption)); first | done | fail))), congrArg bl (Eq.symm ?_), rfl⟩
          simp only [Bool.true_and, hs]
          first | (rw [show (t.kind == 1) = true from beq_iff_eq.2 (by omega)]; rfl) | (rw [show (t.kind == 1) = false from beq_eq_false_iff_ne.2 (by omega), show (t.kind == 4) = true from beq_iff_eq.2 (by omega)]; rfl) | (rw [show (t.kind == 1) = false from beq_eq_false_iff_ne.2 (by omega), show (t.kind == 4) = false from beq_eq_false_iff_ne.2 (by omega)]; rfl)
      | false =>
        repeat' (first | refine S.nilK ?_ | (refine S.op rfl ?_; first | refine callN rfl rfl c14 rfl ?_ | refine R.indexAddr rfl rfl (by omega) h1 ?_ | refine S.eqSv rfl rfl hs ?_ | refine R.mv rfl ?_ | refine R.fieldAddr rfl ?_ | refine R.nilCheck rfl ?_ | refine R.loadR rfl rfl ?_ | refine R.load (by decide) rfl (by (repeat' (first | assumption | exact AHeap.set_same _ _ _ | refine AHeap.get_fresh ‹_› ?_)); first | done | fail) rfl ?_ | refine R.pickF rfl rfl ?_ | refine R.len rfl ?_ | refine R.not rfl ?_ | refine R.alloc rfl (fun b hb => ?_) | ((first | refine S.geq rfl rfl ?_ ?_) <;> intro hlt <;> try (exfalso; omega))) | (refine S.op0 rfl ?_; first | refine S.storeN rfl rfl (by (repeat' (first | exact AHeap.set_same _ _ _)); first | done | fail) rfl rfl rfl (by rfl) rfl (by repeat' (first | exact AHeap.set_set _ _ _ _)) ?_) | refine S.skip rfl ?_ | refine S.seq ?_ | refine S.region ?_ | refine S.regionT ?_ | refine S.talt ?_ ?_ | exact S.tstop | refine S.condF rfl ?_ | refine RRun.skip ?_)
        all_goals
          apply S.ret rr47
          case hx => repeat (first | exact ResAt.nil | apply ResAt.tmp rfl)
          exact ⟨_, h, .refl _, (by repeat (first | exact AHeap.le.refl _ | refine AHeap.le.set ?_ _ (by (repeat' (first | assumption)); first | done | fail))), congrArg bl (Eq.symm (by simp only [Bool.true_and, hs, Bool.false_and])), rfl⟩
  · rw [good_F hb] at c14 ⊢
    repeat' (first | refine S.nilK ?_ | (refine S.op rfl ?_; first | refine callN rfl rfl c14 rfl ?_ | refine R.mv rfl ?_ | refine R.pickT rfl rfl ?_ | refine R.not rfl ?_) | refine S.skip rfl ?_ | refine S.seq ?_ | refine S.region ?_ | refine S.condT rfl ?_)
    apply S.ret rr47
    case hx => repeat (first | exact ResAt.nil | apply ResAt.tmp rfl)
    exact ⟨_, h, .refl _, (by repeat (first | exact AHeap.le.refl _)), rfl, rfl⟩
theorem isP_i {st : PS} {s : List UInt8} (h : isP T st s = true) : st.i < T.length := Pa.isP_lt h
def r30 : RCode :=
  (.seq (.region [
    ⟨(some 4), none, .act, .mv (.const (.bool false))⟩])
  (.seq (.seq (.region [
    ⟨(some 5), none, .act, .mv (.tmp 0)⟩,
    ⟨(some 6), none, .act, .mv (.tmp 1)⟩,
    ⟨(some 7), none, .act, .call 47 [(.tmp 5), (.tmp 6)]⟩,
    ⟨(some 8), none, .act, .un .not (.tmp 7)⟩])
  (.cond (.tmp 8)
   (.seq (.region [
     ⟨(some 4), none, .act, .mv (.const (.bool false))⟩])
   .ret)
   .skip))
  (.seq (.region [
    ⟨(some 9), none, .act, .mv (.tmp 0)⟩,
    ⟨(some 10), none, .act, .nilCheck (.tmp 9)⟩,
    ⟨(some 11), none, .act, .fieldAddr 1 (.tmp 10)⟩,
    ⟨(some 12), none, .act, .load false 1 (.tmp 11)⟩,
    ⟨(some 13), none, .act, .bin .add (.tmp 12) (.const (.int .i64 1))⟩,
    ⟨(some 14), none, .act, .nilCheck (.tmp 9)⟩,
    ⟨(some 15), none, .act, .fieldAddr 1 (.tmp 14)⟩,
    ⟨none, none, .act, .store 1 (.tmp 15) (.tmp 13)⟩])
  (.seq (.region [
    ⟨(some 4), none, .act, .mv (.const (.bool true))⟩])
  .ret))))
theorem res30 : ∃ c, Try.f30.body = some c ∧ resCode Try.prog 16 c = some r30 := ⟨_, rfl, by kernel_rfl⟩
theorem rr30 : resRes Try.prog Try.f30.results.toList = some [.tmp 4] := by kernel_rfl
theorem take_spec (hT : T.length ≤ 400) (st : PS) (s : List UInt8) : PC T fin 30 [str s] st (bl (isP T st s)) (takeP T st s).2 := by
  intro p h ⟨hg, hp⟩
  obtain ⟨c', hc1, hc2⟩ := res30
  refine ACalls.enter Try.func30 hc1 Try.ntmps30 hc2 (Nat.le_of_ble_eq_true rfl) rfl ?_
  have c47 := is_spec st s p h ⟨hg, hp⟩
  unfold takeP
  cases hs : isP T st s with
  | true =>
    rw [hs] at c47
    have hi := isP_i hs
    unfold pst at hp ⊢
    repeat' (first | refine S.nilK ?_ | (refine S.op rfl ?_; first | refine callN rfl rfl c47 rfl ?_ | refine R.mv rfl ?_ | refine R.fieldAddr rfl ?_ | refine R.nilCheck rfl ?_ | refine R.load (by decide) rfl (by (repeat' (first | assumption)); first | done | fail) rfl ?_ | refine S.addI rfl rfl (by omega) ?_ | refine R.not rfl ?_) | (refine S.op0 rfl ?_; first | refine S.storeN rfl rfl (by (repeat' (first | assumption)); first | done | fail) rfl rfl rfl (by rfl) rfl (by repeat' (first | exact rfl)) ?_) | refine S.seq ?_ | refine S.region ?_ | refine S.condF rfl ?_ | refine RRun.skip ?_)
    apply S.ret rr30
    case hx => repeat (first | exact ResAt.nil | apply ResAt.tmp rfl)
    refine ⟨rfl, ?_⟩
    rw [if_pos rfl]
    congr 1
  | false =>
    rw [hs] at c47
    unfold pst at hp ⊢
    repeat' (first | refine S.nilK ?_ | (refine S.op rfl ?_; first | refine callN rfl rfl c47 rfl ?_ | refine R.mv rfl ?_ | refine R.not rfl ?_) | refine S.seq ?_ | refine S.region ?_ | refine S.condT rfl ?_)
    apply S.ret rr30
    case hx => repeat (first | exact ResAt.nil | apply ResAt.tmp rfl)
    exact ⟨rfl, (AHeap.set_eq _ hp).symm⟩
theorem take_T (hT : T.length ≤ 400) {st : PS} {s : List UInt8} (hs : isP T st s = true) : PC T fin 30 [str s] st (bl true) st.next := by
  have := take_spec (fin := fin) hT st s
  rwa [show takeP T st s = (true, st.next) by rw [takeP, if_pos hs], hs] at this
theorem take_F (hT : T.length ≤ 400) {st : PS} {s : List UInt8} (hs : isP T st s = false) : PC0 T fin 30 [str s] st (bl false) := by
  intro p h ⟨hg, hp⟩
  have := take_spec (fin := fin) hT st s p h ⟨hg, hp⟩
  rw [show takeP T st s = (false, st) by rw [takeP, if_neg (by rw [hs]; decide)], hs] at this
  exact this.mono fun x' h' ⟨e1, e2⟩ => ⟨e1, e2.trans (AHeap.set_eq _ hp)⟩
def strsA (l : List (List UInt8)) (c : Cap) : AV := .sl 1 (l.map fun s => [str s]) c
theorem needP_app : ∀ (a b : List (List UInt8)) (st : PS), needP T fin st (a ++ b) = needP T fin (needP T fin st a) b
  | [], b, st => rfl
  | s :: a, b, st => by rw [List.cons_append, needP, needP, needP_app a b]
def r34l0 : RCode :=
  (.seq (.region [
    ⟨(some 9), none, .act, .bin .lss (.tmp 8) (.tmp 7)⟩])
  (.seq (.cond (.tmp 9)
   .skip
   (.exit 0))
  (.seq (.block 1
   (.seq (.region [
     ⟨(some 10), none, .act, .indexAddr 1 (.tmp 6) (.tmp 8)⟩,
     ⟨(some 11), none, .act, .load false 1 (.tmp 10)⟩,
     ⟨(some 5), none, .act, .mv (.tmp 11)⟩])
   (.seq (.region [
     ⟨(some 12), none, .act, .mv (.tmp 0)⟩,
     ⟨(some 13), none, .act, .mv (.tmp 5)⟩,
     ⟨(some 14), none, .act, .call 30 [(.tmp 12), (.tmp 13)]⟩,
     ⟨(some 15), none, .act, .un .not (.tmp 14)⟩])
   (.cond (.tmp 15)
    (.region [
      ⟨(some 16), none, .act, .mv (.tmp 0)⟩,
      ⟨(some 17), none, .act, .call 13 [(.tmp 16)]⟩])
    .skip))))
  (.region [
    ⟨(some 18), none, .act, .bin .add (.tmp 8) (.const (.int .i64 1))⟩,
    ⟨(some 8), none, .act, .mv (.tmp 18)⟩]))))
def r34 : RCode :=
  (.seq (.region [
    ⟨(some 6), none, .act, .mv (.tmp 1)⟩,
    ⟨(some 7), none, .act, .len (.tmp 6)⟩,
    ⟨(some 8), none, .act, .mv (.const (.int .i64 0))⟩])
  (.block 0
   (.loop r34l0)))
theorem res34 : ∃ c, Try.f34.body = some c ∧ resCode Try.prog 19 c = some r34 := ⟨_, rfl, by kernel_rfl⟩
theorem rr34 : resRes Try.prog Try.f34.results.toList = some [] := by kernel_rfl
theorem need_loop (hT : T.length ≤ 400) (l : List (List UInt8)) (hl : l.length ≤ 100) (c : Cap) (st : PS) (p : Nat) (h0 : AHeap) (hg0 : Glob h0) (hp0 : h0 p = some (.box (pst T fin st))) : ∀ (m i : Nat), i + m = l.length →
    RRun Try.prog Try.f34 19 (.inLoop r34l0 :: .inBlock 0 :: []) (Env.get [(0, ptr p), (6, strsA l c), (7, i64 l.length), (8, i64 i)]) (h0.set p (.box (pst T fin (needP T fin st (l.take i))))) (fun _ h' => h' = h0.set p (.box (pst T fin (needP T fin st l)))) := by
  intro m
  induction m with
  | zero =>
    intro i hi
    rw [List.take_of_length_le (by omega)]
    refine RRun.inLoop ?_
    repeat' (first | refine S.nilK ?_ | (refine S.op rfl ?_; first | ((first | refine S.lss rfl rfl ?_ ?_) <;> intro hlt <;> try (exfalso; omega))) | refine S.seq ?_ | refine S.region ?_ | refine S.condF rfl ?_ | refine RRun.exit rfl ?_)
    apply S.done rr34
    case hx => repeat (first | exact ResAt.nil)
    rfl
  | succ m ih =>
    intro i hi
    have hie : i < l.length := by omega
    have h1 : (l.map fun s => [str s])[((i : Nat) : Int).toNat]? = some [str l[i]] := by simp [hie]
    have hnext : needP T fin st (l.take (i + 1)) = needP T fin (needP T fin st (l.take i)) [l[i]] := by
      rw [List.take_add_one, List.getElem?_eq_getElem hie, needP_app]; rfl
    have ih' := ih (i + 1) (by omega)
    rw [hnext, show ((i + 1 : Nat) : Int) = (i : Int) + 1 by omega] at ih'
    generalize needP T fin st (l.take i) = st1 at ih' ⊢
    refine RRun.inLoop ?_
    unfold strsA
    cases hq : isP T st1 l[i] with
    | true =>
      rw [needP, if_pos hq, needP] at ih'
      have ct := take_T (fin := fin) hT hq p (h0.set p (.box (pst T fin st1))) ⟨hg0.setP hp0, AHeap.set_same _ _ _⟩
      rw [AHeap.set_set] at ct
      repeat' (first | refine S.nilK ?_ | (refine S.op rfl ?_; first | refine R.indexAddr rfl rfl (by omega) h1 ?_ | refine callN rfl rfl ct rfl ?_ | refine R.mv rfl ?_ | refine R.loadR rfl rfl ?_ | refine S.addI rfl rfl (by omega) ?_ | refine R.not rfl ?_ | ((first | refine S.lss rfl rfl ?_ ?_) <;> intro hlt <;> try (exfalso; omega))) | refine S.seq ?_ | refine S.region ?_ | refine S.condT rfl ?_ | refine S.condF rfl ?_ | refine RRun.skip ?_ | refine RRun.block ?_ | refine RRun.inBlock ?_)
      exact S.keep [0, 6, 7, 8] rfl ih'
    | false =>
      rw [needP, if_neg (by rw [hq]; decide), needP] at ih'
      have ct := take_F (fin := fin) hT hq p (h0.set p (.box (pst T fin st1))) ⟨hg0.setP hp0, AHeap.set_same _ _ _⟩
      have cw := wrong_spec (fin := fin) st1 p (h0.set p (.box (pst T fin st1))) ⟨hg0.setP hp0, AHeap.set_same _ _ _⟩
      rw [AHeap.set_set] at cw
      repeat' (first | refine S.nilK ?_ | (refine S.op rfl ?_; first | refine R.indexAddr rfl rfl (by omega) h1 ?_ | refine callN rfl rfl ct rfl ?_ | refine callNU rfl rfl cw rfl (fun x => ?_) | refine R.mv rfl ?_ | refine R.loadR rfl rfl ?_ | refine S.addI rfl rfl (by omega) ?_ | refine R.not rfl ?_ | ((first | refine S.lss rfl rfl ?_ ?_) <;> intro hlt <;> try (exfalso; omega))) | refine S.seq ?_ | refine S.region ?_ | refine S.condT rfl ?_ | refine RRun.skip ?_ | refine RRun.block ?_ | refine RRun.inBlock ?_)
      exact S.keep [0, 6, 7, 8] rfl ih'
theorem need_spec (hT : T.length ≤ 400) (l : List (List UInt8)) (hl : l.length ≤ 100) (c : Cap) (st : PS) : PCU T fin 34 [strsA l c] st (needP T fin st l) := by
  intro p h ⟨hg, hp⟩
  obtain ⟨c', hc1, hc2⟩ := res34
  refine ACalls.enter Try.func34 hc1 Try.ntmps34 hc2 (Nat.le_of_ble_eq_true rfl) rfl ?_
  have hlen : (l.map fun s => [str s]).length = l.length := by simp
  unfold strsA
  repeat' (first | refine S.nilK ?_ | (refine S.op rfl ?_; first | refine R.mv rfl ?_ | refine R.len rfl ?_) | refine S.seq ?_ | refine S.region ?_ | refine RRun.block ?_)
  rw [hlen]
  have := need_loop (fin := fin) hT l hl c st p h hg hp l.length 0 (by omega)
  rw [List.take_zero, needP, AHeap.set_eq _ hp] at this
  exact RRun.loopIn (S.keep [0, 6, 7, 8] rfl this)
end
end Go.Proofs.Ytdinnoejipmiiaa

namespace Go.Proofs.Ytdinnoejipmiiaa
open Go.Av
open Go.Av.Pa (PS atP isP wrongP takeP needP kindP nameP)
section
variable {T : List Tok} {fin : Int}
structure TOk (T : List Tok) : Prop where
  len : T.length ≤ 400
  txt : ∀ t ∈ T, t.s.length ≤ 100000000
theorem words_eq : Pa.words = [32, 99, 114, 101, 97, 116, 101, 32, 116, 97, 98, 108, 101, 32, 105, 110, 100, 101, 120, 32, 105, 110, 116, 32, 116, 101, 120, 116, 32, 110, 111, 116, 32, 110, 117, 108, 108, 32, 112, 114, 105, 109, 97, 114, 121, 32, 107, 101, 121, 32, 105, 110, 115, 101, 114, 116, 32, 105, 110, 116, 111, 32, 118, 97, 108, 117, 101, 115, 32, 117, 112, 100, 97, 116, 101, 32, 115, 101, 116, 32, 119, 104, 101, 114, 101, 32, 100, 101, 108, 101, 116, 101, 32, 102, 114, 111, 109, 32, 115, 101, 108, 101, 99, 116, 32, 106, 111, 105, 110, 32, 111, 110, 32, 103, 114, 111, 117, 112, 32, 98, 121, 32, 111, 114, 100, 101, 114, 32, 100, 101, 115, 99, 32, 108, 105, 109, 105, 116, 32, 102, 111, 114, 32, 98, 101, 103, 105, 110, 32, 114, 101, 97, 100, 32, 99, 111, 109, 109, 105, 116, 116, 101, 100, 32, 97, 116, 111, 109, 105, 99, 32, 115, 110, 97, 112, 115, 104, 111, 116, 32, 115, 101, 114, 105, 97, 108, 105, 122, 97, 98, 108, 101, 32, 99, 111, 109, 109, 105, 116, 32, 114, 111, 108, 108, 98, 97, 99, 107, 32, 116, 111, 32, 115, 97, 118, 101, 112, 111, 105, 110, 116, 32, 111, 114, 32, 97, 110, 100, 32, 105, 115, 32, 99, 111, 117, 110, 116, 32, 115, 117, 109, 32, 109, 105, 110, 32, 109, 97, 120, 32] := by decide +kernel
def r63 : RCode :=
  (.seq (.region [
    ⟨(some 2), none, .act, .mv (.const (.bool false))⟩])
  (.seq (.region [
    ⟨(some 3), none, .act, .mv (.tmp 0)⟩,
    ⟨(some 4), none, .act, .bin .add (.const (.string ⟨#[32]⟩)) (.tmp 3)⟩,
    ⟨(some 5), none, .act, .bin .add (.tmp 4) (.const (.string ⟨#[32]⟩))⟩,
    ⟨(some 6), none, .act, .call 74 [(.const (.string ⟨#[32, 99, 114, 101, 97, 116, 101, 32, 116, 97, 98, 108, 101, 32, 105, 110, 100, 101, 120, 32, 105, 110, 116, 32, 116, 101, 120, 116, 32, 110, 111, 116, 32, 110, 117, 108, 108, 32, 112, 114, 105, 109, 97, 114, 121, 32, 107, 101, 121, 32, 105, 110, 115, 101, 114, 116, 32, 105, 110, 116, 111, 32, 118, 97, 108, 117, 101, 115, 32, 117, 112, 100, 97, 116, 101, 32, 115, 101, 116, 32, 119, 104, 101, 114, 101, 32, 100, 101, 108, 101, 116, 101, 32, 102, 114, 111, 109, 32, 115, 101, 108, 101, 99, 116, 32, 106, 111, 105, 110, 32, 111, 110, 32, 103, 114, 111, 117, 112, 32, 98, 121, 32, 111, 114, 100, 101, 114, 32, 100, 101, 115, 99, 32, 108, 105, 109, 105, 116, 32, 102, 111, 114, 32, 98, 101, 103, 105, 110, 32, 114, 101, 97, 100, 32, 99, 111, 109, 109, 105, 116, 116, 101, 100, 32, 97, 116, 111, 109, 105, 99, 32, 115, 110, 97, 112, 115, 104, 111, 116, 32, 115, 101, 114, 105, 97, 108, 105, 122, 97, 98, 108, 101, 32, 99, 111, 109, 109, 105, 116, 32, 114, 111, 108, 108, 98, 97, 99, 107, 32, 116, 111, 32, 115, 97, 118, 101, 112, 111, 105, 110, 116, 32, 111, 114, 32, 97, 110, 100, 32, 105, 115, 32, 99, 111, 117, 110, 116, 32, 115, 117, 109, 32, 109, 105, 110, 32, 109, 97, 120, 32]⟩)), (.tmp 5)]⟩,
    ⟨(some 2), none, .act, .mv (.tmp 6)⟩])
  .ret))
theorem res63 : ∃ c, Try.f63.body = some c ∧ resCode Try.prog 7 c = some r63 := ⟨_, rfl, by kernel_rfl⟩
theorem rr63 : resRes Try.prog Try.f63.results.toList = some [.tmp 2] := by kernel_rfl
theorem reserved_spec (s : List UInt8) (hs : s.length ≤ 100000000) (h : AHeap) (hg : Glob h) : ACalls Try.prog 63 [str s] h (fun x h' => x = bl (Pa.reserved s) ∧ h' = h) := by
  obtain ⟨c', hc1, hc2⟩ := res63
  refine ACalls.enter Try.func63 hc1 Try.ntmps63 hc2 (Nat.le_of_ble_eq_true rfl) rfl ?_
  have c74 := within_spec Pa.words (32 :: s ++ [32]) (by decide +kernel) h hg
  rw [show Pa.within Pa.words (32 :: s ++ [32]) = Pa.reserved s from rfl, words_eq] at c74
  repeat' (first | refine S.nilK ?_ | (refine S.op rfl ?_; first | refine S.concat (a := [32]) rfl rfl (by simp; omega) ?_ | refine S.concat (b := [32]) rfl rfl (by simp; omega) ?_ | refine callN rfl rfl c74 rfl ?_ | refine R.mv rfl ?_) | refine S.seq ?_ | refine S.region ?_)
  apply S.ret rr63
  case hx => repeat (first | exact ResAt.nil | apply ResAt.tmp rfl)
  exact ⟨rfl, rfl⟩
def tokO (o : Option Tok) : List AV := (o.getD ⟨0, [], 0, 0⟩).cells
def kindA (o : Option Tok) : AV := .tu [.ag (tokO o), bl o.isSome]
def r51 : RCode :=
  (.seq (.region [
    ⟨(some 4), none, .act, .alloc [(.int .i64 0), (.string ⟨#[]⟩), (.int .i64 0), (.int .i64 0)]⟩,
    ⟨(some 5), none, .act, .mv (.const (.bool false))⟩])
  (.seq (.seq (.region [
    ⟨(some 6), none, .pure, .mv (.tmp 0)⟩,
    ⟨(some 7), none, .act, .call 14 [(.tmp 6)]⟩,
    ⟨(some 8), none, .pure, .un .not (.tmp 7)⟩,
    ⟨(some 9), none, .pure, .mv (.tmp 8)⟩,
    ⟨(some 10), (some (9, false)), .pure, .mv (.tmp 0)⟩,
    ⟨(some 11), (some (9, false)), .pure, .nilCheck (.tmp 10)⟩,
    ⟨(some 12), (some (9, false)), .pure, .fieldAddr 1 (.tmp 11)⟩,
    ⟨(some 13), (some (9, false)), .read, .load false 1 (.tmp 12)⟩,
    ⟨(some 14), (some (9, false)), .pure, .mv (.tmp 0)⟩,
    ⟨(some 15), (some (9, false)), .pure, .nilCheck (.tmp 14)⟩,
    ⟨(some 16), (some (9, false)), .pure, .fieldAddr 0 (.tmp 15)⟩,
    ⟨(some 17), (some (9, false)), .read, .load false 1 (.tmp 16)⟩,
    ⟨(some 18), (some (9, false)), .pure, .len (.tmp 17)⟩,
    ⟨(some 19), (some (9, false)), .pure, .bin .geq (.tmp 13) (.tmp 18)⟩,
    ⟨(some 20), none, .pure, .pick (.tmp 9) (.const (.bool true)) (.tmp 19)⟩,
    ⟨(some 21), none, .pure, .mv (.tmp 20)⟩,
    ⟨(some 22), (some (21, false)), .pure, .mv (.tmp 0)⟩,
    ⟨(some 23), (some (21, false)), .pure, .nilCheck (.tmp 22)⟩,
    ⟨(some 24), (some (21, false)), .pure, .fieldAddr 0 (.tmp 23)⟩,
    ⟨(some 25), (some (21, false)), .read, .load false 1 (.tmp 24)⟩,
    ⟨(some 26), (some (21, false)), .pure, .mv (.tmp 0)⟩,
    ⟨(some 27), (some (21, false)), .pure, .nilCheck (.tmp 26)⟩,
    ⟨(some 28), (some (21, false)), .pure, .fieldAddr 1 (.tmp 27)⟩,
    ⟨(some 29), (some (21, false)), .read, .load false 1 (.tmp 28)⟩,
    ⟨(some 30), (some (21, false)), .pure, .indexAddr 4 (.tmp 25) (.tmp 29)⟩,
    ⟨(some 31), (some (21, false)), .pure, .fieldAddr 0 (.tmp 30)⟩,
    ⟨(some 32), (some (21, false)), .read, .load false 1 (.tmp 31)⟩,
    ⟨(some 33), (some (21, false)), .pure, .mv (.tmp 1)⟩,
    ⟨(some 34), (some (21, false)), .pure, .eq true .int (.tmp 32) (.tmp 33)⟩,
    ⟨(some 35), none, .pure, .pick (.tmp 21) (.const (.bool true)) (.tmp 34)⟩,
    ⟨(some 36), none, .pure, .mv (.tmp 35)⟩,
    ⟨(some 37), (some (36, false)), .pure, .mv (.tmp 1)⟩,
    ⟨(some 38), (some (36, false)), .pure, .eq false .int (.tmp 37) (.const (.int .i64 1))⟩,
    ⟨(some 39), (some (36, false)), .pure, .mv (.tmp 38)⟩,
    ⟨(some 40), (some (39, true)), .pure, .mv (.tmp 0)⟩,
    ⟨(some 41), (some (39, true)), .pure, .nilCheck (.tmp 40)⟩,
    ⟨(some 42), (some (39, true)), .pure, .fieldAddr 0 (.tmp 41)⟩,
    ⟨(some 43), (some (39, true)), .read, .load false 1 (.tmp 42)⟩,
    ⟨(some 44), (some (39, true)), .pure, .mv (.tmp 0)⟩,
    ⟨(some 45), (some (39, true)), .pure, .nilCheck (.tmp 44)⟩,
    ⟨(some 46), (some (39, true)), .pure, .fieldAddr 1 (.tmp 45)⟩,
    ⟨(some 47), (some (39, true)), .read, .load false 1 (.tmp 46)⟩,
    ⟨(some 48), (some (39, true)), .pure, .indexAddr 4 (.tmp 43) (.tmp 47)⟩,
    ⟨(some 49), (some (39, true)), .pure, .fieldAddr 1 (.tmp 48)⟩,
    ⟨(some 50), (some (39, true)), .read, .load false 1 (.tmp 49)⟩,
    ⟨(some 51), (some (39, true)), .act, .call 63 [(.tmp 50)]⟩,
    ⟨(some 52), (some (36, false)), .pure, .pick (.tmp 39) (.tmp 51) (.const (.bool false))⟩,
    ⟨(some 53), none, .pure, .pick (.tmp 36) (.const (.bool true)) (.tmp 52)⟩])
  (.cond (.tmp 53)
   (.seq (.region [
     ⟨(some 54), none, .act, .build [(.int .i64 0), (.string ⟨#[]⟩), (.int .i64 0), (.int .i64 0)] []⟩,
     ⟨none, none, .act, .store 4 (.tmp 4) (.tmp 54)⟩,
     ⟨(some 5), none, .act, .mv (.const (.bool false))⟩])
   .ret)
   .skip))
  (.seq (.region [
    ⟨(some 55), none, .act, .mv (.tmp 0)⟩,
    ⟨(some 56), none, .act, .nilCheck (.tmp 55)⟩,
    ⟨(some 57), none, .act, .fieldAddr 1 (.tmp 56)⟩,
    ⟨(some 58), none, .act, .load false 1 (.tmp 57)⟩,
    ⟨(some 59), none, .act, .bin .add (.tmp 58) (.const (.int .i64 1))⟩,
    ⟨(some 60), none, .act, .nilCheck (.tmp 55)⟩,
    ⟨(some 61), none, .act, .fieldAddr 1 (.tmp 60)⟩,
    ⟨none, none, .act, .store 1 (.tmp 61) (.tmp 59)⟩])
  (.seq (.region [
    ⟨(some 62), none, .pure, .mv (.tmp 0)⟩,
    ⟨(some 63), none, .pure, .nilCheck (.tmp 62)⟩,
    ⟨(some 64), none, .pure, .fieldAddr 0 (.tmp 63)⟩,
    ⟨(some 65), none, .read, .load false 1 (.tmp 64)⟩,
    ⟨(some 66), none, .pure, .mv (.tmp 0)⟩,
    ⟨(some 67), none, .pure, .nilCheck (.tmp 66)⟩,
    ⟨(some 68), none, .pure, .fieldAddr 1 (.tmp 67)⟩,
    ⟨(some 69), none, .read, .load false 1 (.tmp 68)⟩,
    ⟨(some 70), none, .pure, .bin .sub (.tmp 69) (.const (.int .i64 1))⟩,
    ⟨(some 71), none, .pure, .indexAddr 4 (.tmp 65) (.tmp 70)⟩,
    ⟨(some 72), none, .read, .load true 4 (.tmp 71)⟩,
    ⟨none, none, .act, .store 4 (.tmp 4) (.tmp 72)⟩,
    ⟨(some 5), none, .pure, .mv (.const (.bool true))⟩])
  .ret))))
theorem res51 : ∃ c, Try.f51.body = some c ∧ resCode Try.prog 73 c = some r51 := ⟨_, rfl, by kernel_rfl⟩
theorem rr51 : resRes Try.prog Try.f51.results.toList = some [.cell 4 true 4, .tmp 5] := by kernel_rfl
theorem kind_spec (hT : TOk T) (st : PS) (k : Int) : PC T fin 51 [i64 k] st (kindA (kindP T st k).1) (kindP T st k).2 := by
  intro p h ⟨hg, hp⟩
  obtain ⟨c', hc1, hc2⟩ := res51
  refine ACalls.weak (ACalls.enter Try.func51 hc1 Try.ntmps51 hc2 (Nat.le_of_ble_eq_true rfl) rfl ?_)
  have c14 := ok_spec (T := T) (fin := fin) st
  have hsame : h.set p (.box (pst T fin st)) = h := AHeap.set_eq _ hp
  unfold pst toksA at hp
  have hlen : (T.map Pa.Tok.cells).length = T.length := by simp
  have hT1 := hT.len
  unfold kindP
  by_cases hb : st.be = 0
  · rw [good_T hb] at c14 ⊢
    cases hl : T[st.i]? with
    | none =>
      have hi := List.getElem?_eq_none_iff.1 hl
      repeat' (first | refine S.nilK ?_ | (refine S.op rfl ?_; first | (show ROpS _ _ (.call 14 _) _ _ _; refine callPC0 rfl rfl c14 (by repeat' (first | assumption | refine Glob.setF ?_ (by (repeat' (first | assumption)); first | done | fail))) (by (repeat' (first | assumption | refine AHeap.get_fresh ‹_› ?_)); first | done | fail) ?_) | refine R.mv rfl ?_ | refine R.fieldAddr rfl ?_ | refine R.nilCheck rfl ?_ | refine R.load (by decide) rfl (by (repeat' (first | assumption | refine AHeap.get_fresh ‹_› ?_)); first | done | fail) rfl ?_ | refine R.pickT rfl rfl ?_ | refine R.pickF rfl rfl ?_ | refine R.len rfl ?_ | refine R.not rfl ?_ | refine R.alloc rfl (fun b hb => ?_) | refine R.build rfl rfl ?_ | ((first | refine S.geq rfl rfl ?_ ?_) <;> intro hlt <;> try (exfalso; omega))) | (refine S.op0 rfl ?_; first | refine S.storeN rfl rfl (by (repeat' (first | exact AHeap.set_same _ _ _)); first | done | fail) rfl rfl rfl (by rfl) rfl (by repeat' (first | exact AHeap.set_set _ _ _ _)) ?_) | refine S.skip rfl ?_ | refine S.seq ?_ | refine S.region ?_ | refine S.condT rfl ?_)
      apply S.ret rr51
      case hx => repeat (first | exact ResAt.nil | apply ResAt.tmp rfl | apply ResAt.cellA rfl (by (repeat' (first | exact AHeap.set_same _ _ _)); first | done | fail) (by rfl))
      exact ⟨_, h, .refl _, (by repeat (first | exact AHeap.le.refl _ | refine AHeap.le.set ?_ _ (by (repeat' (first | assumption)); first | done | fail))), rfl, hsame.symm⟩
    | some t =>
      have hi := (List.getElem?_eq_some_iff.1 hl).1
      have h1 : (T.map Pa.Tok.cells)[((st.i : Nat) : Int).toNat]? = some [i64 t.kind, str t.s, i64 t.n, i64 t.pos] := by simp [hl]; rfl
      have h2 : ((st.i : Nat) : Int) + 1 - 1 = ((st.i : Nat) : Int) := by omega
      have c63 := reserved_spec t.s (hT.txt _ (List.mem_of_getElem? hl))
      simp only [Bool.true_and]
      by_cases hk : t.kind = k
      · rw [show (t.kind == k) = true from beq_iff_eq.2 hk]
        by_cases hk1 : k = 1
        · rw [show (k == 1) = true from beq_iff_eq.2 hk1]
          generalize Pa.reserved t.s = rv at c63 ⊢
          cases rv with
          | true =>
            repeat' (first | refine S.nilK ?_ | (refine S.op rfl ?_; first | (show ROpS _ _ (.call 14 _) _ _ _; refine callPC0 rfl rfl c14 (by repeat' (first | assumption | refine Glob.setF ?_ (by (repeat' (first | assumption)); first | done | fail))) (by (repeat' (first | assumption | refine AHeap.get_fresh ‹_› ?_)); first | done | fail) ?_) | (show ROpS _ _ (.call 63 _) _ _ _; refine callG rfl rfl c63 (by repeat' (first | assumption | refine Glob.setF ?_ (by (repeat' (first | assumption)); first | done | fail))) ?_) | refine R.indexAddr rfl rfl (by omega) h1 ?_ | refine R.mv rfl ?_ | refine R.fieldAddr rfl ?_ | refine R.fieldAddrR rfl ?_ | refine R.nilCheck rfl ?_ | refine R.loadR rfl rfl ?_ | refine R.load (by decide) rfl (by (repeat' (first | assumption | refine AHeap.get_fresh ‹_› ?_)); first | done | fail) rfl ?_ | refine R.pickT rfl rfl ?_ | refine R.pickF rfl rfl ?_ | refine R.len rfl ?_ | refine R.not rfl ?_ | refine R.alloc rfl (fun b hb => ?_) | refine R.build rfl rfl ?_ | ((first | refine S.geq rfl rfl ?_ ?_ | refine S.eqInt rfl rfl ?_ ?_) <;> intro hlt <;> try (exfalso; omega))) | (refine S.op0 rfl ?_; first | refine S.storeN rfl rfl (by (repeat' (first | exact AHeap.set_same _ _ _)); first | done | fail) rfl rfl rfl (by rfl) rfl (by repeat' (first | exact AHeap.set_set _ _ _ _)) ?_) | refine S.seq ?_ | refine S.region ?_ | refine S.condT rfl ?_)
            apply S.ret rr51
            case hx => repeat (first | exact ResAt.nil | apply ResAt.tmp rfl | apply ResAt.cellA rfl (by (repeat' (first | exact AHeap.set_same _ _ _)); first | done | fail) (by rfl))
            exact ⟨_, h, .refl _, (by repeat (first | exact AHeap.le.refl _ | refine AHeap.le.set ?_ _ (by (repeat' (first | assumption)); first | done | fail))), rfl, hsame.symm⟩
          | false =>
            repeat' (first | refine S.nilK ?_ | (refine S.op rfl ?_; first | (show ROpS _ _ (.call 14 _) _ _ _; refine callPC0 rfl rfl c14 (by repeat' (first | assumption | refine Glob.setF ?_ (by (repeat' (first | assumption)); first | done | fail))) (by (repeat' (first | assumption | refine AHeap.get_fresh ‹_› ?_)); first | done | fail) ?_) | (show ROpS _ _ (.call 63 _) _ _ _; refine callG rfl rfl c63 (by repeat' (first | assumption | refine Glob.setF ?_ (by (repeat' (first | assumption)); first | done | fail))) ?_) | refine R.indexAddr rfl rfl (by omega) h1 ?_ | refine S.subK _ _ _ rfl rfl (by omega) h2 ?_ | refine R.mv rfl ?_ | refine R.fieldAddr rfl ?_ | refine R.fieldAddrR rfl ?_ | refine R.nilCheck rfl ?_ | refine R.loadR rfl rfl ?_ | refine R.load (by decide) rfl (by (repeat' (first | assumption | exact AHeap.set_same _ _ _ | refine AHeap.get_fresh ‹_› ?_ | refine AHeap.so ?_ ?_ | exact AHeap.ne_of ‹_› ‹_›)); first | done | fail) rfl ?_ | refine S.addI rfl rfl (by omega) ?_ | refine R.pickT rfl rfl ?_ | refine R.pickF rfl rfl ?_ | refine R.len rfl ?_ | refine R.not rfl ?_ | refine R.alloc rfl (fun b hb => ?_) | ((first | refine S.geq rfl rfl ?_ ?_ | refine S.eqInt rfl rfl ?_ ?_) <;> intro hlt <;> try (exfalso; omega))) | (refine S.op0 rfl ?_; first | refine S.storeN rfl rfl (by (repeat' (first | assumption | exact AHeap.set_same _ _ _ | refine AHeap.get_fresh ‹_› ?_)); first | done | fail) rfl rfl rfl (by rfl) rfl (by repeat' (first | exact AHeap.set_set _ _ _ _ | (apply AHeap.upd1; · exact (by first | exact AHeap.n4 ‹_› ‹_›)) | exact rfl)) ?_) | refine S.seq ?_ | refine S.region ?_ | refine S.condF rfl ?_ | refine RRun.skip ?_)
            apply S.ret rr51
            case hx => repeat (first | exact ResAt.nil | apply ResAt.tmp rfl | apply ResAt.cellA rfl (by (repeat' (first | exact AHeap.set_same _ _ _)); first | done | fail) (by rfl))
            exact ⟨_, h.set p (.box (pst T fin st.next)), .refl _, (by repeat (first | exact AHeap.le.refl _ | refine AHeap.le.set ?_ _ (by (repeat' (first | assumption | refine AHeap.so ?_ ?_ | exact AHeap.n4 ‹_› ‹_›)); first | done | fail))), rfl, rfl⟩
        · rw [show (k == 1) = false from beq_eq_false_iff_ne.2 hk1]
          repeat' (first | refine S.nilK ?_ | (refine S.op rfl ?_; first | (show ROpS _ _ (.call 14 _) _ _ _; refine callPC0 rfl rfl c14 (by repeat' (first | assumption | refine Glob.setF ?_ (by (repeat' (first | assumption)); first | done | fail))) (by (repeat' (first | assumption | refine AHeap.get_fresh ‹_› ?_)); first | done | fail) ?_) | refine R.indexAddr rfl rfl (by omega) h1 ?_ | refine S.subK _ _ _ rfl rfl (by omega) h2 ?_ | refine R.mv rfl ?_ | refine R.fieldAddr rfl ?_ | refine R.fieldAddrR rfl ?_ | refine R.nilCheck rfl ?_ | refine R.loadR rfl rfl ?_ | refine R.load (by decide) rfl (by (repeat' (first | assumption | exact AHeap.set_same _ _ _ | refine AHeap.get_fresh ‹_› ?_ | refine AHeap.so ?_ ?_ | exact AHeap.ne_of ‹_› ‹_›)); first | done | fail) rfl ?_ | refine S.addI rfl rfl (by omega) ?_ | refine R.pickF rfl rfl ?_ | refine R.len rfl ?_ | refine R.not rfl ?_ | refine R.alloc rfl (fun b hb => ?_) | ((first | refine S.geq rfl rfl ?_ ?_ | refine S.eqInt rfl rfl ?_ ?_) <;> intro hlt <;> try (exfalso; omega))) | (refine S.op0 rfl ?_; first | refine S.storeN rfl rfl (by (repeat' (first | assumption | exact AHeap.set_same _ _ _ | refine AHeap.get_fresh ‹_› ?_)); first | done | fail) rfl rfl rfl (by rfl) rfl (by repeat' (first | exact AHeap.set_set _ _ _ _ | (apply AHeap.upd1; · exact (by first | exact AHeap.n4 ‹_› ‹_›)) | exact rfl)) ?_) | refine S.skip rfl ?_ | refine S.seq ?_ | refine S.region ?_ | refine S.condF rfl ?_ | refine RRun.skip ?_)
          apply S.ret rr51
          case hx => repeat (first | exact ResAt.nil | apply ResAt.tmp rfl | apply ResAt.cellA rfl (by (repeat' (first | exact AHeap.set_same _ _ _)); first | done | fail) (by rfl))
          exact ⟨_, h.set p (.box (pst T fin st.next)), .refl _, (by repeat (first | exact AHeap.le.refl _ | refine AHeap.le.set ?_ _ (by (repeat' (first | assumption | refine AHeap.so ?_ ?_ | exact AHeap.n4 ‹_› ‹_›)); first | done | fail))), rfl, rfl⟩
      · rw [show (t.kind == k) = false from beq_eq_false_iff_ne.2 hk]
        repeat' (first | refine S.nilK ?_ | (refine S.op rfl ?_; first | (show ROpS _ _ (.call 14 _) _ _ _; refine callPC0 rfl rfl c14 (by repeat' (first | assumption | refine Glob.setF ?_ (by (repeat' (first | assumption)); first | done | fail))) (by (repeat' (first | assumption | refine AHeap.get_fresh ‹_› ?_)); first | done | fail) ?_) | refine R.indexAddr rfl rfl (by omega) h1 ?_ | refine R.mv rfl ?_ | refine R.fieldAddr rfl ?_ | refine R.fieldAddrR rfl ?_ | refine R.nilCheck rfl ?_ | refine R.loadR rfl rfl ?_ | refine R.load (by decide) rfl (by (repeat' (first | assumption | refine AHeap.get_fresh ‹_› ?_)); first | done | fail) rfl ?_ | refine R.pickT rfl rfl ?_ | refine R.pickF rfl rfl ?_ | refine R.len rfl ?_ | refine R.not rfl ?_ | refine R.alloc rfl (fun b hb => ?_) | refine R.build rfl rfl ?_ | ((first | refine S.geq rfl rfl ?_ ?_ | refine S.eqInt rfl rfl ?_ ?_) <;> intro hlt <;> try (exfalso; omega))) | (refine S.op0 rfl ?_; first | refine S.storeN rfl rfl (by (repeat' (first | exact AHeap.set_same _ _ _)); first | done | fail) rfl rfl rfl (by rfl) rfl (by repeat' (first | exact AHeap.set_set _ _ _ _)) ?_) | refine S.skip rfl ?_ | refine S.seq ?_ | refine S.region ?_ | refine S.condT rfl ?_)
        apply S.ret rr51
        case hx => repeat (first | exact ResAt.nil | apply ResAt.tmp rfl | apply ResAt.cellA rfl (by (repeat' (first | exact AHeap.set_same _ _ _)); first | done | fail) (by rfl))
        exact ⟨_, h, .refl _, (by repeat (first | exact AHeap.le.refl _ | refine AHeap.le.set ?_ _ (by (repeat' (first | assumption)); first | done | fail))), rfl, hsame.symm⟩
  · rw [good_F hb] at c14 ⊢
    repeat' (first | refine S.nilK ?_ | (refine S.op rfl ?_; first | (show ROpS _ _ (.call 14 _) _ _ _; refine callPC0 rfl rfl c14 (by repeat' (first | assumption | refine Glob.setF ?_ (by (repeat' (first | assumption)); first | done | fail))) (by (repeat' (first | assumption | refine AHeap.get_fresh ‹_› ?_)); first | done | fail) ?_) | refine R.mv rfl ?_ | refine R.pickT rfl rfl ?_ | refine R.not rfl ?_ | refine R.alloc rfl (fun b hb => ?_) | refine R.build rfl rfl ?_) | (refine S.op0 rfl ?_; first | refine S.storeN rfl rfl (by (repeat' (first | exact AHeap.set_same _ _ _)); first | done | fail) rfl rfl rfl (by rfl) rfl (by repeat' (first | exact AHeap.set_set _ _ _ _)) ?_) | refine S.skip rfl ?_ | refine S.seq ?_ | refine S.region ?_ | refine S.condT rfl ?_)
    apply S.ret rr51
    case hx => repeat (first | exact ResAt.nil | apply ResAt.tmp rfl | apply ResAt.cellA rfl (by (repeat' (first | exact AHeap.set_same _ _ _)); first | done | fail) (by rfl))
    refine ⟨_, h, .refl _, (by repeat (first | exact AHeap.le.refl _ | refine AHeap.le.set ?_ _ (by (repeat' (first | assumption)); first | done | fail))), ?_⟩
    cases hl : T[st.i]? with
    | none => exact ⟨rfl, hsame.symm⟩
    | some t => exact ⟨rfl, hsame.symm⟩
def r35 : RCode :=
  (.seq (.region [
    ⟨(some 2), none, .act, .mv (.const (.string ⟨#[]⟩))⟩])
  (.seq (.region [
    ⟨(some 6), none, .act, .mv (.tmp 0)⟩,
    ⟨(some 7), none, .act, .call 51 [(.tmp 6), (.const (.int .i64 1))]⟩,
    ⟨(some 5), none, .act, .mv (.tmp 7)⟩,
    ⟨(some 8), none, .act, .extract (.tmp 5) 0⟩,
    ⟨(some 9), none, .act, .extract (.tmp 5) 1⟩,
    ⟨(some 3), none, .act, .alloc [(.int .i64 0), (.string ⟨#[]⟩), (.int .i64 0), (.int .i64 0)]⟩,
    ⟨none, none, .act, .store 4 (.tmp 3) (.tmp 8)⟩,
    ⟨(some 4), none, .act, .mv (.tmp 9)⟩])
  (.seq (.seq (.region [
    ⟨(some 10), none, .act, .mv (.tmp 4)⟩,
    ⟨(some 11), none, .act, .un .not (.tmp 10)⟩])
  (.cond (.tmp 11)
   (.region [
     ⟨(some 12), none, .act, .mv (.tmp 0)⟩,
     ⟨(some 13), none, .act, .call 13 [(.tmp 12)]⟩])
   .skip))
  (.seq (.region [
    ⟨(some 14), none, .act, .fieldAddr 1 (.tmp 3)⟩,
    ⟨(some 15), none, .act, .load false 1 (.tmp 14)⟩,
    ⟨(some 2), none, .act, .mv (.tmp 15)⟩])
  .ret))))
theorem res35 : ∃ c, Try.f35.body = some c ∧ resCode Try.prog 16 c = some r35 := ⟨_, rfl, by kernel_rfl⟩
theorem rr35 : resRes Try.prog Try.f35.results.toList = some [.tmp 2] := by kernel_rfl
theorem name_spec (hT : TOk T) (st : PS) : PC T fin 35 [] st (str (nameP T fin st).1) (nameP T fin st).2 := by
  intro p h ⟨hg, hp⟩
  obtain ⟨c', hc1, hc2⟩ := res35
  refine ACalls.weak (ACalls.enter Try.func35 hc1 Try.ntmps35 hc2 (Nat.le_of_ble_eq_true rfl) rfl ?_)
  have c51 := kind_spec (fin := fin) hT st 1
  unfold nameP
  cases hk : kindP T st 1 with
  | mk o st' =>
    rw [hk] at c51
    cases o with
    | some t =>
      unfold kindA tokO at c51
      repeat' (first | refine S.nilK ?_ | (refine S.op rfl ?_; first | (show ROpS _ _ (.call 51 _) _ _ _; refine callPC rfl rfl c51 (by repeat' (first | assumption)) (by (repeat' (first | assumption)); first | done | fail) (by repeat' (first | exact rfl)) ?_) | refine R.mv rfl ?_ | refine R.fieldAddr rfl ?_ | refine R.load (by decide) rfl (by (repeat' (first | exact AHeap.set_same _ _ _)); first | done | fail) rfl ?_ | refine R.not rfl ?_ | refine R.extract rfl rfl ?_ | refine R.alloc rfl (fun b hb => ?_)) | (refine S.op0 rfl ?_; first | refine S.storeN rfl rfl (by (repeat' (first | exact AHeap.set_same _ _ _)); first | done | fail) rfl rfl rfl (by rfl) rfl (by repeat' (first | exact AHeap.set_set _ _ _ _)) ?_) | refine S.seq ?_ | refine S.region ?_ | refine S.condF rfl ?_ | refine RRun.skip ?_)
      apply S.ret rr35
      case hx => repeat (first | exact ResAt.nil | apply ResAt.tmp rfl)
      exact ⟨_, h.set p (.box (pst T fin st')), .refl _, (by repeat (first | exact AHeap.le.refl _ | refine AHeap.le.set ?_ _ (by (repeat' (first | assumption)); first | done | fail))), rfl, rfl⟩
    | none =>
      unfold kindA tokO at c51
      have cw := wrong_spec (T := T) (fin := fin) st'
      repeat' (first | refine S.nilK ?_ | (refine S.op rfl ?_; first | (show ROpS _ _ (.call 51 _) _ _ _; refine callPC rfl rfl c51 (by repeat' (first | assumption)) (by (repeat' (first | assumption)); first | done | fail) (by repeat' (first | exact rfl)) ?_) | (show ROpS _ _ (.call 13 _) _ _ _; refine callPCU rfl rfl cw (by repeat' (first | assumption | refine Glob.setF ?_ (by (repeat' (first | assumption)); first | done | fail) | refine Glob.setP ?_ (by (repeat' (first | assumption)); first | done | fail))) (by (repeat' (first | exact AHeap.set_same _ _ _ | refine AHeap.get_fresh ‹_› ?_)); first | done | fail) (by repeat' (first | exact AHeap.set_set _ _ _ _ | (apply AHeap.upd1; · exact (by first | exact AHeap.n1 ‹_›)))) (fun x => ?_)) | refine R.mv rfl ?_ | refine R.fieldAddr rfl ?_ | refine R.load (by decide) rfl (by (repeat' (first | exact AHeap.set_same _ _ _)); first | done | fail) rfl ?_ | refine R.not rfl ?_ | refine R.extract rfl rfl ?_ | refine R.alloc rfl (fun b hb => ?_)) | (refine S.op0 rfl ?_; first | refine S.storeN rfl rfl (by (repeat' (first | exact AHeap.set_same _ _ _)); first | done | fail) rfl rfl rfl (by rfl) rfl (by repeat' (first | exact AHeap.set_set _ _ _ _)) ?_) | refine S.seq ?_ | refine S.region ?_ | refine S.condT rfl ?_)
      apply S.ret rr35
      case hx => repeat (first | exact ResAt.nil | apply ResAt.tmp rfl)
      exact ⟨_, h.set p (.box (pst T fin (wrongP T fin st'))), .refl _, (by repeat (first | exact AHeap.le.refl _ | refine AHeap.le.set ?_ _ (by (repeat' (first | exact AHeap.z1 ‹_› | refine AHeap.so ?_ ?_ | exact AHeap.n1 ‹_›)); first | done | fail))), rfl, rfl⟩
def numP (T : List Tok) (fin : Int) (st : PS) : Int × PS := match kindP T st 2 with
  | (some t, st') => (t.n, st')
  | (none, st') => (0, wrongP T fin st')
def r53 : RCode :=
  (.seq (.region [
    ⟨(some 2), none, .act, .mv (.const (.int .i64 0))⟩])
  (.seq (.region [
    ⟨(some 6), none, .act, .mv (.tmp 0)⟩,
    ⟨(some 7), none, .act, .call 51 [(.tmp 6), (.const (.int .i64 2))]⟩,
    ⟨(some 5), none, .act, .mv (.tmp 7)⟩,
    ⟨(some 8), none, .act, .extract (.tmp 5) 0⟩,
    ⟨(some 9), none, .act, .extract (.tmp 5) 1⟩,
    ⟨(some 3), none, .act, .alloc [(.int .i64 0), (.string ⟨#[]⟩), (.int .i64 0), (.int .i64 0)]⟩,
    ⟨none, none, .act, .store 4 (.tmp 3) (.tmp 8)⟩,
    ⟨(some 4), none, .act, .mv (.tmp 9)⟩])
  (.seq (.seq (.region [
    ⟨(some 10), none, .act, .mv (.tmp 4)⟩,
    ⟨(some 11), none, .act, .un .not (.tmp 10)⟩])
  (.cond (.tmp 11)
   (.region [
     ⟨(some 12), none, .act, .mv (.tmp 0)⟩,
     ⟨(some 13), none, .act, .call 13 [(.tmp 12)]⟩])
   .skip))
  (.seq (.region [
    ⟨(some 14), none, .act, .fieldAddr 2 (.tmp 3)⟩,
    ⟨(some 15), none, .act, .load false 1 (.tmp 14)⟩,
    ⟨(some 2), none, .act, .mv (.tmp 15)⟩])
  .ret))))
theorem res53 : ∃ c, Try.f53.body = some c ∧ resCode Try.prog 16 c = some r53 := ⟨_, rfl, by kernel_rfl⟩
theorem rr53 : resRes Try.prog Try.f53.results.toList = some [.tmp 2] := by kernel_rfl
theorem pnumber_spec (hT : TOk T) (st : PS) : PC T fin 53 [] st (i64 (numP T fin st).1) (numP T fin st).2 := by
  intro p h ⟨hg, hp⟩
  obtain ⟨c', hc1, hc2⟩ := res53
  refine ACalls.weak (ACalls.enter Try.func53 hc1 Try.ntmps53 hc2 (Nat.le_of_ble_eq_true rfl) rfl ?_)
  have c51 := kind_spec (fin := fin) hT st 2
  unfold numP
  cases hk : kindP T st 2 with
  | mk o st' =>
    rw [hk] at c51
    cases o with
    | some t =>
      unfold kindA tokO at c51
      repeat' (first | refine S.nilK ?_ | (refine S.op rfl ?_; first | (show ROpS _ _ (.call 51 _) _ _ _; refine callPC rfl rfl c51 (by repeat' (first | assumption)) (by (repeat' (first | assumption)); first | done | fail) (by repeat' (first | exact rfl)) ?_) | refine R.mv rfl ?_ | refine R.fieldAddr rfl ?_ | refine R.load (by decide) rfl (by (repeat' (first | exact AHeap.set_same _ _ _)); first | done | fail) rfl ?_ | refine R.not rfl ?_ | refine R.extract rfl rfl ?_ | refine R.alloc rfl (fun b hb => ?_)) | (refine S.op0 rfl ?_; first | refine S.storeN rfl rfl (by (repeat' (first | exact AHeap.set_same _ _ _)); first | done | fail) rfl rfl rfl (by rfl) rfl (by repeat' (first | exact AHeap.set_set _ _ _ _)) ?_) | refine S.seq ?_ | refine S.region ?_ | refine S.condF rfl ?_ | refine RRun.skip ?_)
      apply S.ret rr53
      case hx => repeat (first | exact ResAt.nil | apply ResAt.tmp rfl)
      exact ⟨_, h.set p (.box (pst T fin st')), .refl _, (by repeat (first | exact AHeap.le.refl _ | refine AHeap.le.set ?_ _ (by (repeat' (first | assumption)); first | done | fail))), rfl, rfl⟩
    | none =>
      unfold kindA tokO at c51
      have cw := wrong_spec (T := T) (fin := fin) st'
      repeat' (first | refine S.nilK ?_ | (refine S.op rfl ?_; first | (show ROpS _ _ (.call 51 _) _ _ _; refine callPC rfl rfl c51 (by repeat' (first | assumption)) (by (repeat' (first | assumption)); first | done | fail) (by repeat' (first | exact rfl)) ?_) | (show ROpS _ _ (.call 13 _) _ _ _; refine callPCU rfl rfl cw (by repeat' (first | assumption | refine Glob.setF ?_ (by (repeat' (first | assumption)); first | done | fail) | refine Glob.setP ?_ (by (repeat' (first | assumption)); first | done | fail))) (by (repeat' (first | exact AHeap.set_same _ _ _ | refine AHeap.get_fresh ‹_› ?_)); first | done | fail) (by repeat' (first | exact AHeap.set_set _ _ _ _ | (apply AHeap.upd1; · exact (by first | exact AHeap.n1 ‹_›)))) (fun x => ?_)) | refine R.mv rfl ?_ | refine R.fieldAddr rfl ?_ | refine R.load (by decide) rfl (by (repeat' (first | exact AHeap.set_same _ _ _)); first | done | fail) rfl ?_ | refine R.not rfl ?_ | refine R.extract rfl rfl ?_ | refine R.alloc rfl (fun b hb => ?_)) | (refine S.op0 rfl ?_; first | refine S.storeN rfl rfl (by (repeat' (first | exact AHeap.set_same _ _ _)); first | done | fail) rfl rfl rfl (by rfl) rfl (by repeat' (first | exact AHeap.set_set _ _ _ _)) ?_) | refine S.seq ?_ | refine S.region ?_ | refine S.condT rfl ?_)
      apply S.ret rr53
      case hx => repeat (first | exact ResAt.nil | apply ResAt.tmp rfl)
      exact ⟨_, h.set p (.box (pst T fin (wrongP T fin st'))), .refl _, (by repeat (first | exact AHeap.le.refl _ | refine AHeap.le.set ?_ _ (by (repeat' (first | exact AHeap.z1 ‹_› | refine AHeap.so ?_ ?_ | exact AHeap.n1 ‹_›)); first | done | fail))), rfl, rfl⟩
def r71 : RCode :=
  (.seq (.region [
    ⟨(some 4), none, .act, .mv (.const (.bool false))⟩])
  (.seq (.seq (.region [
    ⟨(some 5), none, .act, .mv (.tmp 0)⟩,
    ⟨(some 6), none, .act, .nilCheck (.tmp 5)⟩,
    ⟨(some 7), none, .act, .fieldAddr 5 (.tmp 6)⟩,
    ⟨(some 8), none, .act, .load false 1 (.tmp 7)⟩,
    ⟨(some 9), none, .act, .eq false .int (.tmp 8) (.const (.int .i64 20))⟩])
  (.cond (.tmp 9)
   (.seq (.region [
     ⟨(some 10), none, .act, .mv (.tmp 0)⟩,
     ⟨(some 11), none, .act, .mv (.tmp 1)⟩,
     ⟨(some 12), none, .act, .call 20 [(.tmp 10), (.tmp 11), (.const (.int .i64 201))]⟩])
   (.seq (.region [
     ⟨(some 4), none, .act, .mv (.const (.bool false))⟩])
   .ret))
   .skip))
  (.seq (.region [
    ⟨(some 13), none, .act, .mv (.tmp 0)⟩,
    ⟨(some 14), none, .act, .nilCheck (.tmp 13)⟩,
    ⟨(some 15), none, .act, .fieldAddr 5 (.tmp 14)⟩,
    ⟨(some 16), none, .act, .load false 1 (.tmp 15)⟩,
    ⟨(some 17), none, .act, .bin .add (.tmp 16) (.const (.int .i64 1))⟩,
    ⟨(some 18), none, .act, .nilCheck (.tmp 13)⟩,
    ⟨(some 19), none, .act, .fieldAddr 5 (.tmp 18)⟩,
    ⟨none, none, .act, .store 1 (.tmp 19) (.tmp 17)⟩])
  (.seq (.region [
    ⟨(some 4), none, .act, .mv (.const (.bool true))⟩])
  .ret))))
theorem res71 : ∃ c, Try.f71.body = some c ∧ resCode Try.prog 20 c = some r71 := ⟨_, rfl, by kernel_rfl⟩
theorem rr71 : resRes Try.prog Try.f71.results.toList = some [.tmp 4] := by kernel_rfl
theorem enter_spec (st : PS) (hd : st.d ≤ 20) (a : Int) : PC T fin 71 [i64 a] st (bl (Pa.enterP st a).1) (Pa.enterP st a).2 := by
  intro p h ⟨hg, hp⟩
  obtain ⟨c', hc1, hc2⟩ := res71
  refine ACalls.enter Try.func71 hc1 Try.ntmps71 hc2 (Nat.le_of_ble_eq_true rfl) rfl ?_
  have cf := fail_spec (fin := fin) st a 201 p h ⟨hg, hp⟩
  unfold Pa.enterP
  by_cases h20 : st.d = 20
  · rw [if_pos h20]
    unfold pst at hp
    have h20' : (st.d : Int) = 20 := by omega
    repeat' (first | refine S.nilK ?_ | (refine S.op rfl ?_; first | refine callNU rfl rfl cf rfl (fun x => ?_) | refine R.mv rfl ?_ | refine R.fieldAddr rfl ?_ | refine R.nilCheck rfl ?_ | refine R.load (by decide) rfl (by (repeat' (first | assumption)); first | done | fail) rfl ?_ | ((first | refine S.eqInt rfl rfl ?_ ?_) <;> intro hlt <;> try (exfalso; omega))) | refine S.seq ?_ | refine S.region ?_ | refine S.condT rfl ?_)
    apply S.ret rr71
    case hx => repeat (first | exact ResAt.nil | apply ResAt.tmp rfl)
    exact ⟨rfl, rfl⟩
  · rw [if_neg h20]
    unfold pst at hp ⊢
    repeat' (first | refine S.nilK ?_ | (refine S.op rfl ?_; first | refine R.mv rfl ?_ | refine R.fieldAddr rfl ?_ | refine R.nilCheck rfl ?_ | refine R.load (by decide) rfl (by (repeat' (first | assumption)); first | done | fail) rfl ?_ | refine S.addI rfl rfl (by omega) ?_ | ((first | refine S.eqInt rfl rfl ?_ ?_) <;> intro hlt <;> try (exfalso; omega))) | (refine S.op0 rfl ?_; first | refine S.storeN rfl rfl (by (repeat' (first | assumption)); first | done | fail) rfl rfl rfl (by rfl) rfl (by repeat' (first | exact rfl)) ?_) | refine S.seq ?_ | refine S.region ?_ | refine S.condF rfl ?_ | refine RRun.skip ?_)
    apply S.ret rr71
    case hx => repeat (first | exact ResAt.nil | apply ResAt.tmp rfl)
    exact ⟨rfl, rfl⟩
end
end Go.Proofs.Ytdinnoejipmiiaa

namespace Go.Av.Pa
mutual
def Ex.cells : Ex → List AV
  | .mk op t nm n v args => [i64 op, str t, str nm, i64 n, i64 v.kind, i64 v.n, str v.s, .sl 8 (Ex.cellsL args) .ro]
def Ex.cellsL : List Ex → List (List AV)
  | [] => []
  | e :: l => Ex.cells e :: Ex.cellsL l
end
theorem Ex.cellsL_eq : ∀ (l : List Ex), Ex.cellsL l = l.map Ex.cells
  | [] => rfl
  | e :: l => by rw [Ex.cellsL, List.map_cons, Ex.cellsL_eq l]
theorem Ex.cells_mk (op : Int) (t nm : List UInt8) (n vk vn : Int) (vs : List UInt8) (args : List Ex) : (Ex.mk op t nm n ⟨vk, vn, vs⟩ args).cells = [i64 op, str t, str nm, i64 n, i64 vk, i64 vn, str vs, .sl 8 (args.map Ex.cells) .ro] := by
  rw [Ex.cells, Ex.cellsL_eq]
theorem Ex.cells_len (e : Ex) : e.cells.length = 8 := by obtain ⟨op, t, nm, n, v, args⟩ := e; rw [Ex.cells]; rfl
theorem Ex.cells_one (e : Ex) : ∀ a ∈ e.cells, a.one = true := by
  obtain ⟨op, t, nm, n, v, args⟩ := e
  rw [Ex.cells]
  intro a ha
  simp only [List.mem_cons, List.not_mem_nil, or_false] at ha
  rcases ha with rfl | rfl | rfl | rfl | rfl | rfl | rfl | rfl <;> rfl
def levelsL : List (List (List UInt8 × Int)) := [
  [([111, 114], 18)],
  [([97, 110, 100], 17)],
  [([61], 10), ([60, 62], 11), ([60], 12), ([60, 61], 13), ([62], 14), ([62, 61], 15)],
  [([43], 5), ([45], 6)],
  [([42], 7), ([47], 8), ([37], 9)]]
theorem levels_eq : levels = levelsL := by decide +kernel
def aggsL : List (List UInt8 × Int) := [([115, 117, 109], 21), ([109, 105, 110], 22), ([109, 97, 120], 23)]
theorem aggs_eq : aggs = aggsL := by decide +kernel
end Go.Av.Pa
namespace Go.Proofs.Ytdinnoejipmiiaa
open Go.Av
open Go.Av.Pa (PS atP isP wrongP takeP needP kindP nameP opsP operatorP)
theorem ex_le {op n vk vn : Int} {t nm vs : List UInt8} {args : List Pa.Ex} {a : AV} (ha : ALe a (.sl 8 (args.map Pa.Ex.cells) .ro)) :
    ALe (.ag [i64 op, str t, str nm, i64 n, i64 vk, i64 vn, str vs, a]) (.ag (Pa.Ex.mk op t nm n ⟨vk, vn, vs⟩ args).cells) := by
  rw [Pa.Ex.cells_mk]
  exact .ag (.cons (.refl _) (.cons (.refl _) (.cons (.refl _) (.cons (.refl _) (.cons (.refl _) (.cons (.refl _) (.cons (.refl _) (.cons ha .nil))))))))
theorem nil_le : ALe (.v (.slice none 0 0)) (.sl 8 (([] : List Pa.Ex).map Pa.Ex.cells) .ro) := .nilSl 8 (c := .ro) trivial
abbrev sgA (x : List UInt8 × Int) : List AV := [str x.1, i64 x.2]
def sgsA (l : List (List UInt8 × Int)) : AV := .sl 2 (l.map sgA) .full
section
variable {T : List Tok} {fin : Int}
def r45 : RCode :=
  (.seq (.region [
    ⟨(some 1), none, .act, .box (.tmp 0)⟩,
    ⟨(some 2), none, .act, .alloc [(.int .i64 0), (.string ⟨#[]⟩), (.string ⟨#[]⟩), (.int .i64 0), (.int .i64 0), (.int .i64 0), (.string ⟨#[]⟩), (.slice none 0 0)]⟩])
  (.seq (.region [
    ⟨(some 3), none, .act, .load true 3 (.tmp 1)⟩,
    ⟨(some 4), none, .act, .build [(.int .i64 0), (.string ⟨#[]⟩), (.string ⟨#[]⟩), (.int .i64 0), (.int .i64 0), (.int .i64 0), (.string ⟨#[]⟩), (.slice none 0 0)] [(0, 1, (.const (.int .i64 1))), (4, 3, (.tmp 3))]⟩,
    ⟨none, none, .act, .store 8 (.tmp 2) (.tmp 4)⟩])
  .ret))
theorem res45 : ∃ c, Try.f45.body = some c ∧ resCode Try.prog 5 c = some r45 := ⟨_, rfl, by kernel_rfl⟩
theorem rr45 : resRes Try.prog Try.f45.results.toList = some [.cell 2 true 8] := by kernel_rfl
theorem literal_spec (v : Pa.Val) (h : AHeap) : ACalls Try.prog 45 [.ag [i64 v.kind, i64 v.n, str v.s]] h (fun x h' => x = .ag (Pa.lit v).cells ∧ h' = h) := by
  obtain ⟨c', hc1, hc2⟩ := res45
  refine ACalls.weak (ACalls.enter Try.func45 hc1 Try.ntmps45 hc2 (Nat.le_of_ble_eq_true rfl) rfl ?_)
  repeat' (first | refine S.nilK ?_ | (refine S.op rfl ?_; first | refine R.load (by decide) rfl (by (repeat' (first | exact AHeap.set_same _ _ _ | refine AHeap.get_fresh ‹_› ?_)); first | done | fail) rfl ?_ | refine R.alloc rfl (fun b hb => ?_) | refine R.box rfl rfl rfl (fun b hb => ?_) | refine R.build rfl rfl ?_) | (refine S.op0 rfl ?_; first | refine S.storeN rfl rfl (by (repeat' (first | exact AHeap.set_same _ _ _)); first | done | fail) rfl rfl rfl (by rfl) rfl (by repeat' (first | exact AHeap.set_set _ _ _ _)) ?_) | refine S.seq ?_ | refine S.region ?_)
  apply S.ret rr45
  case hx => repeat (first | exact ResAt.nil | apply ResAt.cellA rfl (by (repeat' (first | exact AHeap.set_same _ _ _)); first | done | fail) (by rfl))
  exact ⟨_, h, ex_le nil_le, (by repeat (first | exact AHeap.le.refl _ | refine AHeap.le.set ?_ _ (by (repeat' (first | assumption | exact AHeap.z1 ‹_›)); first | done | fail))), rfl, rfl⟩
def r29 : RCode :=
  (.seq (.region [
    ⟨(some 0), none, .act, .mv (.const (.slice none 0 0))⟩])
  (.seq (.region [
    ⟨(some 1), none, .act, .build [(.string ⟨#[]⟩), (.int .i64 0)] [(0, 1, (.const (.string ⟨#[115, 117, 109]⟩))), (1, 1, (.const (.int .i64 21)))]⟩,
    ⟨(some 2), none, .act, .build [(.string ⟨#[]⟩), (.int .i64 0)] [(0, 1, (.const (.string ⟨#[109, 105, 110]⟩))), (1, 1, (.const (.int .i64 22)))]⟩,
    ⟨(some 3), none, .act, .build [(.string ⟨#[]⟩), (.int .i64 0)] [(0, 1, (.const (.string ⟨#[109, 97, 120]⟩))), (1, 1, (.const (.int .i64 23)))]⟩,
    ⟨(some 4), none, .act, .buildSl 2 [(.string ⟨#[]⟩), (.int .i64 0)] 3 [(0, (.tmp 1)), (1, (.tmp 2)), (2, (.tmp 3))]⟩,
    ⟨(some 0), none, .act, .mv (.tmp 4)⟩])
  .ret))
theorem res29 : ∃ c, Try.f29.body = some c ∧ resCode Try.prog 5 c = some r29 := ⟨_, rfl, by kernel_rfl⟩
theorem rr29 : resRes Try.prog Try.f29.results.toList = some [.tmp 0] := by kernel_rfl
theorem functions_spec (h : AHeap) : ACalls Try.prog 29 [] h (fun x h' => x = sgsA Pa.aggsL ∧ h' = h) := by
  obtain ⟨c', hc1, hc2⟩ := res29
  refine ACalls.enter Try.func29 hc1 Try.ntmps29 hc2 (Nat.le_of_ble_eq_true rfl) rfl ?_
  repeat' (first | refine S.nilK ?_ | (refine S.op rfl ?_; first | refine R.mv rfl ?_ | refine R.build rfl rfl ?_ | refine R.buildSl rfl rfl rfl (by decide) ?_) | refine S.seq ?_ | refine S.region ?_)
  apply S.ret rr29
  case hx => repeat (first | exact ResAt.nil | apply ResAt.tmp rfl)
  exact ⟨rfl, rfl⟩
def r42 : RCode :=
  (.seq (.region [
    ⟨(some 0), none, .act, .alloc [(.slice none 0 0), (.slice none 0 0), (.slice none 0 0), (.slice none 0 0), (.slice none 0 0)]⟩])
  (.seq (.region [
    ⟨(some 1), none, .act, .build [(.string ⟨#[]⟩), (.int .i64 0)] [(0, 1, (.const (.string ⟨#[111, 114]⟩))), (1, 1, (.const (.int .i64 18)))]⟩,
    ⟨(some 2), none, .act, .buildSl 2 [(.string ⟨#[]⟩), (.int .i64 0)] 1 [(0, (.tmp 1))]⟩,
    ⟨(some 3), none, .act, .build [(.string ⟨#[]⟩), (.int .i64 0)] [(0, 1, (.const (.string ⟨#[97, 110, 100]⟩))), (1, 1, (.const (.int .i64 17)))]⟩,
    ⟨(some 4), none, .act, .buildSl 2 [(.string ⟨#[]⟩), (.int .i64 0)] 1 [(0, (.tmp 3))]⟩,
    ⟨(some 5), none, .act, .build [(.string ⟨#[]⟩), (.int .i64 0)] [(0, 1, (.const (.string ⟨#[61]⟩))), (1, 1, (.const (.int .i64 10)))]⟩,
    ⟨(some 6), none, .act, .build [(.string ⟨#[]⟩), (.int .i64 0)] [(0, 1, (.const (.string ⟨#[60, 62]⟩))), (1, 1, (.const (.int .i64 11)))]⟩,
    ⟨(some 7), none, .act, .build [(.string ⟨#[]⟩), (.int .i64 0)] [(0, 1, (.const (.string ⟨#[60]⟩))), (1, 1, (.const (.int .i64 12)))]⟩,
    ⟨(some 8), none, .act, .build [(.string ⟨#[]⟩), (.int .i64 0)] [(0, 1, (.const (.string ⟨#[60, 61]⟩))), (1, 1, (.const (.int .i64 13)))]⟩,
    ⟨(some 9), none, .act, .build [(.string ⟨#[]⟩), (.int .i64 0)] [(0, 1, (.const (.string ⟨#[62]⟩))), (1, 1, (.const (.int .i64 14)))]⟩,
    ⟨(some 10), none, .act, .build [(.string ⟨#[]⟩), (.int .i64 0)] [(0, 1, (.const (.string ⟨#[62, 61]⟩))), (1, 1, (.const (.int .i64 15)))]⟩,
    ⟨(some 11), none, .act, .buildSl 2 [(.string ⟨#[]⟩), (.int .i64 0)] 6 [(0, (.tmp 5)), (1, (.tmp 6)), (2, (.tmp 7)), (3, (.tmp 8)), (4, (.tmp 9)), (5, (.tmp 10))]⟩,
    ⟨(some 12), none, .act, .build [(.string ⟨#[]⟩), (.int .i64 0)] [(0, 1, (.const (.string ⟨#[43]⟩))), (1, 1, (.const (.int .i64 5)))]⟩,
    ⟨(some 13), none, .act, .build [(.string ⟨#[]⟩), (.int .i64 0)] [(0, 1, (.const (.string ⟨#[45]⟩))), (1, 1, (.const (.int .i64 6)))]⟩,
    ⟨(some 14), none, .act, .buildSl 2 [(.string ⟨#[]⟩), (.int .i64 0)] 2 [(0, (.tmp 12)), (1, (.tmp 13))]⟩,
    ⟨(some 15), none, .act, .build [(.string ⟨#[]⟩), (.int .i64 0)] [(0, 1, (.const (.string ⟨#[42]⟩))), (1, 1, (.const (.int .i64 7)))]⟩,
    ⟨(some 16), none, .act, .build [(.string ⟨#[]⟩), (.int .i64 0)] [(0, 1, (.const (.string ⟨#[47]⟩))), (1, 1, (.const (.int .i64 8)))]⟩,
    ⟨(some 17), none, .act, .build [(.string ⟨#[]⟩), (.int .i64 0)] [(0, 1, (.const (.string ⟨#[37]⟩))), (1, 1, (.const (.int .i64 9)))]⟩,
    ⟨(some 18), none, .act, .buildSl 2 [(.string ⟨#[]⟩), (.int .i64 0)] 3 [(0, (.tmp 15)), (1, (.tmp 16)), (2, (.tmp 17))]⟩,
    ⟨(some 19), none, .act, .build [(.slice none 0 0), (.slice none 0 0), (.slice none 0 0), (.slice none 0 0), (.slice none 0 0)] [(0, 1, (.tmp 2)), (1, 1, (.tmp 4)), (2, 1, (.tmp 11)), (3, 1, (.tmp 14)), (4, 1, (.tmp 18))]⟩,
    ⟨none, none, .act, .store 5 (.tmp 0) (.tmp 19)⟩])
  .ret))
theorem res42 : ∃ c, Try.f42.body = some c ∧ resCode Try.prog 20 c = some r42 := ⟨_, rfl, by kernel_rfl⟩
theorem rr42 : resRes Try.prog Try.f42.results.toList = some [.cell 0 true 5] := by kernel_rfl
theorem levels_spec (h : AHeap) : ACalls Try.prog 42 [] h (fun x h' => x = .ag (Pa.levelsL.map sgsA) ∧ h' = h) := by
  obtain ⟨c', hc1, hc2⟩ := res42
  refine ACalls.weak (ACalls.enter Try.func42 hc1 Try.ntmps42 hc2 (Nat.le_of_ble_eq_true rfl) rfl ?_)
  repeat' (first | refine S.nilK ?_ | (refine S.op rfl ?_; first | refine R.alloc rfl (fun b hb => ?_) | refine R.build rfl rfl ?_ | refine R.buildSl rfl rfl rfl (by decide) ?_) | (refine S.op0 rfl ?_; first | refine S.storeN rfl rfl (by (repeat' (first | exact AHeap.set_same _ _ _)); first | done | fail) rfl rfl rfl (by rfl) rfl (by repeat' (first | exact AHeap.set_set _ _ _ _)) ?_) | refine S.seq ?_ | refine S.region ?_)
  apply S.ret rr42
  case hx => repeat (first | exact ResAt.nil | apply ResAt.cellA rfl (by (repeat' (first | exact AHeap.set_same _ _ _)); first | done | fail) (by rfl))
  exact ⟨_, h, .refl _, (by repeat (first | exact AHeap.le.refl _ | refine AHeap.le.set ?_ _ (by (repeat' (first | assumption)); first | done | fail))), rfl, rfl⟩
def r41l0 : RCode :=
  (.seq (.region [
    ⟨(some 12), none, .act, .bin .lss (.tmp 11) (.tmp 10)⟩])
  (.seq (.cond (.tmp 12)
   .skip
   (.exit 0))
  (.seq (.block 1
   (.seq (.region [
     ⟨(some 13), none, .act, .indexAddr 2 (.tmp 9) (.tmp 11)⟩,
     ⟨(some 14), none, .act, .load true 2 (.tmp 13)⟩,
     ⟨(some 6), none, .act, .alloc [(.string ⟨#[]⟩), (.int .i64 0)]⟩,
     ⟨none, none, .act, .store 2 (.tmp 6) (.tmp 14)⟩])
   (.seq (.region [
     ⟨(some 15), none, .act, .mv (.tmp 0)⟩,
     ⟨(some 16), none, .act, .fieldAddr 0 (.tmp 6)⟩,
     ⟨(some 17), none, .act, .load false 1 (.tmp 16)⟩,
     ⟨(some 18), none, .act, .call 30 [(.tmp 15), (.tmp 17)]⟩])
   (.cond (.tmp 18)
    (.seq (.region [
      ⟨(some 19), none, .act, .fieldAddr 1 (.tmp 6)⟩,
      ⟨(some 20), none, .act, .load false 1 (.tmp 19)⟩,
      ⟨(some 4), none, .act, .mv (.tmp 20)⟩])
    .ret)
    .skip))))
  (.region [
    ⟨(some 21), none, .act, .bin .add (.tmp 11) (.const (.int .i64 1))⟩,
    ⟨(some 11), none, .act, .mv (.tmp 21)⟩]))))
def r41 : RCode :=
  (.seq (.region [
    ⟨(some 4), none, .act, .mv (.const (.int .i64 0))⟩])
  (.seq (.seq (.region [
    ⟨(some 7), none, .act, .call 42 []⟩,
    ⟨(some 8), none, .act, .mv (.tmp 1)⟩,
    ⟨(some 9), none, .act, .indexAg false 5 1 (.tmp 7) (.tmp 8)⟩,
    ⟨(some 10), none, .act, .len (.tmp 9)⟩,
    ⟨(some 11), none, .act, .mv (.const (.int .i64 0))⟩])
  (.block 0
   (.loop r41l0)))
  (.seq (.region [
    ⟨(some 4), none, .act, .mv (.const (.int .i64 0))⟩])
  .ret)))
theorem res41 : ∃ c, Try.f41.body = some c ∧ resCode Try.prog 22 c = some r41 := ⟨_, rfl, by kernel_rfl⟩
theorem rr41 : resRes Try.prog Try.f41.results.toList = some [.tmp 4] := by kernel_rfl
theorem operator_loop (hT : T.length ≤ 400) (l : List (List UInt8 × Int)) (hl : l.length ≤ 100) (st : PS) (p : Nat) (lv : Int) (h : AHeap) (hg : Glob h) (hp : h p = some (.box (pst T fin st))) (k : List RT) (Q : AV → AHeap → Prop)
    (hk : opsP T st l = (0, st) → RRun Try.prog Try.f41 22 k (Env.get [(0, ptr p)]) h Q)
    (hq : ∀ op st', opsP T st l = (op, st') → ∀ h', (h.set p (.box (pst T fin st'))).le h' → Q (i64 op) h') : ∀ (m i : Nat), i + m = l.length → opsP T st l = opsP T st (l.drop i) →
    RRun Try.prog Try.f41 22 (.inLoop r41l0 :: .inBlock 0 :: k) (Env.get [(0, ptr p), (9, sgsA l), (10, i64 l.length), (11, i64 i)]) h Q := by
  intro m
  induction m with
  | zero =>
    intro i hi ho
    rw [List.drop_eq_nil_of_le (by omega), opsP] at ho
    refine RRun.inLoop ?_
    repeat' (first | refine S.nilK ?_ | (refine S.op rfl ?_; first | ((first | refine S.lss rfl rfl ?_ ?_) <;> intro hlt <;> try (exfalso; omega))) | refine S.seq ?_ | refine S.region ?_ | refine S.condF rfl ?_ | refine RRun.exit rfl ?_)
    exact S.keep [0] rfl (hk ho)
  | succ m ih =>
    intro i hi ho
    have hie : i < l.length := by omega
    have h1 : (l.map sgA)[((i : Nat) : Int).toNat]? = some [str l[i].1, i64 l[i].2] := by simp [hie]
    have hd : l.drop i = l[i] :: l.drop (i + 1) := List.drop_eq_getElem_cons hie
    rw [hd, opsP] at ho
    refine RRun.inLoop ?_
    unfold sgsA
    have ct := take_T (T := T) (fin := fin) hT (st := st) (s := l[i].1)
    have cf := take_F (T := T) (fin := fin) hT (st := st) (s := l[i].1)
    generalize isP T st l[i].1 = q at ho ct cf
    cases q with
    | true =>
      have ct := ct rfl
      rw [if_pos rfl] at ho
      repeat' (first | refine S.nilK ?_ | (refine S.op rfl ?_; first | refine R.indexAddr rfl rfl (by omega) h1 ?_ | (show ROpS _ _ (.call 30 _) _ _ _; refine callPC rfl rfl ct (by repeat' (first | assumption | refine Glob.setF ?_ (by (repeat' (first | assumption)); first | done | fail))) (by (repeat' (first | assumption | refine AHeap.get_fresh ‹_› ?_)); first | done | fail) (by repeat' (first | (apply AHeap.upd1; · exact (by first | exact AHeap.n4 ‹_› ‹_›)) | exact rfl)) ?_) | refine R.mv rfl ?_ | refine R.fieldAddr rfl ?_ | refine R.loadR rfl rfl ?_ | refine R.load (by decide) rfl (by (repeat' (first | exact AHeap.set_same _ _ _)); first | done | fail) rfl ?_ | refine R.alloc rfl (fun b hb => ?_) | ((first | refine S.lss rfl rfl ?_ ?_) <;> intro hlt <;> try (exfalso; omega))) | (refine S.op0 rfl ?_; first | refine S.storeN rfl rfl (by (repeat' (first | exact AHeap.set_same _ _ _)); first | done | fail) rfl rfl rfl (by rfl) rfl (by repeat' (first | exact AHeap.set_set _ _ _ _)) ?_) | refine S.seq ?_ | refine S.region ?_ | refine S.condT rfl ?_ | refine RRun.skip ?_ | refine RRun.block ?_)
      apply S.ret rr41
      case hx => repeat (first | exact ResAt.nil | apply ResAt.tmp rfl)
      exact hq _ _ ho _ (by repeat (first | exact AHeap.le.refl _ | refine AHeap.le.set ?_ _ (by (repeat' (first | assumption | refine AHeap.so ?_ ?_ | exact AHeap.n4 ‹_› ‹_›)); first | done | fail)))
    | false =>
      have cf := cf rfl
      rw [if_neg (by decide)] at ho
      repeat' (first | refine S.nilK ?_ | (refine S.op rfl ?_; first | refine R.indexAddr rfl rfl (by omega) h1 ?_ | (show ROpS _ _ (.call 30 _) _ _ _; refine callPC0 rfl rfl cf (by repeat' (first | assumption | refine Glob.setF ?_ (by (repeat' (first | assumption)); first | done | fail))) (by (repeat' (first | assumption | refine AHeap.get_fresh ‹_› ?_)); first | done | fail) ?_) | refine R.mv rfl ?_ | refine R.fieldAddr rfl ?_ | refine R.loadR rfl rfl ?_ | refine R.load (by decide) rfl (by (repeat' (first | exact AHeap.set_same _ _ _)); first | done | fail) rfl ?_ | refine S.addI rfl rfl (by omega) ?_ | refine R.alloc rfl (fun b hb => ?_) | ((first | refine S.lss rfl rfl ?_ ?_) <;> intro hlt <;> try (exfalso; omega))) | (refine S.op0 rfl ?_; first | refine S.storeN rfl rfl (by (repeat' (first | exact AHeap.set_same _ _ _)); first | done | fail) rfl rfl rfl (by rfl) rfl (by repeat' (first | exact AHeap.set_set _ _ _ _)) ?_) | refine S.seq ?_ | refine S.region ?_ | refine S.condT rfl ?_ | refine S.condF rfl ?_ | refine RRun.skip ?_ | refine RRun.block ?_ | refine RRun.inBlock ?_)
      rw [show ((i : Int) + 1) = ((i + 1 : Nat) : Int) by omega]
      exact S.keep [0, 9, 10, 11] rfl (S.drop (by repeat (first | exact AHeap.le.refl _ | refine AHeap.le.set ?_ _ (by (repeat' (first | assumption)); first | done | fail))) (ih (i + 1) (by omega) ho))
theorem operator_spec (hT : T.length ≤ 400) (lv : Nat) (hlv : lv < 5) (st : PS) : PC T fin 41 [i64 lv] st (i64 (operatorP T st lv).1) (operatorP T st lv).2 := by
  intro p h ⟨hg, hp⟩
  obtain ⟨c', hc1, hc2⟩ := res41
  refine ACalls.weak (ACalls.enter Try.func41 hc1 Try.ntmps41 hc2 (Nat.le_of_ble_eq_true rfl) rfl ?_)
  have c42 := levels_spec
  have hlen : Pa.levelsL.length = 5 := rfl
  have hlv' : lv < Pa.levelsL.length := by omega
  have h1 : (Pa.levelsL.map sgsA)[((lv : Nat) : Int).toNat * 1]? = some (sgsA Pa.levelsL[lv]) := by simp [hlv']
  have hop : operatorP T st lv = opsP T st Pa.levelsL[lv] := by
    unfold operatorP
    rw [Pa.levels_eq, List.getD_eq_getElem?_getD, List.getElem?_eq_getElem hlv']; rfl
  have hsm : Pa.levelsL[lv].length ≤ 100 := by
    have : ∀ l ∈ Pa.levelsL, l.length ≤ 100 := by decide
    exact this _ (List.getElem_mem hlv')
  rw [hop]
  generalize Pa.levelsL[lv] = l at h1 hsm ⊢
  have hll : (l.map sgA).length = l.length := by simp
  repeat' (first | refine S.nilK ?_ | (refine S.op rfl ?_; first | refine callN rfl rfl (c42 _) rfl ?_ | refine R.indexAg rfl rfl (by omega) (by omega) (by rw [if_neg (by decide)]; exact h1) ?_ | refine R.len (sz := 2) rfl ?_ | refine R.mv rfl ?_) | refine S.seq ?_ | refine S.region ?_ | refine RRun.block ?_)
  rw [hll]
  refine RRun.loopIn (S.keep [0, 9, 10, 11] rfl (operator_loop (fin := fin) hT l hsm st p lv h hg hp _ _ (fun ho => ?_) (fun op st' ho h' hle => ?_) l.length 0 (by omega) rfl))
  · repeat' (first | refine S.nilK ?_ | (refine S.op rfl ?_; first | refine R.mv rfl ?_) | refine S.seq ?_ | refine S.region ?_)
    apply S.ret rr41
    case hx => repeat (first | exact ResAt.nil | apply ResAt.tmp rfl)
    rw [ho]
    exact ⟨_, h, .refl _, (by repeat (first | exact AHeap.le.refl _)), rfl, (AHeap.set_eq _ hp).symm⟩
  · rw [ho]
    exact ⟨_, _, .refl _, hle, rfl, rfl⟩
end
end Go.Proofs.Ytdinnoejipmiiaa

namespace Go.Av.Pa
variable {l : List Tok} {fin : Int}
def Flat (st st' : PS) : Prop := st'.d = st.d
theorem Flat.refl (st : PS) : Flat st st := rfl
theorem Flat.trans {a b c : PS} (h1 : Flat a b) (h2 : Flat b c) : Flat a c := Eq.trans h2 h1
theorem fail_flat (st : PS) (p e : Int) : Flat st (st.fail p e) := by
  unfold PS.fail
  split <;> rfl
theorem wrong_flat (st : PS) : Flat st (wrongP l fin st) := fail_flat _ _ _
theorem next_flat {st : PS} : Flat st st.next := rfl
theorem take_flat (st : PS) (s : List UInt8) : Flat st (takeP l st s).2 := by
  unfold takeP
  split
  · exact next_flat
  · exact Flat.refl st
theorem need_flat : ∀ (r : List (List UInt8)) (st : PS), Flat st (needP l fin st r)
  | [], st => Flat.refl st
  | s :: r, st => by
    rw [needP]
    split
    · exact next_flat.trans (need_flat r _)
    · exact (wrong_flat st).trans (need_flat r _)
theorem kind_flat (st : PS) (k : Int) : Flat st (kindP l st k).2 := by
  unfold kindP
  split
  · split
    · exact next_flat
    · exact Flat.refl st
  · exact Flat.refl st
theorem ops_flat (st : PS) : ∀ r, Flat st (opsP l st r).2
  | [] => Flat.refl st
  | x :: r => by
    rw [opsP]
    split
    · exact next_flat
    · exact ops_flat st r
theorem operator_flat (st : PS) (lv : Nat) : Flat st (operatorP l st lv).2 := ops_flat st _
theorem name_flat (st : PS) : Flat st (nameP l fin st).2 := by
  have hk := kind_flat (l := l) st 1
  unfold nameP
  generalize kindP l st 1 = xx at *
  rcases xx with ⟨_ | t, st'⟩
  · exact hk.trans (wrong_flat _)
  · exact hk
def EnterD (st : PS) (r : Bool × PS) : Prop := r.2.d = if r.1 then st.d + 1 else st.d
theorem enter_flat (st : PS) (p : Int) : EnterD st (enterP st p) := by
  unfold enterP
  split
  · exact fail_flat _ _ _
  · rfl
theorem EnterD.no {a b c : PS} (h1 : Flat a b) (h2 : EnterD b (false, c)) : Flat a c := h1.trans h2
theorem EnterD.yes {a b c d : PS} (h1 : Flat a b) (h2 : EnterD b (true, c)) (h3 : Flat c d) : Flat a d.leave := by
  unfold EnterD at h2
  unfold Flat at *
  simp only [if_true] at h2
  show d.d - 1 = a.d
  omega
theorem loop_flat {f : PS → Ex × PS} {lv : Nat} (hf : ∀ st, Flat st (f st).2) : ∀ (m : Nat) (e : Ex) (st : PS), Flat st (leftLoop l f lv m e st).2
  | 0, e, st => Flat.refl _
  | m + 1, e, st => by
    rw [leftLoop]
    split
    · have h1 := operator_flat (l := l) st lv
      generalize operatorP l st lv = xx at *
      rcases xx with ⟨op, st'⟩
      simp only at h1 ⊢
      split
      · exact h1
      · have h2 := hf st'
        generalize f st' = xx at *
        rcases xx with ⟨y, st''⟩
        exact (h1.trans h2).trans (loop_flat hf m _ st'')
    · exact Flat.refl _
theorem primary_flat {inner : Int → PS → Ex × PS} (hf : ∀ p st, Flat st (inner p st).2) (st : PS)     : Flat st (primaryP l fin inner st).2 := by
  unfold primaryP
  simp only
  have k2 := kind_flat (l := l) st 2
  generalize kindP l st 2 = xx at *
  rcases xx with ⟨_ | t, s2⟩
  rotate_left
  · exact k2
  have k3 := k2.trans (kind_flat (l := l) s2 3)
  simp only
  generalize kindP l s2 3 = xx at *
  rcases xx with ⟨_ | t, s3⟩
  rotate_left
  · exact k3
  have k1 := k3.trans (kind_flat (l := l) s3 1)
  simp only
  generalize kindP l s3 1 = xx at *
  rcases xx with ⟨_ | t, s1⟩
  rotate_left
  · simp only
    have d := k1.trans (take_flat (l := l) s1 (bs "."))
    generalize takeP l s1 (bs ".") = xx at *
    rcases xx with ⟨_ | _, s4⟩
    · exact d
    · simp only
      exact d.trans (name_flat (l := l) (fin := fin) s4)
  simp only
  have n := k1.trans (take_flat (l := l) s1 (bs "null"))
  generalize takeP l s1 (bs "null") = xx at *
  rcases xx with ⟨_ | _, s4⟩
  rotate_left
  · exact n
  simp only
  have o := n.trans (take_flat (l := l) s4 (bs "("))
  generalize takeP l s4 (bs "(") = xx at *
  rcases xx with ⟨_ | _, s5⟩
  rotate_left
  · simp only
    have i := o.trans (hf (atP l fin st) s5)
    generalize inner (atP l fin st) s5 = xx at *
    rcases xx with ⟨e, s6⟩
    exact i.trans (need_flat _ s6)
  simp only
  have c := o.trans (take_flat (l := l) s5 (bs "count"))
  generalize takeP l s5 (bs "count") = xx at *
  rcases xx with ⟨_ | _, s6⟩
  rotate_left
  · exact c.trans (need_flat _ s6)
  simp only
  have a := c.trans (ops_flat (l := l) s6 aggs)
  generalize opsP l s6 aggs = xx at *
  rcases xx with ⟨op, s7⟩
  simp only
  split
  · exact a.trans (wrong_flat _)
  · have b := a.trans (need_flat (l := l) (fin := fin) [bs "("] s7)
    have i := b.trans (hf (atP l fin st) _)
    generalize inner (atP l fin st) (needP l fin s7 [bs "("]) = xx at *
    rcases xx with ⟨e, s8⟩
    exact i.trans (need_flat _ s8)
theorem ev_flat : ∀ (n : Nat) (fn : Fn) (st : PS), Flat st (ev l fin n fn st).2
  | 0, _, st => by rw [ev]; exact fail_flat _ _ _
  | n + 1, fn, st => by
    have ih := ev_flat n
    cases fn with
    | left lv =>
      rw [ev]
      have h1 := ih (.below lv) st
      generalize ev l fin n (.below lv) st = xx at *
      rcases xx with ⟨e, s1⟩
      exact h1.trans (loop_flat (fun s => ih _ s) _ e s1)
    | below lv =>
      rw [ev]
      repeat' split
      all_goals exact ih _ st
    | not =>
      rw [ev]
      simp only
      have t := take_flat (l := l) st (bs "not")
      generalize takeP l st (bs "not") = xx at *
      rcases xx with ⟨_ | _, s1⟩
      · exact t.trans (ih _ s1)
      · simp only
        have e := enter_flat s1 (atP l fin st)
        generalize enterP s1 (atP l fin st) = xx at *
        rcases xx with ⟨_ | _, s2⟩
        · exact EnterD.no t e
        · simp only
          have r := ih .not s2
          generalize ev l fin n .not s2 = xx at *
          rcases xx with ⟨x, s3⟩
          exact EnterD.yes t e r
    | compare =>
      rw [ev]
      have h1 := ih (.left 3) st
      generalize ev l fin n (.left 3) st = xx at *
      rcases xx with ⟨e, s1⟩
      simp only
      have h2 := h1.trans (operator_flat (l := l) s1 2)
      generalize operatorP l s1 2 = xx at *
      rcases xx with ⟨op, s2⟩
      simp only
      split
      · have h3 := h2.trans (ih (.left 3) s2)
        generalize ev l fin n (.left 3) s2 = xx at *
        rcases xx with ⟨y, s3⟩
        exact h3
      · have h3 := h2.trans (take_flat (l := l) s2 (bs "is"))
        generalize takeP l s2 (bs "is") = xx at *
        rcases xx with ⟨_ | _, s3⟩
        · exact h3
        · simp only
          have h4 := h3.trans (take_flat (l := l) s3 (bs "not"))
          generalize takeP l s3 (bs "not") = xx at *
          rcases xx with ⟨b, s4⟩
          exact h4.trans (need_flat _ s4)
    | minus =>
      rw [ev]
      simp only
      have t := take_flat (l := l) st (bs "-")
      generalize takeP l st (bs "-") = xx at *
      rcases xx with ⟨_ | _, s1⟩
      · exact t.trans (ih _ s1)
      · simp only
        have e := enter_flat s1 (atP l fin st)
        generalize enterP s1 (atP l fin st) = xx at *
        rcases xx with ⟨_ | _, s2⟩
        · exact EnterD.no t e
        · simp only
          have r := ih .minus s2
          generalize ev l fin n .minus s2 = xx at *
          rcases xx with ⟨x, s3⟩
          exact EnterD.yes t e r
    | primary =>
      rw [ev]
      exact primary_flat (fun p s => ih _ s) st
    | inner p =>
      rw [ev]
      have e := enter_flat st p
      generalize enterP st p = xx at *
      rcases xx with ⟨_ | _, s2⟩
      · exact EnterD.no (Flat.refl st) e
      · simp only
        have r := ih (.left 0) s2
        generalize ev l fin n (.left 0) s2 = xx at *
        rcases xx with ⟨x, s3⟩
        exact EnterD.yes (Flat.refl st) e r
end Go.Av.Pa

namespace Go.Proofs.Ytdinnoejipmiiaa
open Go.Av
open Go.Av.Pa (PS atP isP wrongP takeP needP kindP nameP opsP operatorP enterP ev)
section
variable {T : List Tok} {fin : Int}
theorem take_cases (hT : T.length ≤ 400) (st : PS) (s : List UInt8) : (takeP T st s = (true, st.next) ∧ st.i < T.length ∧ PC T fin 30 [str s] st (bl true) st.next) ∨ (takeP T st s = (false, st) ∧ PC0 T fin 30 [str s] st (bl false)) := by
  cases hs : isP T st s with
  | true => exact .inl ⟨by rw [takeP, if_pos hs], isP_i hs, take_T hT hs⟩
  | false => exact .inr ⟨by rw [takeP, if_neg (by rw [hs]; decide)], take_F hT hs⟩
theorem enter_cases (st : PS) (hd : st.d ≤ 20) (a : Int) : (enterP st a = (true, { st with d := st.d + 1 }) ∧ st.d + 1 ≤ 20 ∧ PC T fin 71 [i64 a] st (bl true) { st with d := st.d + 1 }) ∨ (enterP st a = (false, st.fail a 201) ∧ PC T fin 71 [i64 a] st (bl false) (st.fail a 201)) := by
  have h := enter_spec (T := T) (fin := fin) st hd a
  by_cases h20 : st.d = 20
  · have e : enterP st a = (false, st.fail a 201) := by rw [enterP, if_pos h20]
    rw [e] at h
    exact .inr ⟨e, h⟩
  · have e : enterP st a = (true, { st with d := st.d + 1 }) := by rw [enterP, if_neg h20]
    rw [e] at h
    exact .inl ⟨e, by omega, h⟩
theorem PC.ex {f : FuncId} {al : List AV} {st : PS} {r : Pa.Ex × PS} (h : PC T fin f al st (.ag r.1.cells) r.2) :
    ∃ op t nm n vk vn vs args st', r = (.mk op t nm n ⟨vk, vn, vs⟩ args, st') ∧ PC T fin f al st (.ag [i64 op, str t, str nm, i64 n, i64 vk, i64 vn, str vs, .sl 8 (args.map Pa.Ex.cells) .ro]) st' := by
  obtain ⟨⟨op, t, nm, n, ⟨vk, vn, vs⟩, args⟩, st'⟩ := r
  rw [Pa.Ex.cells_mk] at h
  exact ⟨op, t, nm, n, vk, vn, vs, args, st', rfl, h⟩
def fid : Pa.Fn → FuncId
  | .left _ => 19
  | .below _ => 40
  | .not => 58
  | .compare => 70
  | .minus => 59
  | .primary => 72
  | .inner _ => 80
def fargs : Pa.Fn → List AV
  | .left lv => [i64 lv]
  | .below lv => [i64 lv]
  | .inner a => [i64 a]
  | _ => []
def lvl (lv : Nat) : Prop := lv = 0 ∨ lv = 1 ∨ lv = 3 ∨ lv = 4
def okF : Pa.Fn → Prop
  | .left lv => lvl lv
  | .below lv => lvl lv
  | _ => True
def hgt : Pa.Fn → Nat
  | .left lv => if lv = 0 then 12 else if lv = 1 then 10 else if lv = 3 then 6 else 4
  | .below lv => if lv = 0 then 11 else if lv = 1 then 9 else if lv = 3 then 5 else 3
  | .not => 8
  | .compare => 7
  | .minus => 2
  | .primary => 1
  | .inner _ => 13
def Does (T : List Tok) (fin : Int) (n : Nat) : Prop := ∀ (fn : Pa.Fn) (st : PS), okF fn → st.i ≤ T.length → st.d ≤ 20 → 16 * (T.length - st.i) + hgt fn ≤ n → PC T fin (fid fn) (fargs fn) st (.ag (ev T fin n fn st).1.cells) (ev T fin n fn st).2
def r40 : RCode :=
  (.seq (.region [
    ⟨(some 4), none, .act, .alloc [(.int .i64 0), (.string ⟨#[]⟩), (.string ⟨#[]⟩), (.int .i64 0), (.int .i64 0), (.int .i64 0), (.string ⟨#[]⟩), (.slice none 0 0)]⟩])
  (.seq (.seq (.region [
    ⟨(some 5), none, .act, .mv (.tmp 1)⟩])
  (.block 0
   (.seq (.region [
     ⟨(some 7), none, .act, .eq false .int (.tmp 5) (.const (.int .i64 0))⟩,
     ⟨(some 6), none, .act, .mv (.tmp 7)⟩])
   (.cond (.tmp 6)
    (.seq (.region [
      ⟨(some 8), none, .act, .mv (.tmp 0)⟩,
      ⟨(some 9), none, .act, .call 19 [(.tmp 8), (.const (.int .i64 1))]⟩,
      ⟨none, none, .act, .store 8 (.tmp 4) (.tmp 9)⟩])
    .ret)
    (.seq (.region [
      ⟨(some 11), none, .act, .eq false .int (.tmp 5) (.const (.int .i64 1))⟩,
      ⟨(some 10), none, .act, .mv (.tmp 11)⟩])
    (.cond (.tmp 10)
     (.seq (.region [
       ⟨(some 12), none, .act, .mv (.tmp 0)⟩,
       ⟨(some 13), none, .act, .call 58 [(.tmp 12)]⟩,
       ⟨none, none, .act, .store 8 (.tmp 4) (.tmp 13)⟩])
     .ret)
     (.seq (.region [
       ⟨(some 15), none, .act, .eq false .int (.tmp 5) (.const (.int .i64 3))⟩,
       ⟨(some 14), none, .act, .mv (.tmp 15)⟩])
     (.cond (.tmp 14)
      (.seq (.region [
        ⟨(some 16), none, .act, .mv (.tmp 0)⟩,
        ⟨(some 17), none, .act, .call 19 [(.tmp 16), (.const (.int .i64 4))]⟩,
        ⟨none, none, .act, .store 8 (.tmp 4) (.tmp 17)⟩])
      .ret)
      .skip))))))))
  (.seq (.region [
    ⟨(some 18), none, .act, .mv (.tmp 0)⟩,
    ⟨(some 19), none, .act, .call 59 [(.tmp 18)]⟩,
    ⟨none, none, .act, .store 8 (.tmp 4) (.tmp 19)⟩])
  .ret)))
theorem res40 : ∃ c, Try.f40.body = some c ∧ resCode Try.prog 20 c = some r40 := ⟨_, rfl, by kernel_rfl⟩
theorem rr40 : resRes Try.prog Try.f40.results.toList = some [.cell 4 true 8] := by kernel_rfl
theorem below_does {n : Nat} (ih : Does T fin n) (lv : Nat) (hlv : lvl lv) (st : PS) (hi : st.i ≤ T.length) (hd : st.d ≤ 20) (hr : 16 * (T.length - st.i) + hgt (.below lv) ≤ n + 1) :
    PC T fin 40 [i64 lv] st (.ag (ev T fin (n + 1) (.below lv) st).1.cells) (ev T fin (n + 1) (.below lv) st).2 := by
  intro p h ⟨hg, hp⟩
  obtain ⟨c', hc1, hc2⟩ := res40
  refine ACalls.weak (ACalls.enter Try.func40 hc1 Try.ntmps40 hc2 (Nat.le_of_ble_eq_true rfl) rfl ?_)
  rw [ev]
  rcases hlv with rfl | rfl | rfl | rfl
  · obtain ⟨op, t, nm, m, vk, vn, vs, ars, s1, e1, c1⟩ := PC.ex (ih (.left 1) st (.inr (.inl rfl)) hi hd (by simp [hgt] at hr ⊢; omega))
    rw [if_pos rfl, e1]
    clear e1
    simp only [fid, fargs] at c1
    repeat' (first | refine S.nilK ?_ | (refine S.op rfl ?_; first | (show ROpS _ _ (.call 19 _) _ _ _; refine callPC rfl rfl c1 (by repeat' (first | assumption | refine Glob.setF ?_ (by (repeat' (first | assumption)); first | done | fail))) (by (repeat' (first | assumption | refine AHeap.get_fresh ‹_› ?_)); first | done | fail) (by repeat' (first | (apply AHeap.upd1; · exact (by first | exact AHeap.n4 ‹_› ‹_›)) | exact rfl)) ?_) | refine R.mv rfl ?_ | refine R.alloc rfl (fun b hb => ?_) | ((first | refine S.eqInt rfl rfl ?_ ?_) <;> intro hlt <;> try (exfalso; omega))) | (refine S.op0 rfl ?_; first | refine S.storeN rfl rfl (by (repeat' (first | exact AHeap.set_same _ _ _)); first | done | fail) rfl rfl rfl (by rfl) rfl (by repeat' (first | exact AHeap.set_set _ _ _ _)) ?_) | refine S.seq ?_ | refine S.region ?_ | refine S.condT rfl ?_ | refine RRun.block ?_)
    apply S.ret rr40
    case hx => repeat (first | exact ResAt.nil | apply ResAt.cellA rfl (by (repeat' (first | exact AHeap.set_same _ _ _)); first | done | fail) (by rfl))
    exact ⟨_, h.set p (.box (pst T fin s1)), ex_le (.refl _), (by repeat (first | exact AHeap.le.refl _ | refine AHeap.le.set ?_ _ (by (repeat' (first | assumption | refine AHeap.so ?_ ?_ | exact AHeap.n4 ‹_› ‹_›)); first | done | fail))), rfl, rfl⟩
  · obtain ⟨op, t, nm, m, vk, vn, vs, ars, s1, e1, c1⟩ := PC.ex (ih .not st trivial hi hd (by simp [hgt] at hr ⊢; omega))
    rw [if_neg (by omega), if_pos rfl, e1]
    clear e1
    simp only [fid, fargs] at c1
    repeat' (first | refine S.nilK ?_ | (refine S.op rfl ?_; first | (show ROpS _ _ (.call 58 _) _ _ _; refine callPC rfl rfl c1 (by repeat' (first | assumption | refine Glob.setF ?_ (by (repeat' (first | assumption)); first | done | fail))) (by (repeat' (first | assumption | refine AHeap.get_fresh ‹_› ?_)); first | done | fail) (by repeat' (first | (apply AHeap.upd1; · exact (by first | exact AHeap.n4 ‹_› ‹_›)) | exact rfl)) ?_) | refine R.mv rfl ?_ | refine R.alloc rfl (fun b hb => ?_) | ((first | refine S.eqInt rfl rfl ?_ ?_) <;> intro hlt <;> try (exfalso; omega))) | (refine S.op0 rfl ?_; first | refine S.storeN rfl rfl (by (repeat' (first | exact AHeap.set_same _ _ _)); first | done | fail) rfl rfl rfl (by rfl) rfl (by repeat' (first | exact AHeap.set_set _ _ _ _)) ?_) | refine S.seq ?_ | refine S.region ?_ | refine S.condT rfl ?_ | refine S.condF rfl ?_ | refine RRun.block ?_)
    apply S.ret rr40
    case hx => repeat (first | exact ResAt.nil | apply ResAt.cellA rfl (by (repeat' (first | exact AHeap.set_same _ _ _)); first | done | fail) (by rfl))
    exact ⟨_, h.set p (.box (pst T fin s1)), ex_le (.refl _), (by repeat (first | exact AHeap.le.refl _ | refine AHeap.le.set ?_ _ (by (repeat' (first | assumption | refine AHeap.so ?_ ?_ | exact AHeap.n4 ‹_› ‹_›)); first | done | fail))), rfl, rfl⟩
  · obtain ⟨op, t, nm, m, vk, vn, vs, ars, s1, e1, c1⟩ := PC.ex (ih (.left 4) st (.inr (.inr (.inr rfl))) hi hd (by simp [hgt] at hr ⊢; omega))
    rw [if_neg (by omega), if_neg (by omega), if_pos rfl, e1]
    clear e1
    simp only [fid, fargs] at c1
    repeat' (first | refine S.nilK ?_ | (refine S.op rfl ?_; first | (show ROpS _ _ (.call 19 _) _ _ _; refine callPC rfl rfl c1 (by repeat' (first | assumption | refine Glob.setF ?_ (by (repeat' (first | assumption)); first | done | fail))) (by (repeat' (first | assumption | refine AHeap.get_fresh ‹_› ?_)); first | done | fail) (by repeat' (first | (apply AHeap.upd1; · exact (by first | exact AHeap.n4 ‹_› ‹_›)) | exact rfl)) ?_) | refine R.mv rfl ?_ | refine R.alloc rfl (fun b hb => ?_) | ((first | refine S.eqInt rfl rfl ?_ ?_) <;> intro hlt <;> try (exfalso; omega))) | (refine S.op0 rfl ?_; first | refine S.storeN rfl rfl (by (repeat' (first | exact AHeap.set_same _ _ _)); first | done | fail) rfl rfl rfl (by rfl) rfl (by repeat' (first | exact AHeap.set_set _ _ _ _)) ?_) | refine S.seq ?_ | refine S.region ?_ | refine S.condT rfl ?_ | refine S.condF rfl ?_ | refine RRun.block ?_)
    apply S.ret rr40
    case hx => repeat (first | exact ResAt.nil | apply ResAt.cellA rfl (by (repeat' (first | exact AHeap.set_same _ _ _)); first | done | fail) (by rfl))
    exact ⟨_, h.set p (.box (pst T fin s1)), ex_le (.refl _), (by repeat (first | exact AHeap.le.refl _ | refine AHeap.le.set ?_ _ (by (repeat' (first | assumption | refine AHeap.so ?_ ?_ | exact AHeap.n4 ‹_› ‹_›)); first | done | fail))), rfl, rfl⟩
  · obtain ⟨op, t, nm, m, vk, vn, vs, ars, s1, e1, c1⟩ := PC.ex (ih .minus st trivial hi hd (by simp [hgt] at hr ⊢; omega))
    rw [if_neg (by omega), if_neg (by omega), if_neg (by omega), e1]
    clear e1
    simp only [fid, fargs] at c1
    repeat' (first | refine S.nilK ?_ | (refine S.op rfl ?_; first | (show ROpS _ _ (.call 59 _) _ _ _; refine callPC rfl rfl c1 (by repeat' (first | assumption | refine Glob.setF ?_ (by (repeat' (first | assumption)); first | done | fail))) (by (repeat' (first | assumption | refine AHeap.get_fresh ‹_› ?_)); first | done | fail) (by repeat' (first | (apply AHeap.upd1; · exact (by first | exact AHeap.n4 ‹_› ‹_›)) | exact rfl)) ?_) | refine R.mv rfl ?_ | refine R.alloc rfl (fun b hb => ?_) | ((first | refine S.eqInt rfl rfl ?_ ?_) <;> intro hlt <;> try (exfalso; omega))) | (refine S.op0 rfl ?_; first | refine S.storeN rfl rfl (by (repeat' (first | exact AHeap.set_same _ _ _)); first | done | fail) rfl rfl rfl (by rfl) rfl (by repeat' (first | exact AHeap.set_set _ _ _ _)) ?_) | refine S.seq ?_ | refine S.region ?_ | refine S.condF rfl ?_ | refine RRun.skip ?_ | refine RRun.block ?_ | refine RRun.inBlock ?_)
    apply S.ret rr40
    case hx => repeat (first | exact ResAt.nil | apply ResAt.cellA rfl (by (repeat' (first | exact AHeap.set_same _ _ _)); first | done | fail) (by rfl))
    exact ⟨_, h.set p (.box (pst T fin s1)), ex_le (.refl _), (by repeat (first | exact AHeap.le.refl _ | refine AHeap.le.set ?_ _ (by (repeat' (first | assumption | refine AHeap.so ?_ ?_ | exact AHeap.n4 ‹_› ‹_›)); first | done | fail))), rfl, rfl⟩
theorem bs_not : Pa.bs "not" = [110, 111, 116] := by decide +kernel
theorem bs_minus : Pa.bs "-" = [45] := by decide +kernel
theorem bs_is : Pa.bs "is" = [105, 115] := by decide +kernel
theorem bs_null : Pa.bs "null" = [110, 117, 108, 108] := by decide +kernel
theorem bs_open : Pa.bs "(" = [40] := by decide +kernel
theorem bs_close : Pa.bs ")" = [41] := by decide +kernel
theorem bs_star : Pa.bs "*" = [42] := by decide +kernel
theorem bs_dot : Pa.bs "." = [46] := by decide +kernel
theorem bs_count : Pa.bs "count" = [99, 111, 117, 110, 116] := by decide +kernel
theorem ex1_le {op n vk vn : Int} {t nm vs : List UInt8} {args : List Pa.Ex} {c : Cap} : ALe (.sl 8 [[i64 op, str t, str nm, i64 n, i64 vk, i64 vn, str vs, .sl 8 (args.map Pa.Ex.cells) .ro]] c) (.sl 8 ([Pa.Ex.mk op t nm n ⟨vk, vn, vs⟩ args].map Pa.Ex.cells) .ro) := by
  simp only [List.map_cons, List.map_nil, Pa.Ex.cells_mk]
  exact .toRo _ _ _
theorem pst_leave {s : PS} {k : Nat} (hs : s.d = k + 1) : pst T fin s.leave = [toksA T .ro, i64 s.i, i64 fin, i64 s.bat, i64 s.be, i64 ((s.d : Int) - 1)] := by
  unfold pst Pa.PS.leave
  simp only
  rw [hs, show ((k + 1 - 1 : Nat) : Int) = ((k + 1 : Nat) : Int) - 1 by omega]
def r58 : RCode :=
  (.seq (.region [
    ⟨(some 2), none, .act, .alloc [(.int .i64 0), (.string ⟨#[]⟩), (.string ⟨#[]⟩), (.int .i64 0), (.int .i64 0), (.int .i64 0), (.string ⟨#[]⟩), (.slice none 0 0)]⟩])
  (.seq (.region [
    ⟨(some 5), none, .act, .mv (.tmp 0)⟩,
    ⟨(some 6), none, .act, .call 21 [(.tmp 5)]⟩,
    ⟨(some 3), none, .act, .mv (.tmp 6)⟩])
  (.seq (.seq (.region [
    ⟨(some 7), none, .act, .mv (.tmp 0)⟩,
    ⟨(some 8), none, .act, .call 30 [(.tmp 7), (.const (.string ⟨#[110, 111, 116]⟩))]⟩,
    ⟨(some 9), none, .act, .un .not (.tmp 8)⟩])
  (.cond (.tmp 9)
   (.seq (.region [
     ⟨(some 10), none, .act, .mv (.tmp 0)⟩,
     ⟨(some 11), none, .act, .call 70 [(.tmp 10)]⟩,
     ⟨none, none, .act, .store 8 (.tmp 2) (.tmp 11)⟩])
   .ret)
   .skip))
  (.seq (.seq (.region [
    ⟨(some 12), none, .act, .mv (.tmp 0)⟩,
    ⟨(some 13), none, .act, .mv (.tmp 3)⟩,
    ⟨(some 14), none, .act, .call 71 [(.tmp 12), (.tmp 13)]⟩,
    ⟨(some 15), none, .act, .un .not (.tmp 14)⟩])
  (.cond (.tmp 15)
   (.seq (.region [
     ⟨(some 16), none, .act, .build [(.int .i64 0), (.string ⟨#[]⟩), (.string ⟨#[]⟩), (.int .i64 0), (.int .i64 0), (.int .i64 0), (.string ⟨#[]⟩), (.slice none 0 0)] []⟩,
     ⟨none, none, .act, .store 8 (.tmp 2) (.tmp 16)⟩])
   .ret)
   .skip))
  (.seq (.region [
    ⟨(some 17), none, .act, .mv (.tmp 0)⟩,
    ⟨(some 18), none, .act, .call 58 [(.tmp 17)]⟩,
    ⟨(some 4), none, .act, .alloc [(.int .i64 0), (.string ⟨#[]⟩), (.string ⟨#[]⟩), (.int .i64 0), (.int .i64 0), (.int .i64 0), (.string ⟨#[]⟩), (.slice none 0 0)]⟩,
    ⟨none, none, .act, .store 8 (.tmp 4) (.tmp 18)⟩])
  (.seq (.region [
    ⟨(some 19), none, .act, .mv (.tmp 0)⟩,
    ⟨(some 20), none, .act, .nilCheck (.tmp 19)⟩,
    ⟨(some 21), none, .act, .fieldAddr 5 (.tmp 20)⟩,
    ⟨(some 22), none, .act, .load false 1 (.tmp 21)⟩,
    ⟨(some 23), none, .act, .bin .sub (.tmp 22) (.const (.int .i64 1))⟩,
    ⟨(some 24), none, .act, .nilCheck (.tmp 19)⟩,
    ⟨(some 25), none, .act, .fieldAddr 5 (.tmp 24)⟩,
    ⟨none, none, .act, .store 1 (.tmp 25) (.tmp 23)⟩])
  (.seq (.region [
    ⟨(some 26), none, .act, .load true 8 (.tmp 4)⟩,
    ⟨(some 27), none, .act, .buildSl 8 [(.int .i64 0), (.string ⟨#[]⟩), (.string ⟨#[]⟩), (.int .i64 0), (.int .i64 0), (.int .i64 0), (.string ⟨#[]⟩), (.slice none 0 0)] 1 [(0, (.tmp 26))]⟩,
    ⟨(some 28), none, .act, .build [(.int .i64 0), (.string ⟨#[]⟩), (.string ⟨#[]⟩), (.int .i64 0), (.int .i64 0), (.int .i64 0), (.string ⟨#[]⟩), (.slice none 0 0)] [(0, 1, (.const (.int .i64 16))), (7, 1, (.tmp 27))]⟩,
    ⟨none, none, .act, .store 8 (.tmp 2) (.tmp 28)⟩])
  .ret)))))))
theorem res58 : ∃ c, Try.f58.body = some c ∧ resCode Try.prog 29 c = some r58 := ⟨_, rfl, by kernel_rfl⟩
theorem rr58 : resRes Try.prog Try.f58.results.toList = some [.cell 2 true 8] := by kernel_rfl
theorem not_does (hT : T.length ≤ 400) {n : Nat} (ih : Does T fin n) (st : PS) (hi : st.i ≤ T.length) (hd : st.d ≤ 20) (hr : 16 * (T.length - st.i) + hgt .not ≤ n + 1) :
    PC T fin 58 [] st (.ag (ev T fin (n + 1) .not st).1.cells) (ev T fin (n + 1) .not st).2 := by
  intro p h ⟨hg, hp⟩
  obtain ⟨c', hc1, hc2⟩ := res58
  refine ACalls.weak (ACalls.enter Try.func58 hc1 Try.ntmps58 hc2 (Nat.le_of_ble_eq_true rfl) rfl ?_)
  have cat := at_spec (T := T) (fin := fin) st
  rw [ev, bs_not]
  simp only
  generalize atP T fin st = a at cat ⊢
  rcases take_cases (fin := fin) hT st [110, 111, 116] with ⟨e, hlt, ct⟩ | ⟨e, ct⟩
  · rw [e]
    clear e
    simp only
    have hd' : st.next.d ≤ 20 := hd
    rcases enter_cases (T := T) (fin := fin) st.next hd' a with ⟨e, hd2, ce⟩ | ⟨e, ce⟩
    · rw [e]
      clear e
      simp only
      have hfl := Pa.ev_flat (l := T) (fin := fin) n .not { st.next with d := st.next.d + 1 }
      obtain ⟨op, t, nm, m, vk, vn, vs, ars, s1, e1, c1⟩ := PC.ex (ih .not { st.next with d := st.next.d + 1 } trivial (show st.i + 1 ≤ T.length by omega) hd2 (by show 16 * (T.length - (st.i + 1)) + 8 ≤ n; simp [hgt] at hr; omega))
      rw [e1] at hfl ⊢
      clear e1
      have hfl' : s1.d = st.d + 1 := hfl
      simp only [fid, fargs] at c1
      repeat' (first | refine S.nilK ?_ | (refine S.op rfl ?_; first | (show ROpS _ _ (.call 21 _) _ _ _; refine callPC0 rfl rfl cat (by repeat' (first | assumption | refine Glob.setF ?_ (by (repeat' (first | assumption)); first | done | fail))) (by (repeat' (first | assumption | refine AHeap.get_fresh ‹_› ?_)); first | done | fail) ?_) | (show ROpS _ _ (.call 30 _) _ _ _; refine callPC rfl rfl ct (by repeat' (first | assumption | refine Glob.setF ?_ (by (repeat' (first | assumption)); first | done | fail))) (by (repeat' (first | assumption | refine AHeap.get_fresh ‹_› ?_)); first | done | fail) (by repeat' (first | (apply AHeap.upd1; · exact (by first | exact AHeap.n4 ‹_› ‹_›)) | exact rfl)) ?_) | (show ROpS _ _ (.call 71 _) _ _ _; refine callPC rfl rfl ce (by repeat' (first | assumption | refine Glob.setF ?_ (by (repeat' (first | assumption | refine AHeap.so ?_ ?_ | exact AHeap.n4 ‹_› ‹_›)); first | done | fail) | refine Glob.setP ?_ (by (repeat' (first | assumption)); first | done | fail))) (by (repeat' (first | exact AHeap.set_same _ _ _ | refine AHeap.so ?_ ?_ | exact AHeap.ne_of ‹_› ‹_›)); first | done | fail) (by repeat' (first | exact AHeap.set_set _ _ _ _ | (apply AHeap.upd1; · exact (by first | exact AHeap.n4 ‹_› ‹_›)))) ?_) | (show ROpS _ _ (.call 58 _) _ _ _; refine callPC rfl rfl c1 (by repeat' (first | assumption | refine Glob.setF ?_ (by (repeat' (first | assumption | refine AHeap.so ?_ ?_ | exact AHeap.n4 ‹_› ‹_›)); first | done | fail) | refine Glob.setP ?_ (by (repeat' (first | assumption)); first | done | fail))) (by (repeat' (first | exact AHeap.set_same _ _ _ | refine AHeap.so ?_ ?_ | exact AHeap.ne_of ‹_› ‹_›)); first | done | fail) (by repeat' (first | exact AHeap.set_set _ _ _ _ | (apply AHeap.upd1; · exact (by first | exact AHeap.n4 ‹_› ‹_›)))) ?_) | refine R.mv rfl ?_ | refine R.fieldAddr rfl ?_ | refine R.nilCheck rfl ?_ | refine R.load (by decide) rfl (by (repeat' (first | exact AHeap.set_same _ _ _ | refine AHeap.get_fresh ‹_› ?_ | refine AHeap.so ?_ ?_ | exact AHeap.ne_of ‹_› ‹_›)); first | done | fail) rfl ?_ | refine S.subI rfl rfl (by omega) ?_ | refine R.not rfl ?_ | refine R.alloc rfl (fun b hb => ?_) | refine R.build rfl rfl ?_ | refine R.buildSl rfl rfl rfl (by decide) ?_) | (refine S.op0 rfl ?_; first | refine S.storeN rfl rfl (by (repeat' (first | exact AHeap.set_same _ _ _ | refine AHeap.get_fresh ‹_› ?_ | refine AHeap.so ?_ ?_ | exact AHeap.n2 ‹_› | exact AHeap.ne_of ‹_› ‹_›)); first | done | fail) rfl rfl rfl (by rfl) rfl (by repeat' (first | exact AHeap.set_set _ _ _ _ | (apply AHeap.upd1; · exact (by first | exact AHeap.n1 ‹_› | exact AHeap.n4 ‹_› ‹_› | exact AHeap.n5 ‹_›)))) ?_) | refine S.seq ?_ | refine S.region ?_ | refine S.condF rfl ?_ | refine RRun.skip ?_)
      apply S.ret rr58
      case hx => repeat (first | exact ResAt.nil | apply ResAt.cellA rfl (by (repeat' (first | exact AHeap.set_same _ _ _ | refine AHeap.so ?_ ?_ | exact AHeap.n2 ‹_›)); first | done | fail) (by rfl))
      refine ⟨_, h.set p (.box (pst T fin s1.leave)), ex_le ex1_le, ?_, rfl, rfl⟩
      rw [pst_leave hfl']
      exact (by repeat (first | exact AHeap.le.refl _ | refine AHeap.le.set ?_ _ (by (repeat' (first | assumption | exact AHeap.z2 ‹_› | refine AHeap.so ?_ ?_ | exact AHeap.n4 ‹_› ‹_› | exact AHeap.n5 ‹_›)); first | done | fail)))
    · rw [e]
      clear e
      simp only
      repeat' (first | refine S.nilK ?_ | (refine S.op rfl ?_; first | (show ROpS _ _ (.call 21 _) _ _ _; refine callPC0 rfl rfl cat (by repeat' (first | assumption | refine Glob.setF ?_ (by (repeat' (first | assumption)); first | done | fail))) (by (repeat' (first | assumption | refine AHeap.get_fresh ‹_› ?_)); first | done | fail) ?_) | (show ROpS _ _ (.call 30 _) _ _ _; refine callPC rfl rfl ct (by repeat' (first | assumption | refine Glob.setF ?_ (by (repeat' (first | assumption)); first | done | fail))) (by (repeat' (first | assumption | refine AHeap.get_fresh ‹_› ?_)); first | done | fail) (by repeat' (first | (apply AHeap.upd1; · exact (by first | exact AHeap.n4 ‹_› ‹_›)) | exact rfl)) ?_) | (show ROpS _ _ (.call 71 _) _ _ _; refine callPC rfl rfl ce (by repeat' (first | assumption | refine Glob.setF ?_ (by (repeat' (first | assumption | refine AHeap.so ?_ ?_ | exact AHeap.n4 ‹_› ‹_›)); first | done | fail) | refine Glob.setP ?_ (by (repeat' (first | assumption)); first | done | fail))) (by (repeat' (first | exact AHeap.set_same _ _ _ | refine AHeap.so ?_ ?_ | exact AHeap.ne_of ‹_› ‹_›)); first | done | fail) (by repeat' (first | exact AHeap.set_set _ _ _ _ | (apply AHeap.upd1; · exact (by first | exact AHeap.n4 ‹_› ‹_›)))) ?_) | refine R.mv rfl ?_ | refine R.not rfl ?_ | refine R.alloc rfl (fun b hb => ?_) | refine R.build rfl rfl ?_) | (refine S.op0 rfl ?_; first | refine S.storeN rfl rfl (by (repeat' (first | exact AHeap.set_same _ _ _)); first | done | fail) rfl rfl rfl (by rfl) rfl (by repeat' (first | exact AHeap.set_set _ _ _ _)) ?_) | refine S.seq ?_ | refine S.region ?_ | refine S.condT rfl ?_ | refine S.condF rfl ?_ | refine RRun.skip ?_)
      apply S.ret rr58
      case hx => repeat (first | exact ResAt.nil | apply ResAt.cellA rfl (by (repeat' (first | exact AHeap.set_same _ _ _)); first | done | fail) (by rfl))
      exact ⟨_, h.set p (.box (pst T fin (st.next.fail a 201))), ex_le nil_le, (by repeat (first | exact AHeap.le.refl _ | refine AHeap.le.set ?_ _ (by (repeat' (first | assumption | refine AHeap.so ?_ ?_ | exact AHeap.n4 ‹_› ‹_›)); first | done | fail))), rfl, rfl⟩
  · rw [e]
    clear e
    simp only
    obtain ⟨op, t, nm, m, vk, vn, vs, ars, s1, e1, c1⟩ := PC.ex (ih .compare st trivial hi hd (by simp [hgt] at hr ⊢; omega))
    rw [e1]
    clear e1
    simp only [fid, fargs] at c1
    repeat' (first | refine S.nilK ?_ | (refine S.op rfl ?_; first | (show ROpS _ _ (.call 21 _) _ _ _; refine callPC0 rfl rfl cat (by repeat' (first | assumption | refine Glob.setF ?_ (by (repeat' (first | assumption)); first | done | fail))) (by (repeat' (first | assumption | refine AHeap.get_fresh ‹_› ?_)); first | done | fail) ?_) | (show ROpS _ _ (.call 30 _) _ _ _; refine callPC0 rfl rfl ct (by repeat' (first | assumption | refine Glob.setF ?_ (by (repeat' (first | assumption)); first | done | fail))) (by (repeat' (first | assumption | refine AHeap.get_fresh ‹_› ?_)); first | done | fail) ?_) | (show ROpS _ _ (.call 70 _) _ _ _; refine callPC rfl rfl c1 (by repeat' (first | assumption | refine Glob.setF ?_ (by (repeat' (first | assumption)); first | done | fail))) (by (repeat' (first | assumption | refine AHeap.get_fresh ‹_› ?_)); first | done | fail) (by repeat' (first | (apply AHeap.upd1; · exact (by first | exact AHeap.n4 ‹_› ‹_›)) | exact rfl)) ?_) | refine R.mv rfl ?_ | refine R.not rfl ?_ | refine R.alloc rfl (fun b hb => ?_)) | (refine S.op0 rfl ?_; first | refine S.storeN rfl rfl (by (repeat' (first | exact AHeap.set_same _ _ _)); first | done | fail) rfl rfl rfl (by rfl) rfl (by repeat' (first | exact AHeap.set_set _ _ _ _)) ?_) | refine S.seq ?_ | refine S.region ?_ | refine S.condT rfl ?_)
    apply S.ret rr58
    case hx => repeat (first | exact ResAt.nil | apply ResAt.cellA rfl (by (repeat' (first | exact AHeap.set_same _ _ _)); first | done | fail) (by rfl))
    exact ⟨_, h.set p (.box (pst T fin s1)), ex_le (.refl _), (by repeat (first | exact AHeap.le.refl _ | refine AHeap.le.set ?_ _ (by (repeat' (first | assumption | refine AHeap.so ?_ ?_ | exact AHeap.n4 ‹_› ‹_›)); first | done | fail))), rfl, rfl⟩
def r59 : RCode :=
  (.seq (.region [
    ⟨(some 2), none, .act, .alloc [(.int .i64 0), (.string ⟨#[]⟩), (.string ⟨#[]⟩), (.int .i64 0), (.int .i64 0), (.int .i64 0), (.string ⟨#[]⟩), (.slice none 0 0)]⟩])
  (.seq (.region [
    ⟨(some 5), none, .act, .mv (.tmp 0)⟩,
    ⟨(some 6), none, .act, .call 21 [(.tmp 5)]⟩,
    ⟨(some 3), none, .act, .mv (.tmp 6)⟩])
  (.seq (.seq (.region [
    ⟨(some 7), none, .act, .mv (.tmp 0)⟩,
    ⟨(some 8), none, .act, .call 30 [(.tmp 7), (.const (.string ⟨#[45]⟩))]⟩,
    ⟨(some 9), none, .act, .un .not (.tmp 8)⟩])
  (.cond (.tmp 9)
   (.seq (.region [
     ⟨(some 10), none, .act, .mv (.tmp 0)⟩,
     ⟨(some 11), none, .act, .call 72 [(.tmp 10)]⟩,
     ⟨none, none, .act, .store 8 (.tmp 2) (.tmp 11)⟩])
   .ret)
   .skip))
  (.seq (.seq (.region [
    ⟨(some 12), none, .act, .mv (.tmp 0)⟩,
    ⟨(some 13), none, .act, .mv (.tmp 3)⟩,
    ⟨(some 14), none, .act, .call 71 [(.tmp 12), (.tmp 13)]⟩,
    ⟨(some 15), none, .act, .un .not (.tmp 14)⟩])
  (.cond (.tmp 15)
   (.seq (.region [
     ⟨(some 16), none, .act, .build [(.int .i64 0), (.string ⟨#[]⟩), (.string ⟨#[]⟩), (.int .i64 0), (.int .i64 0), (.int .i64 0), (.string ⟨#[]⟩), (.slice none 0 0)] []⟩,
     ⟨none, none, .act, .store 8 (.tmp 2) (.tmp 16)⟩])
   .ret)
   .skip))
  (.seq (.region [
    ⟨(some 17), none, .act, .mv (.tmp 0)⟩,
    ⟨(some 18), none, .act, .call 59 [(.tmp 17)]⟩,
    ⟨(some 4), none, .act, .alloc [(.int .i64 0), (.string ⟨#[]⟩), (.string ⟨#[]⟩), (.int .i64 0), (.int .i64 0), (.int .i64 0), (.string ⟨#[]⟩), (.slice none 0 0)]⟩,
    ⟨none, none, .act, .store 8 (.tmp 4) (.tmp 18)⟩])
  (.seq (.region [
    ⟨(some 19), none, .act, .mv (.tmp 0)⟩,
    ⟨(some 20), none, .act, .nilCheck (.tmp 19)⟩,
    ⟨(some 21), none, .act, .fieldAddr 5 (.tmp 20)⟩,
    ⟨(some 22), none, .act, .load false 1 (.tmp 21)⟩,
    ⟨(some 23), none, .act, .bin .sub (.tmp 22) (.const (.int .i64 1))⟩,
    ⟨(some 24), none, .act, .nilCheck (.tmp 19)⟩,
    ⟨(some 25), none, .act, .fieldAddr 5 (.tmp 24)⟩,
    ⟨none, none, .act, .store 1 (.tmp 25) (.tmp 23)⟩])
  (.seq (.region [
    ⟨(some 26), none, .act, .load true 8 (.tmp 4)⟩,
    ⟨(some 27), none, .act, .buildSl 8 [(.int .i64 0), (.string ⟨#[]⟩), (.string ⟨#[]⟩), (.int .i64 0), (.int .i64 0), (.int .i64 0), (.string ⟨#[]⟩), (.slice none 0 0)] 1 [(0, (.tmp 26))]⟩,
    ⟨(some 28), none, .act, .build [(.int .i64 0), (.string ⟨#[]⟩), (.string ⟨#[]⟩), (.int .i64 0), (.int .i64 0), (.int .i64 0), (.string ⟨#[]⟩), (.slice none 0 0)] [(0, 1, (.const (.int .i64 4))), (7, 1, (.tmp 27))]⟩,
    ⟨none, none, .act, .store 8 (.tmp 2) (.tmp 28)⟩])
  .ret)))))))
theorem res59 : ∃ c, Try.f59.body = some c ∧ resCode Try.prog 29 c = some r59 := ⟨_, rfl, by kernel_rfl⟩
theorem rr59 : resRes Try.prog Try.f59.results.toList = some [.cell 2 true 8] := by kernel_rfl
theorem minus_does (hT : T.length ≤ 400) {n : Nat} (ih : Does T fin n) (st : PS) (hi : st.i ≤ T.length) (hd : st.d ≤ 20) (hr : 16 * (T.length - st.i) + hgt .minus ≤ n + 1) :
    PC T fin 59 [] st (.ag (ev T fin (n + 1) .minus st).1.cells) (ev T fin (n + 1) .minus st).2 := by
  intro p h ⟨hg, hp⟩
  obtain ⟨c', hc1, hc2⟩ := res59
  refine ACalls.weak (ACalls.enter Try.func59 hc1 Try.ntmps59 hc2 (Nat.le_of_ble_eq_true rfl) rfl ?_)
  have cat := at_spec (T := T) (fin := fin) st
  rw [ev, bs_minus]
  simp only
  generalize atP T fin st = a at cat ⊢
  rcases take_cases (fin := fin) hT st [45] with ⟨e, hlt, ct⟩ | ⟨e, ct⟩
  · rw [e]
    clear e
    simp only
    have hd' : st.next.d ≤ 20 := hd
    rcases enter_cases (T := T) (fin := fin) st.next hd' a with ⟨e, hd2, ce⟩ | ⟨e, ce⟩
    · rw [e]
      clear e
      simp only
      have hfl := Pa.ev_flat (l := T) (fin := fin) n .minus { st.next with d := st.next.d + 1 }
      obtain ⟨op, t, nm, m, vk, vn, vs, ars, s1, e1, c1⟩ := PC.ex (ih .minus { st.next with d := st.next.d + 1 } trivial (show st.i + 1 ≤ T.length by omega) hd2 (by show 16 * (T.length - (st.i + 1)) + 2 ≤ n; simp [hgt] at hr; omega))
      rw [e1] at hfl ⊢
      clear e1
      have hfl' : s1.d = st.d + 1 := hfl
      simp only [fid, fargs] at c1
      repeat' (first | refine S.nilK ?_ | (refine S.op rfl ?_; first | (show ROpS _ _ (.call 21 _) _ _ _; refine callPC0 rfl rfl cat (by repeat' (first | assumption | refine Glob.setF ?_ (by (repeat' (first | assumption)); first | done | fail))) (by (repeat' (first | assumption | refine AHeap.get_fresh ‹_› ?_)); first | done | fail) ?_) | (show ROpS _ _ (.call 30 _) _ _ _; refine callPC rfl rfl ct (by repeat' (first | assumption | refine Glob.setF ?_ (by (repeat' (first | assumption)); first | done | fail))) (by (repeat' (first | assumption | refine AHeap.get_fresh ‹_› ?_)); first | done | fail) (by repeat' (first | (apply AHeap.upd1; · exact (by first | exact AHeap.n4 ‹_› ‹_›)) | exact rfl)) ?_) | (show ROpS _ _ (.call 71 _) _ _ _; refine callPC rfl rfl ce (by repeat' (first | assumption | refine Glob.setF ?_ (by (repeat' (first | assumption | refine AHeap.so ?_ ?_ | exact AHeap.n4 ‹_› ‹_›)); first | done | fail) | refine Glob.setP ?_ (by (repeat' (first | assumption)); first | done | fail))) (by (repeat' (first | exact AHeap.set_same _ _ _ | refine AHeap.so ?_ ?_ | exact AHeap.ne_of ‹_› ‹_›)); first | done | fail) (by repeat' (first | exact AHeap.set_set _ _ _ _ | (apply AHeap.upd1; · exact (by first | exact AHeap.n4 ‹_› ‹_›)))) ?_) | (show ROpS _ _ (.call 59 _) _ _ _; refine callPC rfl rfl c1 (by repeat' (first | assumption | refine Glob.setF ?_ (by (repeat' (first | assumption | refine AHeap.so ?_ ?_ | exact AHeap.n4 ‹_› ‹_›)); first | done | fail) | refine Glob.setP ?_ (by (repeat' (first | assumption)); first | done | fail))) (by (repeat' (first | exact AHeap.set_same _ _ _ | refine AHeap.so ?_ ?_ | exact AHeap.ne_of ‹_› ‹_›)); first | done | fail) (by repeat' (first | exact AHeap.set_set _ _ _ _ | (apply AHeap.upd1; · exact (by first | exact AHeap.n4 ‹_› ‹_›)))) ?_) | refine R.mv rfl ?_ | refine R.fieldAddr rfl ?_ | refine R.nilCheck rfl ?_ | refine R.load (by decide) rfl (by (repeat' (first | exact AHeap.set_same _ _ _ | refine AHeap.get_fresh ‹_› ?_ | refine AHeap.so ?_ ?_ | exact AHeap.ne_of ‹_› ‹_›)); first | done | fail) rfl ?_ | refine S.subI rfl rfl (by omega) ?_ | refine R.not rfl ?_ | refine R.alloc rfl (fun b hb => ?_) | refine R.build rfl rfl ?_ | refine R.buildSl rfl rfl rfl (by decide) ?_) | (refine S.op0 rfl ?_; first | refine S.storeN rfl rfl (by (repeat' (first | exact AHeap.set_same _ _ _ | refine AHeap.get_fresh ‹_› ?_ | refine AHeap.so ?_ ?_ | exact AHeap.n2 ‹_› | exact AHeap.ne_of ‹_› ‹_›)); first | done | fail) rfl rfl rfl (by rfl) rfl (by repeat' (first | exact AHeap.set_set _ _ _ _ | (apply AHeap.upd1; · exact (by first | exact AHeap.n1 ‹_› | exact AHeap.n4 ‹_› ‹_› | exact AHeap.n5 ‹_›)))) ?_) | refine S.seq ?_ | refine S.region ?_ | refine S.condF rfl ?_ | refine RRun.skip ?_)
      apply S.ret rr59
      case hx => repeat (first | exact ResAt.nil | apply ResAt.cellA rfl (by (repeat' (first | exact AHeap.set_same _ _ _ | refine AHeap.so ?_ ?_ | exact AHeap.n2 ‹_›)); first | done | fail) (by rfl))
      refine ⟨_, h.set p (.box (pst T fin s1.leave)), ex_le ex1_le, ?_, rfl, rfl⟩
      rw [pst_leave hfl']
      exact (by repeat (first | exact AHeap.le.refl _ | refine AHeap.le.set ?_ _ (by (repeat' (first | assumption | exact AHeap.z2 ‹_› | refine AHeap.so ?_ ?_ | exact AHeap.n4 ‹_› ‹_› | exact AHeap.n5 ‹_›)); first | done | fail)))
    · rw [e]
      clear e
      simp only
      repeat' (first | refine S.nilK ?_ | (refine S.op rfl ?_; first | (show ROpS _ _ (.call 21 _) _ _ _; refine callPC0 rfl rfl cat (by repeat' (first | assumption | refine Glob.setF ?_ (by (repeat' (first | assumption)); first | done | fail))) (by (repeat' (first | assumption | refine AHeap.get_fresh ‹_› ?_)); first | done | fail) ?_) | (show ROpS _ _ (.call 30 _) _ _ _; refine callPC rfl rfl ct (by repeat' (first | assumption | refine Glob.setF ?_ (by (repeat' (first | assumption)); first | done | fail))) (by (repeat' (first | assumption | refine AHeap.get_fresh ‹_› ?_)); first | done | fail) (by repeat' (first | (apply AHeap.upd1; · exact (by first | exact AHeap.n4 ‹_› ‹_›)) | exact rfl)) ?_) | (show ROpS _ _ (.call 71 _) _ _ _; refine callPC rfl rfl ce (by repeat' (first | assumption | refine Glob.setF ?_ (by (repeat' (first | assumption | refine AHeap.so ?_ ?_ | exact AHeap.n4 ‹_› ‹_›)); first | done | fail) | refine Glob.setP ?_ (by (repeat' (first | assumption)); first | done | fail))) (by (repeat' (first | exact AHeap.set_same _ _ _ | refine AHeap.so ?_ ?_ | exact AHeap.ne_of ‹_› ‹_›)); first | done | fail) (by repeat' (first | exact AHeap.set_set _ _ _ _ | (apply AHeap.upd1; · exact (by first | exact AHeap.n4 ‹_› ‹_›)))) ?_) | refine R.mv rfl ?_ | refine R.not rfl ?_ | refine R.alloc rfl (fun b hb => ?_) | refine R.build rfl rfl ?_) | (refine S.op0 rfl ?_; first | refine S.storeN rfl rfl (by (repeat' (first | exact AHeap.set_same _ _ _)); first | done | fail) rfl rfl rfl (by rfl) rfl (by repeat' (first | exact AHeap.set_set _ _ _ _)) ?_) | refine S.seq ?_ | refine S.region ?_ | refine S.condT rfl ?_ | refine S.condF rfl ?_ | refine RRun.skip ?_)
      apply S.ret rr59
      case hx => repeat (first | exact ResAt.nil | apply ResAt.cellA rfl (by (repeat' (first | exact AHeap.set_same _ _ _)); first | done | fail) (by rfl))
      exact ⟨_, h.set p (.box (pst T fin (st.next.fail a 201))), ex_le nil_le, (by repeat (first | exact AHeap.le.refl _ | refine AHeap.le.set ?_ _ (by (repeat' (first | assumption | refine AHeap.so ?_ ?_ | exact AHeap.n4 ‹_› ‹_›)); first | done | fail))), rfl, rfl⟩
  · rw [e]
    clear e
    simp only
    obtain ⟨op, t, nm, m, vk, vn, vs, ars, s1, e1, c1⟩ := PC.ex (ih .primary st trivial hi hd (by simp [hgt] at hr ⊢; omega))
    rw [e1]
    clear e1
    simp only [fid, fargs] at c1
    repeat' (first | refine S.nilK ?_ | (refine S.op rfl ?_; first | (show ROpS _ _ (.call 21 _) _ _ _; refine callPC0 rfl rfl cat (by repeat' (first | assumption | refine Glob.setF ?_ (by (repeat' (first | assumption)); first | done | fail))) (by (repeat' (first | assumption | refine AHeap.get_fresh ‹_› ?_)); first | done | fail) ?_) | (show ROpS _ _ (.call 30 _) _ _ _; refine callPC0 rfl rfl ct (by repeat' (first | assumption | refine Glob.setF ?_ (by (repeat' (first | assumption)); first | done | fail))) (by (repeat' (first | assumption | refine AHeap.get_fresh ‹_› ?_)); first | done | fail) ?_) | (show ROpS _ _ (.call 72 _) _ _ _; refine callPC rfl rfl c1 (by repeat' (first | assumption | refine Glob.setF ?_ (by (repeat' (first | assumption)); first | done | fail))) (by (repeat' (first | assumption | refine AHeap.get_fresh ‹_› ?_)); first | done | fail) (by repeat' (first | (apply AHeap.upd1; · exact (by first | exact AHeap.n4 ‹_› ‹_›)) | exact rfl)) ?_) | refine R.mv rfl ?_ | refine R.not rfl ?_ | refine R.alloc rfl (fun b hb => ?_)) | (refine S.op0 rfl ?_; first | refine S.storeN rfl rfl (by (repeat' (first | exact AHeap.set_same _ _ _)); first | done | fail) rfl rfl rfl (by rfl) rfl (by repeat' (first | exact AHeap.set_set _ _ _ _)) ?_) | refine S.seq ?_ | refine S.region ?_ | refine S.condT rfl ?_)
    apply S.ret rr59
    case hx => repeat (first | exact ResAt.nil | apply ResAt.cellA rfl (by (repeat' (first | exact AHeap.set_same _ _ _)); first | done | fail) (by rfl))
    exact ⟨_, h.set p (.box (pst T fin s1)), ex_le (.refl _), (by repeat (first | exact AHeap.le.refl _ | refine AHeap.le.set ?_ _ (by (repeat' (first | assumption | refine AHeap.so ?_ ?_ | exact AHeap.n4 ‹_› ‹_›)); first | done | fail))), rfl, rfl⟩
def r80 : RCode :=
  (.seq (.region [
    ⟨(some 4), none, .act, .alloc [(.int .i64 0), (.string ⟨#[]⟩), (.string ⟨#[]⟩), (.int .i64 0), (.int .i64 0), (.int .i64 0), (.string ⟨#[]⟩), (.slice none 0 0)]⟩])
  (.seq (.seq (.region [
    ⟨(some 6), none, .act, .mv (.tmp 0)⟩,
    ⟨(some 7), none, .act, .mv (.tmp 1)⟩,
    ⟨(some 8), none, .act, .call 71 [(.tmp 6), (.tmp 7)]⟩,
    ⟨(some 9), none, .act, .un .not (.tmp 8)⟩])
  (.cond (.tmp 9)
   (.seq (.region [
     ⟨(some 10), none, .act, .build [(.int .i64 0), (.string ⟨#[]⟩), (.string ⟨#[]⟩), (.int .i64 0), (.int .i64 0), (.int .i64 0), (.string ⟨#[]⟩), (.slice none 0 0)] []⟩,
     ⟨none, none, .act, .store 8 (.tmp 4) (.tmp 10)⟩])
   .ret)
   .skip))
  (.seq (.region [
    ⟨(some 11), none, .act, .mv (.tmp 0)⟩,
    ⟨(some 12), none, .act, .call 12 [(.tmp 11)]⟩,
    ⟨(some 5), none, .act, .alloc [(.int .i64 0), (.string ⟨#[]⟩), (.string ⟨#[]⟩), (.int .i64 0), (.int .i64 0), (.int .i64 0), (.string ⟨#[]⟩), (.slice none 0 0)]⟩,
    ⟨none, none, .act, .store 8 (.tmp 5) (.tmp 12)⟩])
  (.seq (.region [
    ⟨(some 13), none, .act, .mv (.tmp 0)⟩,
    ⟨(some 14), none, .act, .nilCheck (.tmp 13)⟩,
    ⟨(some 15), none, .act, .fieldAddr 5 (.tmp 14)⟩,
    ⟨(some 16), none, .act, .load false 1 (.tmp 15)⟩,
    ⟨(some 17), none, .act, .bin .sub (.tmp 16) (.const (.int .i64 1))⟩,
    ⟨(some 18), none, .act, .nilCheck (.tmp 13)⟩,
    ⟨(some 19), none, .act, .fieldAddr 5 (.tmp 18)⟩,
    ⟨none, none, .act, .store 1 (.tmp 19) (.tmp 17)⟩])
  (.seq (.region [
    ⟨(some 20), none, .act, .load true 8 (.tmp 5)⟩,
    ⟨none, none, .act, .store 8 (.tmp 4) (.tmp 20)⟩])
  .ret)))))
theorem res80 : ∃ c, Try.f80.body = some c ∧ resCode Try.prog 21 c = some r80 := ⟨_, rfl, by kernel_rfl⟩
theorem rr80 : resRes Try.prog Try.f80.results.toList = some [.cell 4 true 8] := by kernel_rfl
theorem inner_does {n : Nat} (ih : Does T fin n) (hx : ∀ st, st.i ≤ T.length → st.d ≤ 20 → 16 * (T.length - st.i) + 12 ≤ n → PC T fin 12 [] st (.ag (ev T fin n (.left 0) st).1.cells) (ev T fin n (.left 0) st).2)
    (a : Int) (st : PS) (hi : st.i ≤ T.length) (hd : st.d ≤ 20) (hr : 16 * (T.length - st.i) + hgt (.inner a) ≤ n + 1) :
    PC T fin 80 [i64 a] st (.ag (ev T fin (n + 1) (.inner a) st).1.cells) (ev T fin (n + 1) (.inner a) st).2 := by
  intro p h ⟨hg, hp⟩
  obtain ⟨c', hc1, hc2⟩ := res80
  refine ACalls.weak (ACalls.enter Try.func80 hc1 Try.ntmps80 hc2 (Nat.le_of_ble_eq_true rfl) rfl ?_)
  rw [ev]
  rcases enter_cases (T := T) (fin := fin) st hd a with ⟨e, hd2, ce⟩ | ⟨e, ce⟩
  · rw [e]
    clear e
    simp only
    have hfl := Pa.ev_flat (l := T) (fin := fin) n (.left 0) { st with d := st.d + 1 }
    obtain ⟨op, t, nm, m, vk, vn, vs, ars, s1, e1, c1⟩ := PC.ex (hx { st with d := st.d + 1 } hi hd2 (by show 16 * (T.length - st.i) + 12 ≤ n; simp [hgt] at hr; omega))
    rw [e1] at hfl ⊢
    clear e1
    have hfl' : s1.d = st.d + 1 := hfl
    repeat' (first | refine S.nilK ?_ | (refine S.op rfl ?_; first | (show ROpS _ _ (.call 71 _) _ _ _; refine callPC rfl rfl ce (by repeat' (first | assumption | refine Glob.setF ?_ (by (repeat' (first | assumption)); first | done | fail))) (by (repeat' (first | assumption | refine AHeap.get_fresh ‹_› ?_)); first | done | fail) (by repeat' (first | (apply AHeap.upd1; · exact (by first | exact AHeap.n4 ‹_› ‹_›)) | exact rfl)) ?_) | (show ROpS _ _ (.call 12 _) _ _ _; refine callPC rfl rfl c1 (by repeat' (first | assumption | refine Glob.setF ?_ (by (repeat' (first | assumption | refine AHeap.so ?_ ?_ | exact AHeap.n4 ‹_› ‹_›)); first | done | fail) | refine Glob.setP ?_ (by (repeat' (first | assumption)); first | done | fail))) (by (repeat' (first | exact AHeap.set_same _ _ _ | refine AHeap.so ?_ ?_ | exact AHeap.ne_of ‹_› ‹_›)); first | done | fail) (by repeat' (first | exact AHeap.set_set _ _ _ _ | (apply AHeap.upd1; · exact (by first | exact AHeap.n4 ‹_› ‹_›)))) ?_) | refine R.mv rfl ?_ | refine R.fieldAddr rfl ?_ | refine R.nilCheck rfl ?_ | refine R.load (by decide) rfl (by (repeat' (first | exact AHeap.set_same _ _ _ | refine AHeap.get_fresh ‹_› ?_ | refine AHeap.so ?_ ?_ | exact AHeap.ne_of ‹_› ‹_›)); first | done | fail) rfl ?_ | refine S.subI rfl rfl (by omega) ?_ | refine R.not rfl ?_ | refine R.alloc rfl (fun b hb => ?_)) | (refine S.op0 rfl ?_; first | refine S.storeN rfl rfl (by (repeat' (first | exact AHeap.set_same _ _ _ | refine AHeap.get_fresh ‹_› ?_ | refine AHeap.so ?_ ?_ | exact AHeap.n2 ‹_› | exact AHeap.ne_of ‹_› ‹_›)); first | done | fail) rfl rfl rfl (by rfl) rfl (by repeat' (first | exact AHeap.set_set _ _ _ _ | (apply AHeap.upd1; · exact (by first | exact AHeap.n1 ‹_› | exact AHeap.n4 ‹_› ‹_› | exact AHeap.n5 ‹_›)))) ?_) | refine S.seq ?_ | refine S.region ?_ | refine S.condF rfl ?_ | refine RRun.skip ?_)
    apply S.ret rr80
    case hx => repeat (first | exact ResAt.nil | apply ResAt.cellA rfl (by (repeat' (first | exact AHeap.set_same _ _ _ | refine AHeap.so ?_ ?_ | exact AHeap.n2 ‹_›)); first | done | fail) (by rfl))
    refine ⟨_, h.set p (.box (pst T fin s1.leave)), ex_le (.refl _), ?_, rfl, rfl⟩
    rw [pst_leave hfl']
    exact (by repeat (first | exact AHeap.le.refl _ | refine AHeap.le.set ?_ _ (by (repeat' (first | assumption | exact AHeap.z2 ‹_› | refine AHeap.so ?_ ?_ | exact AHeap.n4 ‹_› ‹_› | exact AHeap.n5 ‹_›)); first | done | fail)))
  · rw [e]
    clear e
    simp only
    repeat' (first | refine S.nilK ?_ | (refine S.op rfl ?_; first | (show ROpS _ _ (.call 71 _) _ _ _; refine callPC rfl rfl ce (by repeat' (first | assumption | refine Glob.setF ?_ (by (repeat' (first | assumption)); first | done | fail))) (by (repeat' (first | assumption | refine AHeap.get_fresh ‹_› ?_)); first | done | fail) (by repeat' (first | (apply AHeap.upd1; · exact (by first | exact AHeap.n4 ‹_› ‹_›)) | exact rfl)) ?_) | refine R.mv rfl ?_ | refine R.not rfl ?_ | refine R.alloc rfl (fun b hb => ?_) | refine R.build rfl rfl ?_) | (refine S.op0 rfl ?_; first | refine S.storeN rfl rfl (by (repeat' (first | exact AHeap.set_same _ _ _)); first | done | fail) rfl rfl rfl (by rfl) rfl (by repeat' (first | exact AHeap.set_set _ _ _ _)) ?_) | refine S.seq ?_ | refine S.region ?_ | refine S.condT rfl ?_)
    apply S.ret rr80
    case hx => repeat (first | exact ResAt.nil | apply ResAt.cellA rfl (by (repeat' (first | exact AHeap.set_same _ _ _)); first | done | fail) (by rfl))
    exact ⟨_, h.set p (.box (pst T fin (st.fail a 201))), ex_le nil_le, (by repeat (first | exact AHeap.le.refl _ | refine AHeap.le.set ?_ _ (by (repeat' (first | assumption | refine AHeap.so ?_ ?_ | exact AHeap.n4 ‹_› ‹_›)); first | done | fail))), rfl, rfl⟩
def r12 : RCode :=
  (.seq (.region [
    ⟨(some 2), none, .act, .alloc [(.int .i64 0), (.string ⟨#[]⟩), (.string ⟨#[]⟩), (.int .i64 0), (.int .i64 0), (.int .i64 0), (.string ⟨#[]⟩), (.slice none 0 0)]⟩])
  (.seq (.region [
    ⟨(some 3), none, .act, .mv (.tmp 0)⟩,
    ⟨(some 4), none, .act, .call 19 [(.tmp 3), (.const (.int .i64 0))]⟩,
    ⟨none, none, .act, .store 8 (.tmp 2) (.tmp 4)⟩])
  .ret))
theorem res12 : ∃ c, Try.f12.body = some c ∧ resCode Try.prog 5 c = some r12 := ⟨_, rfl, by kernel_rfl⟩
theorem rr12 : resRes Try.prog Try.f12.results.toList = some [.cell 2 true 8] := by kernel_rfl
theorem expr12 {n : Nat} {st : PS} (c : PC T fin 19 [i64 0] st (.ag (ev T fin n (.left 0) st).1.cells) (ev T fin n (.left 0) st).2) : PC T fin 12 [] st (.ag (ev T fin n (.left 0) st).1.cells) (ev T fin n (.left 0) st).2 := by
  intro p h ⟨hg, hp⟩
  obtain ⟨c', hc1, hc2⟩ := res12
  refine ACalls.weak (ACalls.enter Try.func12 hc1 Try.ntmps12 hc2 (Nat.le_of_ble_eq_true rfl) rfl ?_)
  obtain ⟨op, t, nm, m, vk, vn, vs, ars, s1, e1, c1⟩ := PC.ex c
  rw [e1]
  clear e1
  repeat' (first | refine S.nilK ?_ | (refine S.op rfl ?_; first | (show ROpS _ _ (.call 19 _) _ _ _; refine callPC rfl rfl c1 (by repeat' (first | assumption | refine Glob.setF ?_ (by (repeat' (first | assumption)); first | done | fail))) (by (repeat' (first | assumption | refine AHeap.get_fresh ‹_› ?_)); first | done | fail) (by repeat' (first | (apply AHeap.upd1; · exact (by first | exact AHeap.n4 ‹_› ‹_›)) | exact rfl)) ?_) | refine R.mv rfl ?_ | refine R.alloc rfl (fun b hb => ?_)) | (refine S.op0 rfl ?_; first | refine S.storeN rfl rfl (by (repeat' (first | exact AHeap.set_same _ _ _)); first | done | fail) rfl rfl rfl (by rfl) rfl (by repeat' (first | exact AHeap.set_set _ _ _ _)) ?_) | refine S.seq ?_ | refine S.region ?_)
  apply S.ret rr12
  case hx => repeat (first | exact ResAt.nil | apply ResAt.cellA rfl (by (repeat' (first | exact AHeap.set_same _ _ _)); first | done | fail) (by rfl))
  exact ⟨_, h.set p (.box (pst T fin s1)), ex_le (.refl _), (by repeat (first | exact AHeap.le.refl _ | refine AHeap.le.set ?_ _ (by (repeat' (first | assumption | refine AHeap.so ?_ ?_ | exact AHeap.n4 ‹_› ‹_›)); first | done | fail))), rfl, rfl⟩
end
end Go.Proofs.Ytdinnoejipmiiaa

namespace Go.Proofs.Ytdinnoejipmiiaa
open Go.Av
open Go.Av.Pa (PS atP isP wrongP takeP needP kindP nameP opsP operatorP enterP ev)
section
variable {T : List Tok} {fin : Int}
abbrev exA (op : Int) (t nm : List UInt8) (n vk vn : Int) (vs : List UInt8) (a : AV) : List AV := [i64 op, str t, str nm, i64 n, i64 vk, i64 vn, str vs, a]
abbrev exs (l : List Pa.Ex) : AV := .sl 8 (l.map Pa.Ex.cells) .ro
theorem exA_le {op n vk vn : Int} {t nm vs : List UInt8} {a a' : AV} (ha : ALe a a') : ALes (exA op t nm n vk vn vs a) (exA op t nm n vk vn vs a') :=
  .cons (.refl _) (.cons (.refl _) (.cons (.refl _) (.cons (.refl _) (.cons (.refl _) (.cons (.refl _) (.cons (.refl _) (.cons ha .nil)))))))
theorem exA_ex {op n vk vn : Int} {t nm vs : List UInt8} {args : List Pa.Ex} {a : AV} (ha : ALe a (exs args)) : ALes (exA op t nm n vk vn vs a) (Pa.Ex.mk op t nm n ⟨vk, vn, vs⟩ args).cells := by
  rw [Pa.Ex.cells_mk]; exact exA_le ha
theorem exs_le {l : List Pa.Ex} {es : List (List AV)} {c : Cap} (hf : ALes es.flatten (l.map Pa.Ex.cells).flatten) (hl : es.length = l.length) : ALe (.sl 8 es c) (exs l) :=
  (ALe.toRo _ _ _).trans (ALe.sl hf (by simpa using hl) fun e he => by
    obtain ⟨x, _, rfl⟩ := List.mem_map.1 he
    exact x.cells_len)
theorem ales_app : ∀ {xs ys xs' ys' : List AV}, ALes xs ys → ALes xs' ys' → ALes (xs ++ xs') (ys ++ ys')
  | _, _, _, _, .nil, h => h
  | _, _, _, _, .cons e g, h => .cons e (ales_app g h)
theorem exs1_le {e : Pa.Ex} {x : List AV} {c : Cap} (h : ALes x e.cells) : ALe (.sl 8 [x] c) (exs [e]) :=
  exs_le (by simpa using h) rfl
theorem exs2_le {e f : Pa.Ex} {x y : List AV} {c : Cap} (h : ALes x e.cells) (h' : ALes y f.cells) : ALe (.sl 8 [x, y] c) (exs [e, f]) :=
  exs_le (by simpa using ales_app h h') rfl
theorem ev_facts {n : Nat} {fn : Pa.Fn} {st : PS} (hi : st.i ≤ T.length) {e : Pa.Ex} {s : PS} (h : ev T fin n fn st = (e, s)) : st.i ≤ s.i ∧ s.i ≤ T.length ∧ s.d = st.d := by
  have h1 := Pa.ev_up (l := T) (fin := fin) n fn st hi
  have h2 := Pa.ev_flat (l := T) (fin := fin) n fn st
  rw [h] at h1 h2
  exact ⟨h1.1, h1.2, h2⟩
theorem operator_facts {st : PS} (hi : st.i ≤ T.length) {lv : Nat} {op : Int} {s : PS} (h : operatorP T st lv = (op, s)) : st.i ≤ s.i ∧ s.i ≤ T.length ∧ s.d = st.d := by
  have h1 := Pa.operator_up (l := T) st lv hi
  have h2 := Pa.operator_flat (l := T) st lv
  rw [h] at h1 h2
  exact ⟨h1.1, h1.2, h2⟩
theorem ops_more {st : PS} {op : Int} {s : PS} : ∀ {r : List (List UInt8 × Int)}, opsP T st r = (op, s) → op ≠ 0 → s.i = st.i + 1
  | [], h, h0 => by cases h; exact absurd rfl h0
  | x :: r, h, h0 => by
    rw [opsP] at h
    split at h
    · cases h; rfl
    · exact ops_more h h0
def md70 : Nat → Bool := fun id => [4].contains id
def r70 : RCode :=
  (.seq (.region [
    ⟨(some 2), none, .act, .alloc [(.int .i64 0), (.string ⟨#[]⟩), (.string ⟨#[]⟩), (.int .i64 0), (.int .i64 0), (.int .i64 0), (.string ⟨#[]⟩), (.slice none 0 0)]⟩])
  (.seq (.region [
    ⟨(some 6), none, .act, .mv (.tmp 0)⟩,
    ⟨(some 7), none, .act, .call 19 [(.tmp 6), (.const (.int .i64 3))]⟩,
    ⟨(some 3), none, .act, .alloc [(.int .i64 0), (.string ⟨#[]⟩), (.string ⟨#[]⟩), (.int .i64 0), (.int .i64 0), (.int .i64 0), (.string ⟨#[]⟩), (.slice none 0 0)]⟩,
    ⟨none, none, .act, .store 8 (.tmp 3) (.tmp 7)⟩])
  (.seq (.seq (.region [
    ⟨(some 8), none, .act, .mv (.tmp 0)⟩,
    ⟨(some 9), none, .act, .call 41 [(.tmp 8), (.const (.int .i64 2))]⟩,
    ⟨(some 4), none, .act, .mv (.tmp 9)⟩])
  (.seq (.region [
    ⟨(some 10), none, .act, .mv (.tmp 4)⟩,
    ⟨(some 11), none, .act, .eq true .int (.tmp 10) (.const (.int .i64 0))⟩])
  (.cond (.tmp 11)
   (.seq (.regionT (.step ⟨(some 12), none, .pure, .mv (.tmp 4)⟩ (.step ⟨(some 14), none, .pure, .mv (.tmp 0)⟩ (.alt ⟨(some 13), none, .read, .load true 8 (.tmp 3)⟩ (.alt ⟨(some 15), none, .act, .call 19 [(.tmp 14), (.const (.int .i64 3))]⟩ (.step ⟨(some 16), none, .pure, .buildSl 8 [(.int .i64 0), (.string ⟨#[]⟩), (.string ⟨#[]⟩), (.int .i64 0), (.int .i64 0), (.int .i64 0), (.string ⟨#[]⟩), (.slice none 0 0)] 2 [(0, (.tmp 13)), (1, (.tmp 15))]⟩ (.step ⟨(some 17), none, .pure, .build [(.int .i64 0), (.string ⟨#[]⟩), (.string ⟨#[]⟩), (.int .i64 0), (.int .i64 0), (.int .i64 0), (.string ⟨#[]⟩), (.slice none 0 0)] [(0, 1, (.tmp 12)), (7, 1, (.tmp 16))]⟩ (.alt ⟨none, none, .act, .store 8 (.tmp 2) (.tmp 17)⟩ .done
    .stop)))
    .stop)
    (.alt ⟨(some 15), none, .act, .call 19 [(.tmp 14), (.const (.int .i64 3))]⟩ (.step ⟨(some 13), none, .read, .load true 8 (.tmp 3)⟩ (.step ⟨(some 16), none, .pure, .buildSl 8 [(.int .i64 0), (.string ⟨#[]⟩), (.string ⟨#[]⟩), (.int .i64 0), (.int .i64 0), (.int .i64 0), (.string ⟨#[]⟩), (.slice none 0 0)] 2 [(0, (.tmp 13)), (1, (.tmp 15))]⟩ (.step ⟨(some 17), none, .pure, .build [(.int .i64 0), (.string ⟨#[]⟩), (.string ⟨#[]⟩), (.int .i64 0), (.int .i64 0), (.int .i64 0), (.string ⟨#[]⟩), (.slice none 0 0)] [(0, 1, (.tmp 12)), (7, 1, (.tmp 16))]⟩ (.alt ⟨none, none, .act, .store 8 (.tmp 2) (.tmp 17)⟩ .done
    .stop))))
    .stop)))))
   .ret)
   .skip)))
  (.seq (.seq (.region [
    ⟨(some 18), none, .act, .mv (.tmp 0)⟩,
    ⟨(some 19), none, .act, .call 30 [(.tmp 18), (.const (.string ⟨#[105, 115]⟩))]⟩,
    ⟨(some 20), none, .act, .un .not (.tmp 19)⟩])
  (.cond (.tmp 20)
   (.seq (.region [
     ⟨(some 21), none, .act, .load true 8 (.tmp 3)⟩,
     ⟨none, none, .act, .store 8 (.tmp 2) (.tmp 21)⟩])
   .ret)
   .skip))
  (.seq (.region [
    ⟨(some 22), none, .act, .mv (.tmp 0)⟩,
    ⟨(some 23), none, .act, .call 30 [(.tmp 22), (.const (.string ⟨#[110, 111, 116]⟩))]⟩,
    ⟨(some 5), none, .act, .mv (.tmp 23)⟩])
  (.seq (.region [
    ⟨(some 24), none, .act, .mv (.tmp 0)⟩,
    ⟨(some 25), none, .act, .buildSl 1 [(.string ⟨#[]⟩)] 1 [(0, (.const (.string ⟨#[110, 117, 108, 108]⟩)))]⟩,
    ⟨(some 26), none, .act, .call 34 [(.tmp 24), (.tmp 25)]⟩])
  (.seq (.region [
    ⟨(some 27), none, .act, .load true 8 (.tmp 3)⟩,
    ⟨(some 28), none, .act, .buildSl 8 [(.int .i64 0), (.string ⟨#[]⟩), (.string ⟨#[]⟩), (.int .i64 0), (.int .i64 0), (.int .i64 0), (.string ⟨#[]⟩), (.slice none 0 0)] 1 [(0, (.tmp 27))]⟩,
    ⟨(some 29), none, .act, .build [(.int .i64 0), (.string ⟨#[]⟩), (.string ⟨#[]⟩), (.int .i64 0), (.int .i64 0), (.int .i64 0), (.string ⟨#[]⟩), (.slice none 0 0)] [(0, 1, (.const (.int .i64 19))), (7, 1, (.tmp 28))]⟩,
    ⟨none, none, .act, .store 8 (.tmp 3) (.tmp 29)⟩])
  (.seq (.seq (.region [
    ⟨(some 30), none, .act, .mv (.tmp 5)⟩])
  (.cond (.tmp 30)
   (.region [
     ⟨(some 31), none, .act, .load true 8 (.tmp 3)⟩,
     ⟨(some 32), none, .act, .buildSl 8 [(.int .i64 0), (.string ⟨#[]⟩), (.string ⟨#[]⟩), (.int .i64 0), (.int .i64 0), (.int .i64 0), (.string ⟨#[]⟩), (.slice none 0 0)] 1 [(0, (.tmp 31))]⟩,
     ⟨(some 33), none, .act, .build [(.int .i64 0), (.string ⟨#[]⟩), (.string ⟨#[]⟩), (.int .i64 0), (.int .i64 0), (.int .i64 0), (.string ⟨#[]⟩), (.slice none 0 0)] [(0, 1, (.const (.int .i64 16))), (7, 1, (.tmp 32))]⟩,
     ⟨none, none, .act, .store 8 (.tmp 3) (.tmp 33)⟩])
   .skip))
  (.seq (.region [
    ⟨(some 34), none, .act, .load true 8 (.tmp 3)⟩,
    ⟨none, none, .act, .store 8 (.tmp 2) (.tmp 34)⟩])
  .ret)))))))))
theorem res70 : ∃ c, Try.f70.body = some c ∧ resCodeM Try.prog 35 md70 c = some r70 := ⟨_, rfl, by kernel_rfl⟩
theorem rr70 : resRes Try.prog Try.f70.results.toList = some [.cell 2 true 8] := by kernel_rfl
theorem compare_does (hT : T.length ≤ 400) {n : Nat} (ih : Does T fin n) (st : PS) (hi : st.i ≤ T.length) (hd : st.d ≤ 20) (hr : 16 * (T.length - st.i) + hgt .compare ≤ n + 1) :
    PC T fin 70 [] st (.ag (ev T fin (n + 1) .compare st).1.cells) (ev T fin (n + 1) .compare st).2 := by
  intro p h ⟨hg, hp⟩
  obtain ⟨c', hc1, hc2⟩ := res70
  refine ACalls.weak (ACalls.enter Try.func70 hc1 Try.ntmps70 hc2 (Nat.le_of_ble_eq_true rfl) rfl ?_)
  have hr' : 16 * (T.length - st.i) + 7 ≤ n + 1 := hr
  rw [ev, bs_is, bs_not, bs_null]
  obtain ⟨op1, t1, nm1, m1, vk1, vn1, vs1, ar1, s1, e1, c1⟩ := PC.ex (ih (.left 3) st (.inr (.inr (.inl rfl))) hi hd (by simp [hgt]; omega))
  obtain ⟨f1, f2, f3⟩ := ev_facts hi e1
  rw [e1]
  clear e1
  simp only [fid, fargs] at c1 ⊢
  have co := operator_spec (T := T) (fin := fin) hT 2 (by decide) s1
  cases ho : operatorP T s1 2 with
  | mk op s2 =>
  obtain ⟨g1, g2, g3⟩ := operator_facts f2 ho
  rw [ho] at co
  clear ho
  simp only at co ⊢
  by_cases h0 : op = 0
  · subst h0
    simp only [ne_eq, not_true_eq_false, if_false]
    rcases take_cases (fin := fin) hT s2 [105, 115] with ⟨e, hlt, ct⟩ | ⟨e, ct⟩
    · rw [e]
      clear e
      simp only
      rcases take_cases (fin := fin) hT s2.next [110, 111, 116] with ⟨e, hlt2, cn⟩ | ⟨e, cn⟩
      · rw [e]
        clear e
        have cd := need_spec (T := T) (fin := fin) hT [[110, 117, 108, 108]] (by decide) .full s2.next.next
        simp only [if_true]
        repeat' (first | refine S.nilK ?_ | (refine S.op rfl ?_; first | (show ROpS _ _ (.call 19 _) _ _ _; refine callPC rfl rfl c1 (by repeat' (first | assumption | refine Glob.setF ?_ (by (repeat' (first | assumption)); first | done | fail))) (by (repeat' (first | assumption | refine AHeap.get_fresh ‹_› ?_)); first | done | fail) (by repeat' (first | (apply AHeap.upd1; · exact (by first | exact AHeap.n4 ‹_› ‹_›)) | exact rfl)) ?_) | (show ROpS _ _ (.call 41 _) _ _ _; refine callPC rfl rfl co (by repeat' (first | assumption | refine Glob.setF ?_ (by (repeat' (first | assumption | refine AHeap.so ?_ ?_ | exact AHeap.n4 ‹_› ‹_›)); first | done | fail) | refine Glob.setP ?_ (by (repeat' (first | assumption)); first | done | fail))) (by (repeat' (first | exact AHeap.set_same _ _ _ | refine AHeap.get_fresh ‹_› ?_ | refine AHeap.so ?_ ?_ | exact AHeap.ne_of ‹_› ‹_›)); first | done | fail) (by repeat' (first | exact AHeap.set_set _ _ _ _ | (apply AHeap.upd1; · exact (by first | exact AHeap.n4 ‹_› ‹_› | exact AHeap.n5 ‹_›)))) ?_) | (show ROpS _ _ (.call 30 [_, (.const (.string ⟨#[105, 115]⟩))]) _ _ _; refine callPC rfl rfl ct (by repeat' (first | assumption | refine Glob.setF ?_ (by (repeat' (first | assumption | exact AHeap.z2 ‹_› | refine AHeap.so ?_ ?_ | exact AHeap.n1 ‹_› | exact AHeap.n4 ‹_› ‹_› | exact AHeap.n5 ‹_›)); first | done | fail) | refine Glob.setP ?_ (by (repeat' (first | assumption)); first | done | fail))) (by (repeat' (first | exact AHeap.set_same _ _ _ | refine AHeap.so ?_ ?_ | exact AHeap.ne_of ‹_› ‹_› | exact AHeap.n6 ‹_›)); first | done | fail) (by repeat' (first | exact AHeap.set_set _ _ _ _ | (apply AHeap.upd1; · exact (by first | exact AHeap.n4 ‹_› ‹_› | exact AHeap.n5 ‹_›)))) ?_) | (show ROpS _ _ (.call 30 _) _ _ _; refine callPC rfl rfl cn (by repeat' (first | assumption | refine Glob.setF ?_ (by (repeat' (first | assumption | exact AHeap.z2 ‹_› | refine AHeap.so ?_ ?_ | exact AHeap.n1 ‹_› | exact AHeap.n4 ‹_› ‹_› | exact AHeap.n5 ‹_›)); first | done | fail) | refine Glob.setP ?_ (by (repeat' (first | assumption)); first | done | fail))) (by (repeat' (first | exact AHeap.set_same _ _ _ | refine AHeap.so ?_ ?_ | exact AHeap.ne_of ‹_› ‹_› | exact AHeap.n6 ‹_›)); first | done | fail) (by repeat' (first | exact AHeap.set_set _ _ _ _ | (apply AHeap.upd1; · exact (by first | exact AHeap.n4 ‹_› ‹_› | exact AHeap.n5 ‹_›)))) ?_) | (show ROpS _ _ (.call 34 _) _ _ _; refine callPCU rfl rfl cd (by repeat' (first | assumption | refine Glob.setF ?_ (by (repeat' (first | assumption | exact AHeap.z2 ‹_› | refine AHeap.so ?_ ?_ | exact AHeap.n1 ‹_› | exact AHeap.n4 ‹_› ‹_› | exact AHeap.n5 ‹_›)); first | done | fail) | refine Glob.setP ?_ (by (repeat' (first | assumption)); first | done | fail))) (by (repeat' (first | exact AHeap.set_same _ _ _ | refine AHeap.so ?_ ?_ | exact AHeap.ne_of ‹_› ‹_› | exact AHeap.n6 ‹_›)); first | done | fail) (by repeat' (first | exact AHeap.set_set _ _ _ _ | (apply AHeap.upd1; · exact (by first | exact AHeap.n4 ‹_› ‹_› | exact AHeap.n5 ‹_›)))) (fun x => ?_)) | refine R.mv rfl ?_ | refine R.load (by decide) rfl (by (repeat' (first | exact AHeap.set_same _ _ _)); first | done | fail) rfl ?_ | refine R.not rfl ?_ | refine R.alloc rfl (fun b hb => ?_) | refine R.build rfl rfl ?_ | refine R.buildSl rfl rfl rfl (by decide) ?_ | ((first | refine S.eqInt rfl rfl ?_ ?_) <;> intro hlt <;> try (exfalso; omega))) | (refine S.op0 rfl ?_; first | refine S.storeN rfl rfl (by (repeat' (first | exact AHeap.set_same _ _ _ | refine AHeap.so ?_ ?_ | exact AHeap.n2 ‹_›)); first | done | fail) rfl rfl rfl (by rfl) rfl (by repeat' (first | exact AHeap.set_set _ _ _ _ | (apply AHeap.upd1; · exact (by first | exact AHeap.n1 ‹_›)))) ?_) | refine S.seq ?_ | refine S.region ?_ | refine S.condT rfl ?_ | refine S.condF rfl ?_ | refine RRun.skip ?_)
        apply S.ret rr70
        case hx => repeat (first | exact ResAt.nil | apply ResAt.cellA rfl (by (repeat' (first | exact AHeap.set_same _ _ _ | refine AHeap.so ?_ ?_ | exact AHeap.n2 ‹_›)); first | done | fail) (by rfl))
        exact ⟨_, h.set p (.box (pst T fin (needP T fin s2.next.next [[110, 117, 108, 108]]))), ALe.ag (exA_ex (exs1_le (exA_ex (exs1_le (exA_ex (.refl _)))))), (by repeat (first | exact AHeap.le.refl _ | refine AHeap.le.set ?_ _ (by (repeat' (first | assumption | exact AHeap.z2 ‹_› | refine AHeap.so ?_ ?_ | exact AHeap.n4 ‹_› ‹_› | exact AHeap.n5 ‹_›)); first | done | fail))), rfl, rfl⟩
      · rw [e]
        clear e
        have cd := need_spec (T := T) (fin := fin) hT [[110, 117, 108, 108]] (by decide) .full s2.next
        simp only [Bool.false_eq_true, if_false]
        repeat' (first | refine S.nilK ?_ | (refine S.op rfl ?_; first | (show ROpS _ _ (.call 19 _) _ _ _; refine callPC rfl rfl c1 (by repeat' (first | assumption | refine Glob.setF ?_ (by (repeat' (first | assumption)); first | done | fail))) (by (repeat' (first | assumption | refine AHeap.get_fresh ‹_› ?_)); first | done | fail) (by repeat' (first | (apply AHeap.upd1; · exact (by first | exact AHeap.n4 ‹_› ‹_›)) | exact rfl)) ?_) | (show ROpS _ _ (.call 41 _) _ _ _; refine callPC rfl rfl co (by repeat' (first | assumption | refine Glob.setF ?_ (by (repeat' (first | assumption | refine AHeap.so ?_ ?_ | exact AHeap.n4 ‹_› ‹_›)); first | done | fail) | refine Glob.setP ?_ (by (repeat' (first | assumption)); first | done | fail))) (by (repeat' (first | exact AHeap.set_same _ _ _ | refine AHeap.get_fresh ‹_› ?_ | refine AHeap.so ?_ ?_ | exact AHeap.ne_of ‹_› ‹_›)); first | done | fail) (by repeat' (first | exact AHeap.set_set _ _ _ _ | (apply AHeap.upd1; · exact (by first | exact AHeap.n4 ‹_› ‹_› | exact AHeap.n5 ‹_›)))) ?_) | (show ROpS _ _ (.call 30 [_, (.const (.string ⟨#[105, 115]⟩))]) _ _ _; refine callPC rfl rfl ct (by repeat' (first | assumption | refine Glob.setF ?_ (by (repeat' (first | assumption | exact AHeap.z2 ‹_› | refine AHeap.so ?_ ?_ | exact AHeap.n1 ‹_› | exact AHeap.n4 ‹_› ‹_› | exact AHeap.n5 ‹_›)); first | done | fail) | refine Glob.setP ?_ (by (repeat' (first | assumption)); first | done | fail))) (by (repeat' (first | exact AHeap.set_same _ _ _ | refine AHeap.so ?_ ?_ | exact AHeap.ne_of ‹_› ‹_› | exact AHeap.n6 ‹_›)); first | done | fail) (by repeat' (first | exact AHeap.set_set _ _ _ _ | (apply AHeap.upd1; · exact (by first | exact AHeap.n4 ‹_› ‹_› | exact AHeap.n5 ‹_›)))) ?_) | (show ROpS _ _ (.call 30 _) _ _ _; refine callPC0 rfl rfl cn (by repeat' (first | assumption | refine Glob.setF ?_ (by (repeat' (first | assumption | exact AHeap.z2 ‹_› | refine AHeap.so ?_ ?_ | exact AHeap.n1 ‹_› | exact AHeap.n4 ‹_› ‹_› | exact AHeap.n5 ‹_›)); first | done | fail) | refine Glob.setP ?_ (by (repeat' (first | assumption)); first | done | fail))) (by (repeat' (first | exact AHeap.set_same _ _ _ | refine AHeap.so ?_ ?_ | exact AHeap.ne_of ‹_› ‹_› | exact AHeap.n6 ‹_›)); first | done | fail) ?_) | (show ROpS _ _ (.call 34 _) _ _ _; refine callPCU rfl rfl cd (by repeat' (first | assumption | refine Glob.setF ?_ (by (repeat' (first | assumption | exact AHeap.z2 ‹_› | refine AHeap.so ?_ ?_ | exact AHeap.n1 ‹_› | exact AHeap.n4 ‹_› ‹_› | exact AHeap.n5 ‹_›)); first | done | fail) | refine Glob.setP ?_ (by (repeat' (first | assumption)); first | done | fail))) (by (repeat' (first | exact AHeap.set_same _ _ _ | refine AHeap.so ?_ ?_ | exact AHeap.ne_of ‹_› ‹_› | exact AHeap.n6 ‹_›)); first | done | fail) (by repeat' (first | exact AHeap.set_set _ _ _ _ | (apply AHeap.upd1; · exact (by first | exact AHeap.n4 ‹_› ‹_› | exact AHeap.n5 ‹_›)))) (fun x => ?_)) | refine R.mv rfl ?_ | refine R.load (by decide) rfl (by (repeat' (first | exact AHeap.set_same _ _ _)); first | done | fail) rfl ?_ | refine R.not rfl ?_ | refine R.alloc rfl (fun b hb => ?_) | refine R.build rfl rfl ?_ | refine R.buildSl rfl rfl rfl (by decide) ?_ | ((first | refine S.eqInt rfl rfl ?_ ?_) <;> intro hlt <;> try (exfalso; omega))) | (refine S.op0 rfl ?_; first | refine S.storeN rfl rfl (by (repeat' (first | exact AHeap.set_same _ _ _ | refine AHeap.so ?_ ?_ | exact AHeap.n2 ‹_›)); first | done | fail) rfl rfl rfl (by rfl) rfl (by repeat' (first | exact AHeap.set_set _ _ _ _ | (apply AHeap.upd1; · exact (by first | exact AHeap.n1 ‹_›)))) ?_) | refine S.seq ?_ | refine S.region ?_ | refine S.condF rfl ?_ | refine RRun.skip ?_)
        apply S.ret rr70
        case hx => repeat (first | exact ResAt.nil | apply ResAt.cellA rfl (by (repeat' (first | exact AHeap.set_same _ _ _ | refine AHeap.so ?_ ?_ | exact AHeap.n2 ‹_›)); first | done | fail) (by rfl))
        exact ⟨_, h.set p (.box (pst T fin (needP T fin s2.next [[110, 117, 108, 108]]))), ALe.ag (exA_ex (exs1_le (exA_ex (.refl _)))), (by repeat (first | exact AHeap.le.refl _ | refine AHeap.le.set ?_ _ (by (repeat' (first | assumption | exact AHeap.z2 ‹_› | refine AHeap.so ?_ ?_ | exact AHeap.n4 ‹_› ‹_› | exact AHeap.n5 ‹_›)); first | done | fail))), rfl, rfl⟩
    · rw [e]
      clear e
      simp only
      repeat' (first | refine S.nilK ?_ | (refine S.op rfl ?_; first | (show ROpS _ _ (.call 19 _) _ _ _; refine callPC rfl rfl c1 (by repeat' (first | assumption | refine Glob.setF ?_ (by (repeat' (first | assumption)); first | done | fail))) (by (repeat' (first | assumption | refine AHeap.get_fresh ‹_› ?_)); first | done | fail) (by repeat' (first | (apply AHeap.upd1; · exact (by first | exact AHeap.n4 ‹_› ‹_›)) | exact rfl)) ?_) | (show ROpS _ _ (.call 41 _) _ _ _; refine callPC rfl rfl co (by repeat' (first | assumption | refine Glob.setF ?_ (by (repeat' (first | assumption | refine AHeap.so ?_ ?_ | exact AHeap.n4 ‹_› ‹_›)); first | done | fail) | refine Glob.setP ?_ (by (repeat' (first | assumption)); first | done | fail))) (by (repeat' (first | exact AHeap.set_same _ _ _ | refine AHeap.get_fresh ‹_› ?_ | refine AHeap.so ?_ ?_ | exact AHeap.ne_of ‹_› ‹_›)); first | done | fail) (by repeat' (first | exact AHeap.set_set _ _ _ _ | (apply AHeap.upd1; · exact (by first | exact AHeap.n4 ‹_› ‹_› | exact AHeap.n5 ‹_›)))) ?_) | (show ROpS _ _ (.call 30 _) _ _ _; refine callPC0 rfl rfl ct (by repeat' (first | assumption | refine Glob.setF ?_ (by (repeat' (first | assumption | exact AHeap.z2 ‹_› | refine AHeap.so ?_ ?_ | exact AHeap.n1 ‹_› | exact AHeap.n4 ‹_› ‹_› | exact AHeap.n5 ‹_›)); first | done | fail) | refine Glob.setP ?_ (by (repeat' (first | assumption)); first | done | fail))) (by (repeat' (first | exact AHeap.set_same _ _ _ | refine AHeap.so ?_ ?_ | exact AHeap.ne_of ‹_› ‹_› | exact AHeap.n6 ‹_›)); first | done | fail) ?_) | refine R.mv rfl ?_ | refine R.load (by decide) rfl (by (repeat' (first | exact AHeap.set_same _ _ _)); first | done | fail) rfl ?_ | refine R.not rfl ?_ | refine R.alloc rfl (fun b hb => ?_) | ((first | refine S.eqInt rfl rfl ?_ ?_) <;> intro hlt <;> try (exfalso; omega))) | (refine S.op0 rfl ?_; first | refine S.storeN rfl rfl (by (repeat' (first | exact AHeap.set_same _ _ _ | refine AHeap.so ?_ ?_ | exact AHeap.n2 ‹_›)); first | done | fail) rfl rfl rfl (by rfl) rfl (by repeat' (first | exact AHeap.set_set _ _ _ _ | (apply AHeap.upd1; · exact (by first | exact AHeap.n1 ‹_›)))) ?_) | refine S.seq ?_ | refine S.region ?_ | refine S.condT rfl ?_ | refine S.condF rfl ?_ | refine RRun.skip ?_)
      apply S.ret rr70
      case hx => repeat (first | exact ResAt.nil | apply ResAt.cellA rfl (by (repeat' (first | exact AHeap.set_same _ _ _ | refine AHeap.so ?_ ?_ | exact AHeap.n2 ‹_›)); first | done | fail) (by rfl))
      exact ⟨_, h.set p (.box (pst T fin s2)), ALe.ag (exA_ex (.refl _)), (by repeat (first | exact AHeap.le.refl _ | refine AHeap.le.set ?_ _ (by (repeat' (first | assumption | exact AHeap.z2 ‹_› | refine AHeap.so ?_ ?_ | exact AHeap.n4 ‹_› ‹_› | exact AHeap.n5 ‹_›)); first | done | fail))), rfl, rfl⟩
  · rw [if_pos h0]
    obtain ⟨op2, t2, nm2, m2, vk2, vn2, vs2, ar2, s3, e2, c2⟩ := PC.ex (ih (.left 3) s2 (.inr (.inr (.inl rfl))) g2 (by omega) (by simp [hgt]; omega))
    rw [e2]
    clear e2
    simp only [fid, fargs] at c2 ⊢
    repeat' (first | ((refine S.talt ?_ S.tstop)) | refine S.nilK ?_ | (refine S.op rfl ?_; first | (show ROpS _ _ (.call 41 _) _ _ _; refine callPC rfl rfl co (by repeat' (first | assumption | refine Glob.setF ?_ (by (repeat' (first | assumption | refine AHeap.so ?_ ?_ | exact AHeap.n4 ‹_› ‹_›)); first | done | fail) | refine Glob.setP ?_ (by (repeat' (first | assumption)); first | done | fail))) (by (repeat' (first | exact AHeap.set_same _ _ _ | refine AHeap.get_fresh ‹_› ?_ | refine AHeap.so ?_ ?_ | exact AHeap.ne_of ‹_› ‹_›)); first | done | fail) (by repeat' (first | exact AHeap.set_set _ _ _ _ | (apply AHeap.upd1; · exact (by first | exact AHeap.n4 ‹_› ‹_› | exact AHeap.n5 ‹_›)))) ?_) | (show ROpS _ _ (.call 19 _) _ _ _; refine callPC rfl rfl c1 (by repeat' (first | assumption | refine Glob.setF ?_ (by (repeat' (first | assumption)); first | done | fail))) (by (repeat' (first | assumption | refine AHeap.get_fresh ‹_› ?_)); first | done | fail) (by repeat' (first | (apply AHeap.upd1; · exact (by first | exact AHeap.n4 ‹_› ‹_›)) | exact rfl)) ?_) | (show ROpS _ _ (.call 19 _) _ _ _; refine callPC rfl rfl c2 (by repeat' (first | assumption | refine Glob.setF ?_ (by (repeat' (first | assumption | exact AHeap.z2 ‹_› | refine AHeap.so ?_ ?_ | exact AHeap.n1 ‹_› | exact AHeap.n4 ‹_› ‹_› | exact AHeap.n5 ‹_›)); first | done | fail) | refine Glob.setP ?_ (by (repeat' (first | assumption)); first | done | fail))) (by (repeat' (first | exact AHeap.set_same _ _ _ | refine AHeap.so ?_ ?_ | exact AHeap.ne_of ‹_› ‹_› | exact AHeap.n6 ‹_›)); first | done | fail) (by repeat' (first | exact AHeap.set_set _ _ _ _ | (apply AHeap.upd1; · exact (by first | exact AHeap.n4 ‹_› ‹_› | exact AHeap.n5 ‹_›)))) ?_) | refine R.mv rfl ?_ | refine R.load (by decide) rfl (by (repeat' (first | exact AHeap.set_same _ _ _)); first | done | fail) rfl ?_ | refine R.alloc rfl (fun b hb => ?_) | refine R.build rfl rfl ?_ | refine R.buildSl rfl rfl rfl (by decide) ?_ | ((first | refine S.eqInt rfl rfl ?_ ?_) <;> intro hlt <;> try (exfalso; omega))) | (refine S.op0 rfl ?_; first | refine S.storeN rfl rfl (by (repeat' (first | exact AHeap.set_same _ _ _ | refine AHeap.so ?_ ?_ | exact AHeap.n2 ‹_›)); first | done | fail) rfl rfl rfl (by rfl) rfl (by repeat' (first | exact AHeap.set_set _ _ _ _ | (apply AHeap.upd1; · exact (by first | exact AHeap.n1 ‹_›)))) ?_) | refine S.seq ?_ | refine S.region ?_ | refine S.regionT ?_ | refine S.talt ?_ ?_ | refine S.tdone ?_ | refine S.condT rfl ?_)
    all_goals
      apply S.ret rr70
      case hx => repeat (first | exact ResAt.nil | apply ResAt.cellA rfl (by (repeat' (first | exact AHeap.set_same _ _ _ | refine AHeap.so ?_ ?_ | exact AHeap.n2 ‹_›)); first | done | fail) (by rfl))
      exact ⟨_, h.set p (.box (pst T fin s3)), ALe.ag (exA_ex (exs2_le (exA_ex (.refl _)) (exA_ex (.refl _)))), (by repeat (first | exact AHeap.le.refl _ | refine AHeap.le.set ?_ _ (by (repeat' (first | assumption | exact AHeap.z2 ‹_› | refine AHeap.so ?_ ?_ | exact AHeap.n4 ‹_› ‹_› | exact AHeap.n5 ‹_›)); first | done | fail))), rfl, rfl⟩
end
end Go.Proofs.Ytdinnoejipmiiaa

namespace Go.Proofs.Ytdinnoejipmiiaa
open Go.Av
open Go.Av.Pa (PS atP isP wrongP takeP needP kindP nameP opsP operatorP enterP ev leftLoop)
section
variable {T : List Tok} {fin : Int}
abbrev exZ : List AV := List.map AV.v [.int .i64 0, .string ⟨#[]⟩, .string ⟨#[]⟩, .int .i64 0, .int .i64 0, .int .i64 0, .string ⟨#[]⟩, .slice none 0 0]
def md19 : Nat → Bool := fun id => [5].contains id
def r19l0 : RCode :=
  (.seq (.seq (.region [
    ⟨(some 10), none, .act, .mv (.tmp 0)⟩,
    ⟨(some 11), none, .act, .call 14 [(.tmp 10)]⟩])
  (.cond (.tmp 11)
   .skip
   (.exit 0)))
  (.block 1
   (.seq (.region [
     ⟨(some 12), none, .act, .mv (.tmp 0)⟩,
     ⟨(some 13), none, .act, .mv (.tmp 1)⟩,
     ⟨(some 14), none, .act, .call 41 [(.tmp 12), (.tmp 13)]⟩,
     ⟨(some 6), none, .act, .mv (.tmp 14)⟩])
   (.seq (.seq (.region [
     ⟨(some 15), none, .act, .mv (.tmp 6)⟩,
     ⟨(some 16), none, .act, .eq false .int (.tmp 15) (.const (.int .i64 0))⟩])
   (.cond (.tmp 16)
    (.exit 0)
    .skip))
   (.regionT (.step ⟨(some 17), none, .pure, .mv (.tmp 6)⟩ (.step ⟨(some 19), none, .pure, .mv (.tmp 0)⟩ (.step ⟨(some 20), none, .pure, .mv (.tmp 1)⟩ (.alt ⟨(some 18), none, .read, .load true 8 (.tmp 5)⟩ (.alt ⟨(some 21), none, .act, .call 40 [(.tmp 19), (.tmp 20)]⟩ (.step ⟨(some 22), none, .pure, .buildSl 8 [(.int .i64 0), (.string ⟨#[]⟩), (.string ⟨#[]⟩), (.int .i64 0), (.int .i64 0), (.int .i64 0), (.string ⟨#[]⟩), (.slice none 0 0)] 2 [(0, (.tmp 18)), (1, (.tmp 21))]⟩ (.step ⟨(some 23), none, .pure, .build [(.int .i64 0), (.string ⟨#[]⟩), (.string ⟨#[]⟩), (.int .i64 0), (.int .i64 0), (.int .i64 0), (.string ⟨#[]⟩), (.slice none 0 0)] [(0, 1, (.tmp 17)), (7, 1, (.tmp 22))]⟩ (.alt ⟨none, none, .act, .store 8 (.tmp 5) (.tmp 23)⟩ .done
    .stop)))
    .stop)
    (.alt ⟨(some 21), none, .act, .call 40 [(.tmp 19), (.tmp 20)]⟩ (.step ⟨(some 18), none, .read, .load true 8 (.tmp 5)⟩ (.step ⟨(some 22), none, .pure, .buildSl 8 [(.int .i64 0), (.string ⟨#[]⟩), (.string ⟨#[]⟩), (.int .i64 0), (.int .i64 0), (.int .i64 0), (.string ⟨#[]⟩), (.slice none 0 0)] 2 [(0, (.tmp 18)), (1, (.tmp 21))]⟩ (.step ⟨(some 23), none, .pure, .build [(.int .i64 0), (.string ⟨#[]⟩), (.string ⟨#[]⟩), (.int .i64 0), (.int .i64 0), (.int .i64 0), (.string ⟨#[]⟩), (.slice none 0 0)] [(0, 1, (.tmp 17)), (7, 1, (.tmp 22))]⟩ (.alt ⟨none, none, .act, .store 8 (.tmp 5) (.tmp 23)⟩ .done
    .stop))))
    .stop))))))))))
def r19 : RCode :=
  (.seq (.region [
    ⟨(some 4), none, .act, .alloc [(.int .i64 0), (.string ⟨#[]⟩), (.string ⟨#[]⟩), (.int .i64 0), (.int .i64 0), (.int .i64 0), (.string ⟨#[]⟩), (.slice none 0 0)]⟩])
  (.seq (.region [
    ⟨(some 7), none, .act, .mv (.tmp 0)⟩,
    ⟨(some 8), none, .act, .mv (.tmp 1)⟩,
    ⟨(some 9), none, .act, .call 40 [(.tmp 7), (.tmp 8)]⟩,
    ⟨(some 5), none, .act, .alloc [(.int .i64 0), (.string ⟨#[]⟩), (.string ⟨#[]⟩), (.int .i64 0), (.int .i64 0), (.int .i64 0), (.string ⟨#[]⟩), (.slice none 0 0)]⟩,
    ⟨none, none, .act, .store 8 (.tmp 5) (.tmp 9)⟩])
  (.seq (.block 0
   (.loop r19l0))
  (.seq (.region [
    ⟨(some 24), none, .act, .load true 8 (.tmp 5)⟩,
    ⟨none, none, .act, .store 8 (.tmp 4) (.tmp 24)⟩])
  .ret))))
theorem res19 : ∃ c, Try.f19.body = some c ∧ resCodeM Try.prog 25 md19 c = some r19 := ⟨_, rfl, by kernel_rfl⟩
theorem rr19 : resRes Try.prog Try.f19.results.toList = some [.cell 4 true 8] := by kernel_rfl
abbrev lhp (h : AHeap) (p b4 b5 : Nat) (T : List Tok) (fin : Int) (st : PS) (E : List AV) : AHeap := ((h.set p (.box (pst T fin st))).set b4 (.box exZ)).set b5 (.box E)
theorem left_loop (hT : T.length ≤ 400) {n : Nat} (lv : Nat) (hlv : lvl lv) (hb : ∀ st, st.i ≤ T.length → st.d ≤ 20 → 16 * (T.length - st.i) + hgt (.below lv) ≤ n → PC T fin 40 [i64 lv] st (.ag (ev T fin n (.below lv) st).1.cells) (ev T fin n (.below lv) st).2)
    (p b4 b5 : Nat) (h : AHeap) (hg : Glob h) (st0 : PS) (hp : h p = some (.box (pst T fin st0))) (hb4 : h b4 = none) (hb5 : h b5 = none) (n45 : b5 ≠ b4) (k : List RT) (Q : AV → AHeap → Prop) :
    ∀ (m : Nat) (e : Pa.Ex) (st : PS), T.length - st.i < m → st.i ≤ T.length → st.d ≤ 20 → 16 * (T.length - st.i) + hgt (.below lv) ≤ n →
    RRun Try.prog Try.f19 25 k (Env.get [(4, ptr b4), (5, ptr b5)]) (lhp h p b4 b5 T fin (leftLoop T (ev T fin n (.below lv)) lv m e st).2 (leftLoop T (ev T fin n (.below lv)) lv m e st).1.cells) Q →
    RRun Try.prog Try.f19 25 (.inLoop r19l0 :: .inBlock 0 :: k) (Env.get [(0, ptr p), (1, i64 lv), (4, ptr b4), (5, ptr b5)]) (lhp h p b4 b5 T fin st e.cells) Q := by
  intro m
  induction m with
  | zero => intro e st h0; omega
  | succ m ih =>
    intro e st hm hi hd hr hk
    have np4 : p ≠ b4 := fun e => by subst e; rw [hb4] at hp; cases hp
    have np5 : p ≠ b5 := fun e => by subst e; rw [hb5] at hp; cases hp
    have n4p := Ne.symm np4
    have n5p := Ne.symm np5
    have n54 := Ne.symm n45
    have c14 := ok_spec (T := T) (fin := fin) st
    rw [leftLoop] at hk
    refine RRun.inLoop ?_
    generalize st.good = gd at c14 hk
    cases gd with
    | false =>
      rw [if_neg (by decide)] at hk
      repeat' (first | refine S.nilK ?_ | (refine S.op rfl ?_; first | (show ROpS _ _ (.call 14 _) _ _ _; refine callPC0 rfl rfl c14 (by repeat' (first | assumption | refine Glob.setF ?_ (by (repeat' (first | assumption | refine AHeap.so ?_ ?_)); first | done | fail) | refine Glob.setP ?_ (by (repeat' (first | assumption)); first | done | fail))) (by (repeat' (first | assumption | exact AHeap.set_same _ _ _ | refine AHeap.so ?_ ?_)); first | done | fail) ?_) | refine R.mv rfl ?_) | refine S.seq ?_ | refine S.region ?_ | refine S.condF rfl ?_ | refine RRun.exit rfl ?_)
      exact S.keep [4, 5] rfl hk
    | true =>
      rw [if_pos rfl] at hk
      have co := operator_spec (T := T) (fin := fin) hT lv (by rcases hlv with rfl | rfl | rfl | rfl <;> decide) st
      cases ho : operatorP T st lv with
      | mk op s2 =>
      obtain ⟨g1, g2, g3⟩ := operator_facts hi ho
      have hmore := fun h0 => ops_more (show opsP T st (Pa.levels.getD lv []) = (op, s2) from ho) h0
      rw [ho] at co hk
      clear ho
      simp only at co hk
      by_cases h0 : op = 0
      · rw [if_pos h0] at hk
        subst h0
        repeat' (first | refine S.nilK ?_ | (refine S.op rfl ?_; first | (show ROpS _ _ (.call 14 _) _ _ _; refine callPC0 rfl rfl c14 (by repeat' (first | assumption | refine Glob.setF ?_ (by (repeat' (first | assumption | refine AHeap.so ?_ ?_)); first | done | fail) | refine Glob.setP ?_ (by (repeat' (first | assumption)); first | done | fail))) (by (repeat' (first | assumption | exact AHeap.set_same _ _ _ | refine AHeap.so ?_ ?_)); first | done | fail) ?_) | (show ROpS _ _ (.call 41 _) _ _ _; refine callPC rfl rfl co (by repeat' (first | assumption | refine Glob.setF ?_ (by (repeat' (first | assumption | refine AHeap.so ?_ ?_)); first | done | fail) | refine Glob.setP ?_ (by (repeat' (first | assumption)); first | done | fail))) (by (repeat' (first | assumption | exact AHeap.set_same _ _ _ | refine AHeap.so ?_ ?_)); first | done | fail) (by repeat' (first | exact AHeap.set_set _ _ _ _ | (apply AHeap.upd1; · exact (by first | assumption)))) ?_) | refine R.mv rfl ?_ | ((first | refine S.eqInt rfl rfl ?_ ?_) <;> intro hlt <;> try (exfalso; omega))) | refine S.seq ?_ | refine S.region ?_ | refine S.condT rfl ?_ | refine RRun.skip ?_ | refine RRun.block ?_ | refine RRun.exit rfl ?_)
        exact S.keep [4, 5] rfl hk
      · rw [if_neg h0] at hk
        have hmore := hmore h0
        cases hev : ev T fin n (.below lv) s2 with
        | mk y s3 =>
        have hbb := hb s2 g2 (by omega) (by omega)
        obtain ⟨f1, f2, f3⟩ := ev_facts g2 hev
        rw [hev] at hbb hk
        clear hev
        obtain ⟨op1, t1, nm1, m1, ⟨vk1, vn1, vs1⟩, ar1⟩ := e
        obtain ⟨op2, t2, nm2, m2, ⟨vk2, vn2, vs2⟩, ar2⟩ := y
        rw [Pa.Ex.cells_mk] at hbb
        have next := ih (Pa.opE op [.mk op1 t1 nm1 m1 ⟨vk1, vn1, vs1⟩ ar1, .mk op2 t2 nm2 m2 ⟨vk2, vn2, vs2⟩ ar2]) s3 (by omega) f2 (by omega) (by omega) hk
        clear hk ih
        rw [Pa.Ex.cells_mk]
        repeat' (first | refine S.nilK ?_ | (refine S.op rfl ?_; first | (show ROpS _ _ (.call 14 _) _ _ _; refine callPC0 rfl rfl c14 (by repeat' (first | assumption | refine Glob.setF ?_ (by (repeat' (first | assumption | refine AHeap.so ?_ ?_)); first | done | fail) | refine Glob.setP ?_ (by (repeat' (first | assumption)); first | done | fail))) (by (repeat' (first | assumption | exact AHeap.set_same _ _ _ | refine AHeap.so ?_ ?_)); first | done | fail) ?_) | (show ROpS _ _ (.call 41 _) _ _ _; refine callPC rfl rfl co (by repeat' (first | assumption | refine Glob.setF ?_ (by (repeat' (first | assumption | refine AHeap.so ?_ ?_)); first | done | fail) | refine Glob.setP ?_ (by (repeat' (first | assumption)); first | done | fail))) (by (repeat' (first | assumption | exact AHeap.set_same _ _ _ | refine AHeap.so ?_ ?_)); first | done | fail) (by repeat' (first | exact AHeap.set_set _ _ _ _ | (apply AHeap.upd1; · exact (by first | assumption)))) ?_) | (show ROpS _ _ (.call 40 _) _ _ _; refine callPC rfl rfl hbb (by repeat' (first | assumption | refine Glob.setF ?_ (by (repeat' (first | assumption | refine AHeap.so ?_ ?_)); first | done | fail) | refine Glob.setP ?_ (by (repeat' (first | assumption)); first | done | fail))) (by (repeat' (first | assumption | exact AHeap.set_same _ _ _ | refine AHeap.so ?_ ?_)); first | done | fail) (by repeat' (first | exact AHeap.set_set _ _ _ _ | (apply AHeap.upd1; · exact (by first | assumption)))) ?_) | refine R.mv rfl ?_ | refine R.load (by decide) rfl (by (repeat' (first | exact AHeap.set_same _ _ _)); first | done | fail) rfl ?_ | refine R.build rfl rfl ?_ | refine R.buildSl rfl rfl rfl (by decide) ?_ | ((first | refine S.eqInt rfl rfl ?_ ?_) <;> intro hlt <;> try (exfalso; omega))) | (refine S.op0 rfl ?_; first | refine S.storeN rfl rfl (by (repeat' (first | exact AHeap.set_same _ _ _)); first | done | fail) rfl rfl rfl (by rfl) rfl (by repeat' (first | exact AHeap.set_set _ _ _ _)) ?_) | refine S.seq ?_ | refine S.region ?_ | refine S.regionT ?_ | refine S.talt ?_ ?_ | exact S.tstop | refine S.tdone ?_ | refine S.condT rfl ?_ | refine S.condF rfl ?_ | refine RRun.skip ?_ | refine RRun.block ?_ | refine RRun.inBlock ?_)
        all_goals
          refine S.keep [0, 1, 4, 5] rfl (S.drop ?_ next)
          exact AHeap.le.bothW (.refl _) b5 (.box (exA_ex (exs2_le (exA_ex (.refl _)) (exA_ex (.refl _)))))
theorem left_does (hT : T.length ≤ 400) {n : Nat} (ih : Does T fin n) (lv : Nat) (hlv : lvl lv) (st : PS) (hi : st.i ≤ T.length) (hd : st.d ≤ 20) (hr : 16 * (T.length - st.i) + hgt (.left lv) ≤ n + 1) :
    PC T fin 19 [i64 lv] st (.ag (ev T fin (n + 1) (.left lv) st).1.cells) (ev T fin (n + 1) (.left lv) st).2 := by
  intro p h ⟨hg, hp⟩
  obtain ⟨c', hc1, hc2⟩ := res19
  refine ACalls.weak (ACalls.enter Try.func19 hc1 Try.ntmps19 hc2 (Nat.le_of_ble_eq_true rfl) rfl ?_)
  have hhg : hgt (.left lv) = hgt (.below lv) + 1 := by rcases hlv with rfl | rfl | rfl | rfl <;> rfl
  have hbel : ∀ st : PS, st.i ≤ T.length → st.d ≤ 20 → 16 * (T.length - st.i) + hgt (.below lv) ≤ n → PC T fin 40 [i64 lv] st (.ag (ev T fin n (.below lv) st).1.cells) (ev T fin n (.below lv) st).2 :=
    fun st h1 h2 h3 => ih (.below lv) st hlv h1 h2 h3
  have cb := hbel st hi hd (by omega)
  rw [ev]
  cases hev : ev T fin n (.below lv) st with
  | mk e s1 =>
  obtain ⟨f1, f2, f3⟩ := ev_facts hi hev
  rw [hev] at cb
  clear hev
  simp only at cb ⊢
  have loop := fun b4 b5 hb4 hb5 n45 k Q => left_loop hT lv hlv hbel p b4 b5 h hg st hp hb4 hb5 n45 k Q (T.length + 1) e s1 (by omega) f2 (by omega) (by omega)
  generalize leftLoop T (ev T fin n (.below lv)) lv (T.length + 1) e s1 = r at loop ⊢
  obtain ⟨⟨op1, t1, nm1, m1, ⟨vk1, vn1, vs1⟩, ar1⟩, s2⟩ := r
  obtain ⟨op0, t0, nm0, m0, ⟨vk0, vn0, vs0⟩, ar0⟩ := e
  rw [Pa.Ex.cells_mk] at cb
  simp only at loop
  rw [Pa.Ex.cells_mk] at loop
  repeat' (first | refine S.nilK ?_ | (refine S.op rfl ?_; first | (show ROpS _ _ (.call 40 _) _ _ _; refine callPC rfl rfl cb (by repeat' (first | assumption | refine Glob.setF ?_ (by (repeat' (first | assumption)); first | done | fail))) (by (repeat' (first | assumption | refine AHeap.get_fresh ‹_› ?_)); first | done | fail) (by repeat' (first | (apply AHeap.upd1; · exact (by first | exact AHeap.n4 ‹_› ‹_›)) | exact rfl)) ?_) | refine R.mv rfl ?_ | refine R.alloc rfl (fun b hb => ?_)) | (refine S.op0 rfl ?_; first | refine S.storeN rfl rfl (by (repeat' (first | exact AHeap.set_same _ _ _)); first | done | fail) rfl rfl rfl (by rfl) rfl (by repeat' (first | exact AHeap.set_set _ _ _ _)) ?_) | refine S.seq ?_ | refine S.region ?_ | refine RRun.block ?_)
  rename_i b4 hb4
  have hb' : h b = none := (by (repeat' (first | exact AHeap.z2 ‹_›)); first | done | fail)
  have n45 : b ≠ b4 := (by first | exact AHeap.n1 ‹_›)
  refine RRun.loopIn (S.keep [0, 1, 4, 5] rfl (S.drop ?_ (loop b4 b hb4 hb' n45 _ _ ?_)))
  · rw [Pa.Ex.cells_mk]; exact .refl _
  · repeat' (first | refine S.nilK ?_ | (refine S.op rfl ?_; first | refine R.load (by decide) rfl (by (repeat' (first | exact AHeap.set_same _ _ _)); first | done | fail) rfl ?_) | (refine S.op0 rfl ?_; first | refine S.storeN rfl rfl (by (repeat' (first | exact AHeap.set_same _ _ _ | refine AHeap.so ?_ ?_ | exact AHeap.n2 ‹_›)); first | done | fail) rfl rfl rfl (by rfl) rfl (by repeat' (first | exact AHeap.set_set _ _ _ _ | (apply AHeap.upd1; · exact (by first | assumption)))) ?_) | refine S.seq ?_ | refine S.region ?_)
    apply S.ret rr19
    case hx => repeat (first | exact ResAt.nil | apply ResAt.cellA rfl (by (repeat' (first | exact AHeap.set_same _ _ _ | refine AHeap.so ?_ ?_ | exact AHeap.n2 ‹_›)); first | done | fail) (by rfl))
    exact ⟨_, h.set p (.box (pst T fin s2)), ex_le (.refl _), (by repeat (first | exact AHeap.le.refl _ | refine AHeap.le.set ?_ _ (by (repeat' (first | assumption | refine AHeap.so ?_ ?_ | exact AHeap.n4 ‹_› ‹_›)); first | done | fail))), rfl, rfl⟩
end
end Go.Proofs.Ytdinnoejipmiiaa

namespace Go.Proofs.Ytdinnoejipmiiaa
open Go.Av
open Go.Av.Pa (PS atP isP wrongP takeP needP kindP nameP opsP operatorP enterP ev leftLoop)
section
variable {T : List Tok} {fin : Int}
theorem need_facts {st : PS} (hi : st.i ≤ T.length) (r : List (List UInt8)) : st.i ≤ (needP T fin st r).i ∧ (needP T fin st r).i ≤ T.length ∧ (needP T fin st r).d = st.d :=
  ⟨(Pa.need_up st r hi).1, (Pa.need_up st r hi).2, Pa.need_flat r st⟩
def md72 : Nat → Bool := fun id => [11].contains id
def r72l0 : RCode :=
  (.seq (.region [
    ⟨(some 77), none, .act, .bin .lss (.tmp 76) (.tmp 75)⟩])
  (.seq (.cond (.tmp 77)
   .skip
   (.exit 1))
  (.seq (.block 2
   (.seq (.region [
     ⟨(some 78), none, .act, .indexAddr 2 (.tmp 74) (.tmp 76)⟩,
     ⟨(some 79), none, .act, .load true 2 (.tmp 78)⟩,
     ⟨(some 12), none, .act, .alloc [(.string ⟨#[]⟩), (.int .i64 0)]⟩,
     ⟨none, none, .act, .store 2 (.tmp 12) (.tmp 79)⟩])
   (.seq (.region [
     ⟨(some 80), none, .act, .mv (.tmp 0)⟩,
     ⟨(some 81), none, .act, .fieldAddr 0 (.tmp 12)⟩,
     ⟨(some 82), none, .act, .load false 1 (.tmp 81)⟩,
     ⟨(some 83), none, .act, .call 30 [(.tmp 80), (.tmp 82)]⟩])
   (.cond (.tmp 83)
    (.seq (.region [
      ⟨(some 84), none, .act, .mv (.tmp 0)⟩,
      ⟨(some 85), none, .act, .buildSl 1 [(.string ⟨#[]⟩)] 1 [(0, (.const (.string ⟨#[40]⟩)))]⟩,
      ⟨(some 86), none, .act, .call 34 [(.tmp 84), (.tmp 85)]⟩])
    (.seq (.region [
      ⟨(some 87), none, .act, .mv (.tmp 0)⟩,
      ⟨(some 88), none, .act, .mv (.tmp 3)⟩,
      ⟨(some 89), none, .act, .call 80 [(.tmp 87), (.tmp 88)]⟩,
      ⟨(some 13), none, .act, .alloc [(.int .i64 0), (.string ⟨#[]⟩), (.string ⟨#[]⟩), (.int .i64 0), (.int .i64 0), (.int .i64 0), (.string ⟨#[]⟩), (.slice none 0 0)]⟩,
      ⟨none, none, .act, .store 8 (.tmp 13) (.tmp 89)⟩])
    (.seq (.region [
      ⟨(some 90), none, .act, .mv (.tmp 0)⟩,
      ⟨(some 91), none, .act, .buildSl 1 [(.string ⟨#[]⟩)] 1 [(0, (.const (.string ⟨#[41]⟩)))]⟩,
      ⟨(some 92), none, .act, .call 34 [(.tmp 90), (.tmp 91)]⟩])
    (.seq (.region [
      ⟨(some 93), none, .act, .fieldAddr 1 (.tmp 12)⟩,
      ⟨(some 94), none, .act, .load false 1 (.tmp 93)⟩,
      ⟨(some 95), none, .act, .load true 8 (.tmp 13)⟩,
      ⟨(some 96), none, .act, .buildSl 8 [(.int .i64 0), (.string ⟨#[]⟩), (.string ⟨#[]⟩), (.int .i64 0), (.int .i64 0), (.int .i64 0), (.string ⟨#[]⟩), (.slice none 0 0)] 1 [(0, (.tmp 95))]⟩,
      ⟨(some 97), none, .act, .build [(.int .i64 0), (.string ⟨#[]⟩), (.string ⟨#[]⟩), (.int .i64 0), (.int .i64 0), (.int .i64 0), (.string ⟨#[]⟩), (.slice none 0 0)] [(0, 1, (.tmp 94)), (7, 1, (.tmp 96))]⟩,
      ⟨none, none, .act, .store 8 (.tmp 2) (.tmp 97)⟩])
    .ret))))
    .skip))))
  (.region [
    ⟨(some 98), none, .act, .bin .add (.tmp 76) (.const (.int .i64 1))⟩,
    ⟨(some 76), none, .act, .mv (.tmp 98)⟩]))))
def r72 : RCode :=
  (.seq (.region [
    ⟨(some 2), none, .act, .alloc [(.int .i64 0), (.string ⟨#[]⟩), (.string ⟨#[]⟩), (.int .i64 0), (.int .i64 0), (.int .i64 0), (.string ⟨#[]⟩), (.slice none 0 0)]⟩])
  (.seq (.region [
    ⟨(some 14), none, .act, .mv (.tmp 0)⟩,
    ⟨(some 15), none, .act, .call 21 [(.tmp 14)]⟩,
    ⟨(some 3), none, .act, .mv (.tmp 15)⟩])
  (.seq (.seq (.region [
    ⟨(some 17), none, .act, .mv (.tmp 0)⟩,
    ⟨(some 18), none, .act, .call 51 [(.tmp 17), (.const (.int .i64 2))]⟩,
    ⟨(some 16), none, .act, .mv (.tmp 18)⟩,
    ⟨(some 19), none, .act, .extract (.tmp 16) 0⟩,
    ⟨(some 20), none, .act, .extract (.tmp 16) 1⟩,
    ⟨(some 4), none, .act, .alloc [(.int .i64 0), (.string ⟨#[]⟩), (.int .i64 0), (.int .i64 0)]⟩,
    ⟨none, none, .act, .store 4 (.tmp 4) (.tmp 19)⟩,
    ⟨(some 5), none, .act, .mv (.tmp 20)⟩])
  (.seq (.region [
    ⟨(some 21), none, .act, .mv (.tmp 5)⟩])
  (.cond (.tmp 21)
   (.seq (.region [
     ⟨(some 22), none, .act, .fieldAddr 2 (.tmp 4)⟩,
     ⟨(some 23), none, .act, .load false 1 (.tmp 22)⟩,
     ⟨(some 24), none, .act, .build [(.int .i64 0), (.int .i64 0), (.string ⟨#[]⟩)] [(0, 1, (.const (.int .i64 1))), (1, 1, (.tmp 23))]⟩,
     ⟨(some 25), none, .act, .call 45 [(.tmp 24)]⟩,
     ⟨none, none, .act, .store 8 (.tmp 2) (.tmp 25)⟩])
   .ret)
   .skip)))
  (.seq (.seq (.region [
    ⟨(some 27), none, .act, .mv (.tmp 0)⟩,
    ⟨(some 28), none, .act, .call 51 [(.tmp 27), (.const (.int .i64 3))]⟩,
    ⟨(some 26), none, .act, .mv (.tmp 28)⟩,
    ⟨(some 29), none, .act, .extract (.tmp 26) 0⟩,
    ⟨(some 30), none, .act, .extract (.tmp 26) 1⟩,
    ⟨(some 6), none, .act, .alloc [(.int .i64 0), (.string ⟨#[]⟩), (.int .i64 0), (.int .i64 0)]⟩,
    ⟨none, none, .act, .store 4 (.tmp 6) (.tmp 29)⟩,
    ⟨(some 7), none, .act, .mv (.tmp 30)⟩])
  (.seq (.region [
    ⟨(some 31), none, .act, .mv (.tmp 7)⟩])
  (.cond (.tmp 31)
   (.seq (.region [
     ⟨(some 32), none, .act, .fieldAddr 1 (.tmp 6)⟩,
     ⟨(some 33), none, .act, .load false 1 (.tmp 32)⟩,
     ⟨(some 34), none, .act, .build [(.int .i64 0), (.int .i64 0), (.string ⟨#[]⟩)] [(0, 1, (.const (.int .i64 2))), (2, 1, (.tmp 33))]⟩,
     ⟨(some 35), none, .act, .call 45 [(.tmp 34)]⟩,
     ⟨none, none, .act, .store 8 (.tmp 2) (.tmp 35)⟩])
   .ret)
   .skip)))
  (.seq (.seq (.region [
    ⟨(some 37), none, .act, .mv (.tmp 0)⟩,
    ⟨(some 38), none, .act, .call 51 [(.tmp 37), (.const (.int .i64 1))]⟩,
    ⟨(some 36), none, .act, .mv (.tmp 38)⟩,
    ⟨(some 39), none, .act, .extract (.tmp 36) 0⟩,
    ⟨(some 40), none, .act, .extract (.tmp 36) 1⟩,
    ⟨(some 8), none, .act, .alloc [(.int .i64 0), (.string ⟨#[]⟩), (.int .i64 0), (.int .i64 0)]⟩,
    ⟨none, none, .act, .store 4 (.tmp 8) (.tmp 39)⟩,
    ⟨(some 9), none, .act, .mv (.tmp 40)⟩])
  (.seq (.region [
    ⟨(some 41), none, .act, .mv (.tmp 9)⟩])
  (.cond (.tmp 41)
   (.seq (.seq (.region [
     ⟨(some 42), none, .act, .mv (.tmp 0)⟩,
     ⟨(some 43), none, .act, .call 30 [(.tmp 42), (.const (.string ⟨#[46]⟩))]⟩])
   (.cond (.tmp 43)
    (.seq (.regionT (.step ⟨(some 44), none, .pure, .fieldAddr 1 (.tmp 8)⟩ (.step ⟨(some 46), none, .pure, .mv (.tmp 0)⟩ (.alt ⟨(some 45), none, .read, .load false 1 (.tmp 44)⟩ (.alt ⟨(some 47), none, .act, .call 35 [(.tmp 46)]⟩ (.step ⟨(some 48), none, .pure, .build [(.int .i64 0), (.string ⟨#[]⟩), (.string ⟨#[]⟩), (.int .i64 0), (.int .i64 0), (.int .i64 0), (.string ⟨#[]⟩), (.slice none 0 0)] [(0, 1, (.const (.int .i64 2))), (1, 1, (.tmp 45)), (2, 1, (.tmp 47))]⟩ (.alt ⟨none, none, .act, .store 8 (.tmp 2) (.tmp 48)⟩ .done
    .stop))
    .stop)
    (.alt ⟨(some 47), none, .act, .call 35 [(.tmp 46)]⟩ (.step ⟨(some 45), none, .read, .load false 1 (.tmp 44)⟩ (.step ⟨(some 48), none, .pure, .build [(.int .i64 0), (.string ⟨#[]⟩), (.string ⟨#[]⟩), (.int .i64 0), (.int .i64 0), (.int .i64 0), (.string ⟨#[]⟩), (.slice none 0 0)] [(0, 1, (.const (.int .i64 2))), (1, 1, (.tmp 45)), (2, 1, (.tmp 47))]⟩ (.alt ⟨none, none, .act, .store 8 (.tmp 2) (.tmp 48)⟩ .done
    .stop)))
    .stop)))))
    .ret)
    .skip))
   (.seq (.region [
     ⟨(some 49), none, .act, .fieldAddr 1 (.tmp 8)⟩,
     ⟨(some 50), none, .act, .load false 1 (.tmp 49)⟩,
     ⟨(some 51), none, .act, .build [(.int .i64 0), (.string ⟨#[]⟩), (.string ⟨#[]⟩), (.int .i64 0), (.int .i64 0), (.int .i64 0), (.string ⟨#[]⟩), (.slice none 0 0)] [(0, 1, (.const (.int .i64 2))), (2, 1, (.tmp 50))]⟩,
     ⟨none, none, .act, .store 8 (.tmp 2) (.tmp 51)⟩])
   .ret))
   .skip)))
  (.seq (.block 0
   (.seq (.region [
     ⟨(some 53), none, .act, .mv (.tmp 0)⟩,
     ⟨(some 54), none, .act, .call 30 [(.tmp 53), (.const (.string ⟨#[110, 117, 108, 108]⟩))]⟩,
     ⟨(some 52), none, .act, .mv (.tmp 54)⟩])
   (.cond (.tmp 52)
    (.seq (.region [
      ⟨(some 55), none, .act, .build [(.int .i64 0), (.int .i64 0), (.string ⟨#[]⟩)] []⟩,
      ⟨(some 56), none, .act, .call 45 [(.tmp 55)]⟩,
      ⟨none, none, .act, .store 8 (.tmp 2) (.tmp 56)⟩])
    .ret)
    (.seq (.region [
      ⟨(some 58), none, .act, .mv (.tmp 0)⟩,
      ⟨(some 59), none, .act, .call 30 [(.tmp 58), (.const (.string ⟨#[40]⟩))]⟩,
      ⟨(some 57), none, .act, .mv (.tmp 59)⟩])
    (.cond (.tmp 57)
     (.seq (.region [
       ⟨(some 60), none, .act, .mv (.tmp 0)⟩,
       ⟨(some 61), none, .act, .mv (.tmp 3)⟩,
       ⟨(some 62), none, .act, .call 80 [(.tmp 60), (.tmp 61)]⟩,
       ⟨(some 10), none, .act, .alloc [(.int .i64 0), (.string ⟨#[]⟩), (.string ⟨#[]⟩), (.int .i64 0), (.int .i64 0), (.int .i64 0), (.string ⟨#[]⟩), (.slice none 0 0)]⟩,
       ⟨none, none, .act, .store 8 (.tmp 10) (.tmp 62)⟩])
     (.seq (.region [
       ⟨(some 63), none, .act, .mv (.tmp 0)⟩,
       ⟨(some 64), none, .act, .buildSl 1 [(.string ⟨#[]⟩)] 1 [(0, (.const (.string ⟨#[41]⟩)))]⟩,
       ⟨(some 65), none, .act, .call 34 [(.tmp 63), (.tmp 64)]⟩])
     (.seq (.region [
       ⟨(some 66), none, .act, .load true 8 (.tmp 10)⟩,
       ⟨none, none, .act, .store 8 (.tmp 2) (.tmp 66)⟩])
     .ret)))
     (.seq (.region [
       ⟨(some 68), none, .act, .mv (.tmp 0)⟩,
       ⟨(some 69), none, .act, .call 30 [(.tmp 68), (.const (.string ⟨#[99, 111, 117, 110, 116]⟩))]⟩,
       ⟨(some 67), none, .act, .mv (.tmp 69)⟩])
     (.cond (.tmp 67)
      (.seq (.region [
        ⟨(some 70), none, .act, .mv (.tmp 0)⟩,
        ⟨(some 71), none, .act, .buildSl 1 [(.string ⟨#[]⟩)] 3 [(0, (.const (.string ⟨#[40]⟩))), (1, (.const (.string ⟨#[42]⟩))), (2, (.const (.string ⟨#[41]⟩)))]⟩,
        ⟨(some 72), none, .act, .call 34 [(.tmp 70), (.tmp 71)]⟩])
      (.seq (.region [
        ⟨(some 73), none, .act, .build [(.int .i64 0), (.string ⟨#[]⟩), (.string ⟨#[]⟩), (.int .i64 0), (.int .i64 0), (.int .i64 0), (.string ⟨#[]⟩), (.slice none 0 0)] [(0, 1, (.const (.int .i64 20)))]⟩,
        ⟨none, none, .act, .store 8 (.tmp 2) (.tmp 73)⟩])
      .ret))
      .skip)))))))
  (.seq (.seq (.region [
    ⟨(some 74), none, .act, .call 29 []⟩,
    ⟨(some 75), none, .act, .len (.tmp 74)⟩,
    ⟨(some 76), none, .act, .mv (.const (.int .i64 0))⟩])
  (.block 1
   (.loop r72l0)))
  (.seq (.region [
    ⟨(some 99), none, .act, .mv (.tmp 0)⟩,
    ⟨(some 100), none, .act, .call 13 [(.tmp 99)]⟩])
  (.seq (.region [
    ⟨(some 101), none, .act, .build [(.int .i64 0), (.string ⟨#[]⟩), (.string ⟨#[]⟩), (.int .i64 0), (.int .i64 0), (.int .i64 0), (.string ⟨#[]⟩), (.slice none 0 0)] []⟩,
    ⟨none, none, .act, .store 8 (.tmp 2) (.tmp 101)⟩])
  .ret)))))))))
theorem res72 : ∃ c, Try.f72.body = some c ∧ resCodeM Try.prog 102 md72 c = some r72 := ⟨_, rfl, by kernel_rfl⟩
theorem rr72 : resRes Try.prog Try.f72.results.toList = some [.cell 2 true 8] := by kernel_rfl
theorem agg_loop (hT : T.length ≤ 400) {n i0 : Nat} (a : Int) (hin : ∀ s : PS, i0 < s.i → s.i ≤ T.length → s.d ≤ 20 → PC T fin 80 [i64 a] s (.ag (ev T fin n (.inner a) s).1.cells) (ev T fin n (.inner a) s).2)
    (l : List (List UInt8 × Int)) (hl : l.length ≤ 100) (hl0 : ∀ x ∈ l, x.2 ≠ 0) (s : PS) (hs0 : i0 ≤ s.i) (hsi : s.i ≤ T.length) (hsd : s.d ≤ 20)
    (p b2 : Nat) (h : AHeap) (hg : Glob h) (st0 : PS) (hp : h p = some (.box (pst T fin st0))) (hb2 : h b2 = none) (k : List RT) (Q : AV → AHeap → Prop)
    (hk : opsP T s l = (0, s) → RRun Try.prog Try.f72 102 k (Env.get [(0, ptr p), (2, ptr b2)]) ((h.set p (.box (pst T fin s))).set b2 (.box exZ)) Q)
    (hq : ∀ op s7, opsP T s l = (op, s7) → op ≠ 0 → ∀ e s8, ev T fin n (.inner a) (needP T fin s7 [[40]]) = (e, s8) → ∀ x h', ALe x (.ag (Pa.opE op [e]).cells) → (h.set p (.box (pst T fin (needP T fin s8 [[41]])))).le h' → Q x h') :
    ∀ (m i : Nat), i + m = l.length → opsP T s l = opsP T s (l.drop i) →
    RRun Try.prog Try.f72 102 (.inLoop r72l0 :: .inBlock 1 :: k) (Env.get [(0, ptr p), (2, ptr b2), (3, i64 a), (74, sgsA l), (75, i64 l.length), (76, i64 i)]) ((h.set p (.box (pst T fin s))).set b2 (.box exZ)) Q := by
  have np2 : p ≠ b2 := fun e => by subst e; rw [hb2] at hp; cases hp
  have n2p := Ne.symm np2
  intro m
  induction m with
  | zero =>
    intro i hi ho
    rw [List.drop_eq_nil_of_le (by omega), opsP] at ho
    refine RRun.inLoop ?_
    repeat' (first | refine S.nilK ?_ | (refine S.op rfl ?_; first | ((first | refine S.lss rfl rfl ?_ ?_) <;> intro hlt <;> try (exfalso; omega))) | refine S.seq ?_ | refine S.region ?_ | refine S.condF rfl ?_ | refine RRun.exit rfl ?_)
    exact S.keep [0, 2] rfl (hk ho)
  | succ m ih =>
    intro i hi ho
    have hie : i < l.length := by omega
    have h1 : (l.map sgA)[((i : Nat) : Int).toNat]? = some [str l[i].1, i64 l[i].2] := by simp [hie]
    have hd : l.drop i = l[i] :: l.drop (i + 1) := List.drop_eq_getElem_cons hie
    have hne := hl0 _ (List.getElem_mem hie)
    rw [hd, opsP] at ho
    refine RRun.inLoop ?_
    unfold sgsA
    rcases take_cases (fin := fin) hT s l[i].1 with ⟨e, hlt, ct⟩ | ⟨e, cf⟩
    · have hq1 : isP T s l[i].1 = true := by
        rw [takeP] at e
        split at e
        · next h => exact h
        · cases e
      rw [if_pos hq1] at ho
      clear e hq1
      have cn1 := need_spec (T := T) (fin := fin) hT [[40]] (by decide) .full s.next
      have hnx : s.next.i = s.i + 1 := rfl
      have hnd : s.next.d = s.d := rfl
      obtain ⟨f1, f2, f3⟩ := need_facts (T := T) (fin := fin) (st := s.next) hlt [[40]]
      have hq' := fun e s8 => hq _ _ ho hne e s8
      clear ho hq hk ih
      generalize needP T fin s.next [[40]] = s7 at *
      obtain ⟨op1, t1, nm1, m1, vk1, vn1, vs1, ar1, s8, e1, c1⟩ := PC.ex (hin s7 (by omega) f2 (by omega))
      have hq'' := hq' _ _ e1
      clear e1 hq'
      have cn2 := need_spec (T := T) (fin := fin) hT [[41]] (by decide) .full s8
      repeat' (first | refine S.nilK ?_ | (refine S.op rfl ?_; first | refine R.indexAddr rfl rfl (by omega) h1 ?_ | (show ROpS _ _ (.call 30 _) _ _ _; refine callPC rfl rfl ct (by repeat' (first | assumption | refine Glob.setF ?_ (by (repeat' (first | assumption | refine AHeap.so ?_ ?_)); first | done | fail) | refine Glob.setP ?_ (by (repeat' (first | assumption)); first | done | fail))) (by (repeat' (first | assumption | exact AHeap.set_same _ _ _ | refine AHeap.get_fresh ‹_› ?_ | refine AHeap.so ?_ ?_)); first | done | fail) (by repeat' (first | exact AHeap.set_set _ _ _ _ | (apply AHeap.upd1; · exact (by first | assumption | exact AHeap.n5 ‹_›)))) ?_) | (show ROpS _ _ (.call 34 _) _ _ _; refine callPCU rfl rfl cn1 (by repeat' (first | assumption | refine Glob.setF ?_ (by (repeat' (first | assumption | exact AHeap.z2 ‹_› | refine AHeap.so ?_ ?_ | exact AHeap.n1 ‹_› | exact AHeap.n5 ‹_›)); first | done | fail) | refine Glob.setP ?_ (by (repeat' (first | assumption)); first | done | fail))) (by (repeat' (first | assumption | exact AHeap.set_same _ _ _ | refine AHeap.so ?_ ?_ | exact AHeap.n6 ‹_›)); first | done | fail) (by repeat' (first | exact AHeap.set_set _ _ _ _ | (apply AHeap.upd1; · exact (by first | assumption | exact AHeap.n5 ‹_›)))) (fun x => ?_)) | (show ROpS _ _ (.call 34 _) _ _ _; refine callPCU rfl rfl cn2 (by repeat' (first | assumption | refine Glob.setF ?_ (by (repeat' (first | assumption | exact AHeap.z2 ‹_› | refine AHeap.so ?_ ?_ | exact AHeap.n1 ‹_› | exact AHeap.n5 ‹_›)); first | done | fail) | refine Glob.setP ?_ (by (repeat' (first | assumption)); first | done | fail))) (by (repeat' (first | assumption | exact AHeap.set_same _ _ _ | refine AHeap.get_fresh ‹_› ?_ | refine AHeap.so ?_ ?_ | exact AHeap.n6 ‹_›)); first | done | fail) (by repeat' (first | exact AHeap.set_set _ _ _ _ | (apply AHeap.upd1; · exact (by first | assumption | exact AHeap.n5 ‹_› | exact AHeap.m2 ‹_›)))) (fun x => ?_)) | (show ROpS _ _ (.call 80 _) _ _ _; refine callPC rfl rfl c1 (by repeat' (first | assumption | refine Glob.setF ?_ (by (repeat' (first | assumption | exact AHeap.z2 ‹_› | refine AHeap.so ?_ ?_ | exact AHeap.n1 ‹_› | exact AHeap.n5 ‹_›)); first | done | fail) | refine Glob.setP ?_ (by (repeat' (first | assumption)); first | done | fail))) (by (repeat' (first | assumption | exact AHeap.set_same _ _ _ | refine AHeap.so ?_ ?_ | exact AHeap.n6 ‹_›)); first | done | fail) (by repeat' (first | exact AHeap.set_set _ _ _ _ | (apply AHeap.upd1; · exact (by first | assumption | exact AHeap.n5 ‹_›)))) ?_) | refine R.mv rfl ?_ | refine R.fieldAddr rfl ?_ | refine R.loadR rfl rfl ?_ | refine R.load (by decide) rfl (by (repeat' (first | exact AHeap.set_same _ _ _ | refine AHeap.so ?_ ?_ | exact AHeap.n2 ‹_›)); first | done | fail) rfl ?_ | refine R.alloc rfl (fun b hb => ?_) | refine R.build rfl rfl ?_ | refine R.buildSl rfl rfl rfl (by decide) ?_ | ((first | refine S.lss rfl rfl ?_ ?_) <;> intro hlt <;> try (exfalso; omega))) | (refine S.op0 rfl ?_; first | refine S.storeN rfl rfl (by (repeat' (first | exact AHeap.set_same _ _ _ | refine AHeap.so ?_ ?_ | exact AHeap.n2 ‹_› | exact AHeap.n6 ‹_›)); first | done | fail) rfl rfl rfl (by rfl) rfl (by repeat' (first | exact AHeap.set_set _ _ _ _ | (apply AHeap.upd1; · exact (by first | exact AHeap.n1 ‹_› | exact AHeap.n5 ‹_›)))) ?_) | refine S.seq ?_ | refine S.region ?_ | refine S.condT rfl ?_ | refine RRun.skip ?_ | refine RRun.block ?_)
      apply S.ret rr72
      case hx => repeat (first | exact ResAt.nil | apply ResAt.cellA rfl (by (repeat' (first | exact AHeap.set_same _ _ _ | refine AHeap.so ?_ ?_ | exact AHeap.n2 ‹_› | exact AHeap.n6 ‹_›)); first | done | fail) (by rfl))
      exact hq'' _ _ (ALe.ag (exA_ex (exs1_le (exA_ex (.refl _))))) (by repeat (first | exact AHeap.le.refl _ | refine AHeap.le.set ?_ _ (by (repeat' (first | assumption | exact AHeap.z2 ‹_› | exact AHeap.z3 ‹_› | refine AHeap.so ?_ ?_ | exact AHeap.n5 ‹_› | exact AHeap.m2 ‹_›)); first | done | fail)))
    · have hq1 : ¬ isP T s l[i].1 = true := by
        rw [takeP] at e
        split at e
        · cases e
        · next h => exact h
      rw [if_neg hq1] at ho
      clear e hq1
      repeat' (first | refine S.nilK ?_ | (refine S.op rfl ?_; first | refine R.indexAddr rfl rfl (by omega) h1 ?_ | (show ROpS _ _ (.call 30 _) _ _ _; refine callPC0 rfl rfl cf (by repeat' (first | assumption | refine Glob.setF ?_ (by (repeat' (first | assumption | refine AHeap.so ?_ ?_)); first | done | fail) | refine Glob.setP ?_ (by (repeat' (first | assumption)); first | done | fail))) (by (repeat' (first | assumption | exact AHeap.set_same _ _ _ | refine AHeap.get_fresh ‹_› ?_ | refine AHeap.so ?_ ?_)); first | done | fail) ?_) | refine R.mv rfl ?_ | refine R.fieldAddr rfl ?_ | refine R.loadR rfl rfl ?_ | refine R.load (by decide) rfl (by (repeat' (first | exact AHeap.set_same _ _ _)); first | done | fail) rfl ?_ | refine S.addI rfl rfl (by omega) ?_ | refine R.alloc rfl (fun b hb => ?_) | ((first | refine S.lss rfl rfl ?_ ?_) <;> intro hlt <;> try (exfalso; omega))) | (refine S.op0 rfl ?_; first | refine S.storeN rfl rfl (by (repeat' (first | exact AHeap.set_same _ _ _)); first | done | fail) rfl rfl rfl (by rfl) rfl (by repeat' (first | exact AHeap.set_set _ _ _ _)) ?_) | refine S.seq ?_ | refine S.region ?_ | refine S.condT rfl ?_ | refine S.condF rfl ?_ | refine RRun.skip ?_ | refine RRun.block ?_ | refine RRun.inBlock ?_)
      rw [show ((i : Int) + 1) = ((i + 1 : Nat) : Int) by omega]
      exact S.keep [0, 2, 3, 74, 75, 76] rfl (S.drop (by repeat (first | exact AHeap.le.refl _ | refine AHeap.le.set ?_ _ (by (repeat' (first | assumption)); first | done | fail))) (ih (i + 1) (by omega) ho))
end
end Go.Proofs.Ytdinnoejipmiiaa

namespace Go.Proofs.Ytdinnoejipmiiaa
open Go.Av
open Go.Av.Pa (PS atP isP wrongP takeP needP kindP nameP opsP operatorP enterP ev leftLoop)
section
variable {T : List Tok} {fin : Int}
theorem PC.same {f : FuncId} {al : List AV} {st : PS} {x : AV} (h : PC T fin f al st x st) : PC0 T fin f al st x := fun p h' hq =>
  (h p h' hq).mono fun x' h'' ⟨e1, e2⟩ => ⟨e1, e2.trans (AHeap.set_eq _ hq.box)⟩
theorem kind_cases (hT : TOk T) (st : PS) (k : Int) : (∃ t, kindP T st k = (some t, st.next) ∧ st.i < T.length ∧ PC T fin 51 [i64 k] st (.tu [.ag [i64 t.kind, str t.s, i64 t.n, i64 t.pos], bl true]) st.next) ∨
    (kindP T st k = (none, st) ∧ PC0 T fin 51 [i64 k] st (.tu [.ag [i64 0, str [], i64 0, i64 0], bl false])) := by
  have h := kind_spec (fin := fin) hT st k
  unfold kindP at h ⊢
  cases hl : T[st.i]? with
  | none =>
    rw [hl] at h
    exact .inr ⟨rfl, PC.same h⟩
  | some t =>
    rw [hl] at h
    simp only at h ⊢
    split
    · next hc => rw [if_pos hc] at h; exact .inl ⟨t, rfl, (List.getElem?_eq_some_iff.1 hl).1, h⟩
    · next hc => rw [if_neg hc] at h; exact .inr ⟨rfl, PC.same h⟩
theorem aggs_ne : ∀ x ∈ Pa.aggsL, x.2 ≠ 0 := by decide
def r72u : RCode :=
  (.seq (.seq (.region [
    ⟨(some 74), none, .act, .call 29 []⟩,
    ⟨(some 75), none, .act, .len (.tmp 74)⟩,
    ⟨(some 76), none, .act, .mv (.const (.int .i64 0))⟩])
  (.block 1
   (.loop r72l0)))
  (.seq (.region [
    ⟨(some 99), none, .act, .mv (.tmp 0)⟩,
    ⟨(some 100), none, .act, .call 13 [(.tmp 99)]⟩])
  (.seq (.region [
    ⟨(some 101), none, .act, .build [(.int .i64 0), (.string ⟨#[]⟩), (.string ⟨#[]⟩), (.int .i64 0), (.int .i64 0), (.int .i64 0), (.string ⟨#[]⟩), (.slice none 0 0)] []⟩,
    ⟨none, none, .act, .store 8 (.tmp 2) (.tmp 101)⟩])
  .ret)))
def r72t : RCode :=
  (.seq (.block 0
   (.seq (.region [
     ⟨(some 53), none, .act, .mv (.tmp 0)⟩,
     ⟨(some 54), none, .act, .call 30 [(.tmp 53), (.const (.string ⟨#[110, 117, 108, 108]⟩))]⟩,
     ⟨(some 52), none, .act, .mv (.tmp 54)⟩])
   (.cond (.tmp 52)
    (.seq (.region [
      ⟨(some 55), none, .act, .build [(.int .i64 0), (.int .i64 0), (.string ⟨#[]⟩)] []⟩,
      ⟨(some 56), none, .act, .call 45 [(.tmp 55)]⟩,
      ⟨none, none, .act, .store 8 (.tmp 2) (.tmp 56)⟩])
    .ret)
    (.seq (.region [
      ⟨(some 58), none, .act, .mv (.tmp 0)⟩,
      ⟨(some 59), none, .act, .call 30 [(.tmp 58), (.const (.string ⟨#[40]⟩))]⟩,
      ⟨(some 57), none, .act, .mv (.tmp 59)⟩])
    (.cond (.tmp 57)
     (.seq (.region [
       ⟨(some 60), none, .act, .mv (.tmp 0)⟩,
       ⟨(some 61), none, .act, .mv (.tmp 3)⟩,
       ⟨(some 62), none, .act, .call 80 [(.tmp 60), (.tmp 61)]⟩,
       ⟨(some 10), none, .act, .alloc [(.int .i64 0), (.string ⟨#[]⟩), (.string ⟨#[]⟩), (.int .i64 0), (.int .i64 0), (.int .i64 0), (.string ⟨#[]⟩), (.slice none 0 0)]⟩,
       ⟨none, none, .act, .store 8 (.tmp 10) (.tmp 62)⟩])
     (.seq (.region [
       ⟨(some 63), none, .act, .mv (.tmp 0)⟩,
       ⟨(some 64), none, .act, .buildSl 1 [(.string ⟨#[]⟩)] 1 [(0, (.const (.string ⟨#[41]⟩)))]⟩,
       ⟨(some 65), none, .act, .call 34 [(.tmp 63), (.tmp 64)]⟩])
     (.seq (.region [
       ⟨(some 66), none, .act, .load true 8 (.tmp 10)⟩,
       ⟨none, none, .act, .store 8 (.tmp 2) (.tmp 66)⟩])
     .ret)))
     (.seq (.region [
       ⟨(some 68), none, .act, .mv (.tmp 0)⟩,
       ⟨(some 69), none, .act, .call 30 [(.tmp 68), (.const (.string ⟨#[99, 111, 117, 110, 116]⟩))]⟩,
       ⟨(some 67), none, .act, .mv (.tmp 69)⟩])
     (.cond (.tmp 67)
      (.seq (.region [
        ⟨(some 70), none, .act, .mv (.tmp 0)⟩,
        ⟨(some 71), none, .act, .buildSl 1 [(.string ⟨#[]⟩)] 3 [(0, (.const (.string ⟨#[40]⟩))), (1, (.const (.string ⟨#[42]⟩))), (2, (.const (.string ⟨#[41]⟩)))]⟩,
        ⟨(some 72), none, .act, .call 34 [(.tmp 70), (.tmp 71)]⟩])
      (.seq (.region [
        ⟨(some 73), none, .act, .build [(.int .i64 0), (.string ⟨#[]⟩), (.string ⟨#[]⟩), (.int .i64 0), (.int .i64 0), (.int .i64 0), (.string ⟨#[]⟩), (.slice none 0 0)] [(0, 1, (.const (.int .i64 20)))]⟩,
        ⟨none, none, .act, .store 8 (.tmp 2) (.tmp 73)⟩])
      .ret))
      .skip)))))))
  (.seq (.seq (.region [
    ⟨(some 74), none, .act, .call 29 []⟩,
    ⟨(some 75), none, .act, .len (.tmp 74)⟩,
    ⟨(some 76), none, .act, .mv (.const (.int .i64 0))⟩])
  (.block 1
   (.loop r72l0)))
  (.seq (.region [
    ⟨(some 99), none, .act, .mv (.tmp 0)⟩,
    ⟨(some 100), none, .act, .call 13 [(.tmp 99)]⟩])
  (.seq (.region [
    ⟨(some 101), none, .act, .build [(.int .i64 0), (.string ⟨#[]⟩), (.string ⟨#[]⟩), (.int .i64 0), (.int .i64 0), (.int .i64 0), (.string ⟨#[]⟩), (.slice none 0 0)] []⟩,
    ⟨none, none, .act, .store 8 (.tmp 2) (.tmp 101)⟩])
  .ret))))
def r72w : RCode :=
  (.seq (.seq (.region [
    ⟨(some 37), none, .act, .mv (.tmp 0)⟩,
    ⟨(some 38), none, .act, .call 51 [(.tmp 37), (.const (.int .i64 1))]⟩,
    ⟨(some 36), none, .act, .mv (.tmp 38)⟩,
    ⟨(some 39), none, .act, .extract (.tmp 36) 0⟩,
    ⟨(some 40), none, .act, .extract (.tmp 36) 1⟩,
    ⟨(some 8), none, .act, .alloc [(.int .i64 0), (.string ⟨#[]⟩), (.int .i64 0), (.int .i64 0)]⟩,
    ⟨none, none, .act, .store 4 (.tmp 8) (.tmp 39)⟩,
    ⟨(some 9), none, .act, .mv (.tmp 40)⟩])
  (.seq (.region [
    ⟨(some 41), none, .act, .mv (.tmp 9)⟩])
  (.cond (.tmp 41)
   (.seq (.seq (.region [
     ⟨(some 42), none, .act, .mv (.tmp 0)⟩,
     ⟨(some 43), none, .act, .call 30 [(.tmp 42), (.const (.string ⟨#[46]⟩))]⟩])
   (.cond (.tmp 43)
    (.seq (.regionT (.step ⟨(some 44), none, .pure, .fieldAddr 1 (.tmp 8)⟩ (.step ⟨(some 46), none, .pure, .mv (.tmp 0)⟩ (.alt ⟨(some 45), none, .read, .load false 1 (.tmp 44)⟩ (.alt ⟨(some 47), none, .act, .call 35 [(.tmp 46)]⟩ (.step ⟨(some 48), none, .pure, .build [(.int .i64 0), (.string ⟨#[]⟩), (.string ⟨#[]⟩), (.int .i64 0), (.int .i64 0), (.int .i64 0), (.string ⟨#[]⟩), (.slice none 0 0)] [(0, 1, (.const (.int .i64 2))), (1, 1, (.tmp 45)), (2, 1, (.tmp 47))]⟩ (.alt ⟨none, none, .act, .store 8 (.tmp 2) (.tmp 48)⟩ .done
    .stop))
    .stop)
    (.alt ⟨(some 47), none, .act, .call 35 [(.tmp 46)]⟩ (.step ⟨(some 45), none, .read, .load false 1 (.tmp 44)⟩ (.step ⟨(some 48), none, .pure, .build [(.int .i64 0), (.string ⟨#[]⟩), (.string ⟨#[]⟩), (.int .i64 0), (.int .i64 0), (.int .i64 0), (.string ⟨#[]⟩), (.slice none 0 0)] [(0, 1, (.const (.int .i64 2))), (1, 1, (.tmp 45)), (2, 1, (.tmp 47))]⟩ (.alt ⟨none, none, .act, .store 8 (.tmp 2) (.tmp 48)⟩ .done
    .stop)))
    .stop)))))
    .ret)
    .skip))
   (.seq (.region [
     ⟨(some 49), none, .act, .fieldAddr 1 (.tmp 8)⟩,
     ⟨(some 50), none, .act, .load false 1 (.tmp 49)⟩,
     ⟨(some 51), none, .act, .build [(.int .i64 0), (.string ⟨#[]⟩), (.string ⟨#[]⟩), (.int .i64 0), (.int .i64 0), (.int .i64 0), (.string ⟨#[]⟩), (.slice none 0 0)] [(0, 1, (.const (.int .i64 2))), (2, 1, (.tmp 50))]⟩,
     ⟨none, none, .act, .store 8 (.tmp 2) (.tmp 51)⟩])
   .ret))
   .skip)))
  (.seq (.block 0
   (.seq (.region [
     ⟨(some 53), none, .act, .mv (.tmp 0)⟩,
     ⟨(some 54), none, .act, .call 30 [(.tmp 53), (.const (.string ⟨#[110, 117, 108, 108]⟩))]⟩,
     ⟨(some 52), none, .act, .mv (.tmp 54)⟩])
   (.cond (.tmp 52)
    (.seq (.region [
      ⟨(some 55), none, .act, .build [(.int .i64 0), (.int .i64 0), (.string ⟨#[]⟩)] []⟩,
      ⟨(some 56), none, .act, .call 45 [(.tmp 55)]⟩,
      ⟨none, none, .act, .store 8 (.tmp 2) (.tmp 56)⟩])
    .ret)
    (.seq (.region [
      ⟨(some 58), none, .act, .mv (.tmp 0)⟩,
      ⟨(some 59), none, .act, .call 30 [(.tmp 58), (.const (.string ⟨#[40]⟩))]⟩,
      ⟨(some 57), none, .act, .mv (.tmp 59)⟩])
    (.cond (.tmp 57)
     (.seq (.region [
       ⟨(some 60), none, .act, .mv (.tmp 0)⟩,
       ⟨(some 61), none, .act, .mv (.tmp 3)⟩,
       ⟨(some 62), none, .act, .call 80 [(.tmp 60), (.tmp 61)]⟩,
       ⟨(some 10), none, .act, .alloc [(.int .i64 0), (.string ⟨#[]⟩), (.string ⟨#[]⟩), (.int .i64 0), (.int .i64 0), (.int .i64 0), (.string ⟨#[]⟩), (.slice none 0 0)]⟩,
       ⟨none, none, .act, .store 8 (.tmp 10) (.tmp 62)⟩])
     (.seq (.region [
       ⟨(some 63), none, .act, .mv (.tmp 0)⟩,
       ⟨(some 64), none, .act, .buildSl 1 [(.string ⟨#[]⟩)] 1 [(0, (.const (.string ⟨#[41]⟩)))]⟩,
       ⟨(some 65), none, .act, .call 34 [(.tmp 63), (.tmp 64)]⟩])
     (.seq (.region [
       ⟨(some 66), none, .act, .load true 8 (.tmp 10)⟩,
       ⟨none, none, .act, .store 8 (.tmp 2) (.tmp 66)⟩])
     .ret)))
     (.seq (.region [
       ⟨(some 68), none, .act, .mv (.tmp 0)⟩,
       ⟨(some 69), none, .act, .call 30 [(.tmp 68), (.const (.string ⟨#[99, 111, 117, 110, 116]⟩))]⟩,
       ⟨(some 67), none, .act, .mv (.tmp 69)⟩])
     (.cond (.tmp 67)
      (.seq (.region [
        ⟨(some 70), none, .act, .mv (.tmp 0)⟩,
        ⟨(some 71), none, .act, .buildSl 1 [(.string ⟨#[]⟩)] 3 [(0, (.const (.string ⟨#[40]⟩))), (1, (.const (.string ⟨#[42]⟩))), (2, (.const (.string ⟨#[41]⟩)))]⟩,
        ⟨(some 72), none, .act, .call 34 [(.tmp 70), (.tmp 71)]⟩])
      (.seq (.region [
        ⟨(some 73), none, .act, .build [(.int .i64 0), (.string ⟨#[]⟩), (.string ⟨#[]⟩), (.int .i64 0), (.int .i64 0), (.int .i64 0), (.string ⟨#[]⟩), (.slice none 0 0)] [(0, 1, (.const (.int .i64 20)))]⟩,
        ⟨none, none, .act, .store 8 (.tmp 2) (.tmp 73)⟩])
      .ret))
      .skip)))))))
  (.seq (.seq (.region [
    ⟨(some 74), none, .act, .call 29 []⟩,
    ⟨(some 75), none, .act, .len (.tmp 74)⟩,
    ⟨(some 76), none, .act, .mv (.const (.int .i64 0))⟩])
  (.block 1
   (.loop r72l0)))
  (.seq (.region [
    ⟨(some 99), none, .act, .mv (.tmp 0)⟩,
    ⟨(some 100), none, .act, .call 13 [(.tmp 99)]⟩])
  (.seq (.region [
    ⟨(some 101), none, .act, .build [(.int .i64 0), (.string ⟨#[]⟩), (.string ⟨#[]⟩), (.int .i64 0), (.int .i64 0), (.int .i64 0), (.string ⟨#[]⟩), (.slice none 0 0)] []⟩,
    ⟨none, none, .act, .store 8 (.tmp 2) (.tmp 101)⟩])
  .ret)))))
def primU (T : List Tok) (fin : Int) (n : Nat) (a : Int) (st : PS) : Pa.Ex × PS :=
  match opsP T st Pa.aggsL with
  | (op, s) => if op = 0 then (Pa.Ex.nil, wrongP T fin s) else
    match ev T fin n (.inner a) (needP T fin s [[40]]) with
    | (e, s) => (Pa.opE op [e], needP T fin s [[41]])
abbrev Prims (T : List Tok) (fin : Int) (h : AHeap) (p : Nat) (r : Pa.Ex × PS) : AV → AHeap → Prop := Weak (fun x' h' => x' = .ag r.1.cells ∧ h' = h.set p (.box (pst T fin r.2)))
theorem prim_u (hT : TOk T) {n : Nat} (a : Int) (st : PS) (hi : st.i ≤ T.length) (hd : st.d ≤ 20)
    (hin : ∀ (s : PS), st.i < s.i → s.i ≤ T.length → s.d ≤ 20 → PC T fin 80 [i64 a] s (.ag (ev T fin n (.inner a) s).1.cells) (ev T fin n (.inner a) s).2)
    (p b2 : Nat) (h : AHeap) (hg : Glob h) (hp : h p = some (.box (pst T fin st))) (hb2 : h b2 = none) :
    RRun Try.prog Try.f72 102 [.code r72u] (Env.get [(0, ptr p), (2, ptr b2), (3, i64 a)]) (h.set b2 (.box exZ)) (Prims T fin h p (primU T fin n a st)) := by
  have np2 : p ≠ b2 := fun e => by subst e; rw [hb2] at hp; cases hp
  have n2p := Ne.symm np2
  have cf := functions_spec
  have hll : (Pa.aggsL.map sgA).length = Pa.aggsL.length := rfl
  have loop := fun k Q hk hq => agg_loop (fin := fin) hT.len (n := n) (i0 := st.i) a hin Pa.aggsL (by decide) aggs_ne st (Nat.le_refl _) hi hd p b2 h hg st hp hb2 k Q hk hq Pa.aggsL.length 0 (by omega) rfl
  rw [AHeap.set_eq _ hp] at loop
  unfold r72u
  repeat' (first | refine S.nilK ?_ | (refine S.op rfl ?_; first | (show ROpS _ _ (.call 29 _) _ _ _; refine callN rfl rfl (cf _) rfl ?_) | refine R.mv rfl ?_ | refine R.len rfl ?_) | refine S.seq ?_ | refine S.region ?_ | refine RRun.block ?_)
  refine RRun.loopIn (S.keep [0, 2, 3, 74, 75, 76] rfl (loop _ _ (fun ho => ?_) (fun op s7 ho h0 e s8 he x h' hx hle => ?_)))
  · have cw := wrong_spec (T := T) (fin := fin) st
    repeat' (first | refine S.nilK ?_ | (refine S.op rfl ?_; first | (show ROpS _ _ (.call 13 _) _ _ _; refine callPCU rfl rfl cw (by repeat' (first | assumption | refine Glob.setF ?_ (by (repeat' (first | assumption)); first | done | fail))) (by (repeat' (first | assumption | refine AHeap.get_fresh ‹_› ?_)); first | done | fail) (by repeat' (first | (apply AHeap.upd1; · exact (by first | assumption)) | exact rfl)) (fun x => ?_)) | refine R.mv rfl ?_ | refine R.build rfl rfl ?_) | (refine S.op0 rfl ?_; first | refine S.storeN rfl rfl (by (repeat' (first | exact AHeap.set_same _ _ _)); first | done | fail) rfl rfl rfl (by rfl) rfl (by repeat' (first | exact AHeap.set_set _ _ _ _)) ?_) | refine S.seq ?_ | refine S.region ?_)
    apply S.ret rr72
    case hx => repeat (first | exact ResAt.nil | apply ResAt.cellA rfl (by (repeat' (first | exact AHeap.set_same _ _ _)); first | done | fail) (by rfl))
    have hr : primU T fin n a st = (Pa.Ex.nil, wrongP T fin st) := by
      unfold primU; rw [ho]; simp only [if_true]
    rw [hr]
    exact ⟨_, h.set p (.box (pst T fin (wrongP T fin st))), ex_le nil_le, (by repeat (first | exact AHeap.le.refl _ | refine AHeap.le.set ?_ _ (by (repeat' (first | assumption | refine AHeap.so ?_ ?_)); first | done | fail))), rfl, rfl⟩
  · have hr : primU T fin n a st = (Pa.opE op [e], needP T fin s8 [[41]]) := by
      unfold primU; rw [ho]; simp only [if_neg h0]; rw [he]
    rw [hr]
    exact ⟨_, _, hx, hle, rfl, rfl⟩
def primT (T : List Tok) (fin : Int) (n : Nat) (a : Int) (st : PS) : Pa.Ex × PS :=
  match takeP T st [110, 117, 108, 108] with
  | (true, s) => (Pa.lit Pa.vz, s)
  | (false, s) =>
  match takeP T s [40] with
  | (true, s) => (match ev T fin n (.inner a) s with
    | (e, s) => (e, needP T fin s [[41]]))
  | (false, s) =>
  match takeP T s [99, 111, 117, 110, 116] with
  | (true, s) => (Pa.opE 20 [], needP T fin s [[40], [42], [41]])
  | (false, s) => primU T fin n a s
theorem prim_t (hT : TOk T) {n : Nat} (a : Int) (st : PS) (hi : st.i ≤ T.length) (hd : st.d ≤ 20)
    (hin : ∀ (s : PS), st.i < s.i → s.i ≤ T.length → s.d ≤ 20 → PC T fin 80 [i64 a] s (.ag (ev T fin n (.inner a) s).1.cells) (ev T fin n (.inner a) s).2)
    (p b2 : Nat) (h : AHeap) (hg : Glob h) (hp : h p = some (.box (pst T fin st))) (hb2 : h b2 = none) :
    RRun Try.prog Try.f72 102 [.code r72t] (Env.get [(0, ptr p), (2, ptr b2), (3, i64 a)]) (h.set b2 (.box exZ)) (Prims T fin h p (primT T fin n a st)) := by
  have np2 : p ≠ b2 := fun e => by subst e; rw [hb2] at hp; cases hp
  have n2p := Ne.symm np2
  have hTl := hT.len
  have tail := prim_u (fin := fin) hT a st hi hd hin p b2 h hg hp hb2
  unfold r72t primT
  rcases take_cases (fin := fin) hTl st [110, 117, 108, 108] with ⟨e, hlt, c1⟩ | ⟨e, c1⟩
  · rw [e]
    clear e tail
    have cl := literal_spec ⟨0, 0, []⟩
    simp only [Pa.lit, Pa.vz] at cl ⊢
    rw [Pa.Ex.cells_mk] at cl
    repeat' (first | refine S.nilK ?_ | (refine S.op rfl ?_; first | (show ROpS _ _ (.call 30 _) _ _ _; refine callPC rfl rfl c1 (by repeat' (first | assumption | refine Glob.setF ?_ (by (repeat' (first | assumption)); first | done | fail))) (by (repeat' (first | assumption | refine AHeap.get_fresh ‹_› ?_)); first | done | fail) (by repeat' (first | (apply AHeap.upd1; · exact (by first | assumption)) | exact rfl)) ?_) | (show ROpS _ _ (.call 45 _) _ _ _; refine callN rfl rfl (cl _) rfl ?_) | refine R.mv rfl ?_ | refine R.build rfl rfl ?_) | (refine S.op0 rfl ?_; first | refine S.storeN rfl rfl (by (repeat' (first | exact AHeap.set_same _ _ _)); first | done | fail) rfl rfl rfl (by rfl) rfl (by repeat' (first | exact AHeap.set_set _ _ _ _)) ?_) | refine S.seq ?_ | refine S.region ?_ | refine S.condT rfl ?_ | refine RRun.block ?_)
    apply S.ret rr72
    case hx => repeat (first | exact ResAt.nil | apply ResAt.cellA rfl (by (repeat' (first | exact AHeap.set_same _ _ _)); first | done | fail) (by rfl))
    exact ⟨_, h.set p (.box (pst T fin st.next)), ex_le (.refl _), (by repeat (first | exact AHeap.le.refl _ | refine AHeap.le.set ?_ _ (by (repeat' (first | assumption | refine AHeap.so ?_ ?_)); first | done | fail))), rfl, rfl⟩
  rw [e]
  clear e
  simp only
  rcases take_cases (fin := fin) hTl st [40] with ⟨e, hlt, c2⟩ | ⟨e, c2⟩
  · rw [e]
    clear e tail
    simp only
    obtain ⟨op1, t1, nm1, m1, vk1, vn1, vs1, ar1, s8, e1, ci⟩ := PC.ex (hin st.next (Nat.lt_succ_self _) hlt hd)
    rw [e1]
    clear e1
    have cd := need_spec (T := T) (fin := fin) hTl [[41]] (by decide) .full s8
    simp only
    repeat' (first | refine S.nilK ?_ | (refine S.op rfl ?_; first | (show ROpS _ _ (.call 30 [_, (.const (.string ⟨#[110, 117, 108, 108]⟩))]) _ _ _; refine callPC0 rfl rfl c1 (by repeat' (first | assumption | refine Glob.setF ?_ (by (repeat' (first | assumption)); first | done | fail))) (by (repeat' (first | assumption | refine AHeap.get_fresh ‹_› ?_)); first | done | fail) ?_) | (show ROpS _ _ (.call 30 _) _ _ _; refine callPC rfl rfl c2 (by repeat' (first | assumption | refine Glob.setF ?_ (by (repeat' (first | assumption)); first | done | fail))) (by (repeat' (first | assumption | refine AHeap.get_fresh ‹_› ?_)); first | done | fail) (by repeat' (first | (apply AHeap.upd1; · exact (by first | assumption)) | exact rfl)) ?_) | (show ROpS _ _ (.call 80 _) _ _ _; refine callPC rfl rfl ci (by repeat' (first | assumption | refine Glob.setF ?_ (by (repeat' (first | assumption | refine AHeap.so ?_ ?_)); first | done | fail) | refine Glob.setP ?_ (by (repeat' (first | assumption)); first | done | fail))) (by (repeat' (first | assumption | exact AHeap.set_same _ _ _ | refine AHeap.so ?_ ?_)); first | done | fail) (by repeat' (first | exact AHeap.set_set _ _ _ _ | (apply AHeap.upd1; · exact (by first | assumption)))) ?_) | (show ROpS _ _ (.call 34 _) _ _ _; refine callPCU rfl rfl cd (by repeat' (first | assumption | refine Glob.setF ?_ (by (repeat' (first | assumption | refine AHeap.so ?_ ?_)); first | done | fail) | refine Glob.setP ?_ (by (repeat' (first | assumption)); first | done | fail))) (by (repeat' (first | assumption | exact AHeap.set_same _ _ _ | refine AHeap.get_fresh ‹_› ?_ | refine AHeap.so ?_ ?_)); first | done | fail) (by repeat' (first | exact AHeap.set_set _ _ _ _ | (apply AHeap.upd1; · exact (by first | assumption | exact AHeap.n5 ‹_›)))) (fun x => ?_)) | refine R.mv rfl ?_ | refine R.load (by decide) rfl (by (repeat' (first | exact AHeap.set_same _ _ _)); first | done | fail) rfl ?_ | refine R.alloc rfl (fun b hb => ?_) | refine R.buildSl rfl rfl rfl (by decide) ?_) | (refine S.op0 rfl ?_; first | refine S.storeN rfl rfl (by (repeat' (first | exact AHeap.set_same _ _ _ | refine AHeap.so ?_ ?_ | exact AHeap.n2 ‹_›)); first | done | fail) rfl rfl rfl (by rfl) rfl (by repeat' (first | exact AHeap.set_set _ _ _ _ | (apply AHeap.upd1; · exact (by first | exact AHeap.n1 ‹_›)))) ?_) | refine S.seq ?_ | refine S.region ?_ | refine S.condT rfl ?_ | refine S.condF rfl ?_ | refine RRun.block ?_)
    apply S.ret rr72
    case hx => repeat (first | exact ResAt.nil | apply ResAt.cellA rfl (by (repeat' (first | exact AHeap.set_same _ _ _ | refine AHeap.so ?_ ?_ | exact AHeap.n2 ‹_›)); first | done | fail) (by rfl))
    exact ⟨_, h.set p (.box (pst T fin (needP T fin s8 [[41]]))), ex_le (.refl _), (by repeat (first | exact AHeap.le.refl _ | refine AHeap.le.set ?_ _ (by (repeat' (first | assumption | exact AHeap.z2 ‹_› | refine AHeap.so ?_ ?_ | exact AHeap.n5 ‹_›)); first | done | fail))), rfl, rfl⟩
  rw [e]
  clear e
  simp only
  rcases take_cases (fin := fin) hTl st [99, 111, 117, 110, 116] with ⟨e, hlt, c3⟩ | ⟨e, c3⟩
  · rw [e]
    clear e tail
    have cd := need_spec (T := T) (fin := fin) hTl [[40], [42], [41]] (by decide) .full st.next
    simp only [Pa.opE, Pa.vz]
    repeat' (first | refine S.nilK ?_ | (refine S.op rfl ?_; first | (show ROpS _ _ (.call 30 [_, (.const (.string ⟨#[110, 117, 108, 108]⟩))]) _ _ _; refine callPC0 rfl rfl c1 (by repeat' (first | assumption | refine Glob.setF ?_ (by (repeat' (first | assumption)); first | done | fail))) (by (repeat' (first | assumption | refine AHeap.get_fresh ‹_› ?_)); first | done | fail) ?_) | (show ROpS _ _ (.call 30 [_, (.const (.string ⟨#[40]⟩))]) _ _ _; refine callPC0 rfl rfl c2 (by repeat' (first | assumption | refine Glob.setF ?_ (by (repeat' (first | assumption)); first | done | fail))) (by (repeat' (first | assumption | refine AHeap.get_fresh ‹_› ?_)); first | done | fail) ?_) | (show ROpS _ _ (.call 30 _) _ _ _; refine callPC rfl rfl c3 (by repeat' (first | assumption | refine Glob.setF ?_ (by (repeat' (first | assumption)); first | done | fail))) (by (repeat' (first | assumption | refine AHeap.get_fresh ‹_› ?_)); first | done | fail) (by repeat' (first | (apply AHeap.upd1; · exact (by first | assumption)) | exact rfl)) ?_) | (show ROpS _ _ (.call 34 _) _ _ _; refine callPCU rfl rfl cd (by repeat' (first | assumption | refine Glob.setF ?_ (by (repeat' (first | assumption | refine AHeap.so ?_ ?_)); first | done | fail) | refine Glob.setP ?_ (by (repeat' (first | assumption)); first | done | fail))) (by (repeat' (first | assumption | exact AHeap.set_same _ _ _ | refine AHeap.so ?_ ?_)); first | done | fail) (by repeat' (first | exact AHeap.set_set _ _ _ _ | (apply AHeap.upd1; · exact (by first | assumption)))) (fun x => ?_)) | refine R.mv rfl ?_ | refine R.build rfl rfl ?_ | refine R.buildSl rfl rfl rfl (by decide) ?_) | (refine S.op0 rfl ?_; first | refine S.storeN rfl rfl (by (repeat' (first | exact AHeap.set_same _ _ _)); first | done | fail) rfl rfl rfl (by rfl) rfl (by repeat' (first | exact AHeap.set_set _ _ _ _)) ?_) | refine S.seq ?_ | refine S.region ?_ | refine S.condT rfl ?_ | refine S.condF rfl ?_ | refine RRun.block ?_)
    apply S.ret rr72
    case hx => repeat (first | exact ResAt.nil | apply ResAt.cellA rfl (by (repeat' (first | exact AHeap.set_same _ _ _)); first | done | fail) (by rfl))
    exact ⟨_, h.set p (.box (pst T fin (needP T fin st.next [[40], [42], [41]]))), ex_le nil_le, (by repeat (first | exact AHeap.le.refl _ | refine AHeap.le.set ?_ _ (by (repeat' (first | assumption | refine AHeap.so ?_ ?_)); first | done | fail))), rfl, rfl⟩
  rw [e]
  clear e
  simp only
  repeat' (first | ((show RRun _ _ _ (.code r72u :: _) _ _ _; exact S.keep [0, 2, 3] rfl tail)) | refine S.nilK ?_ | (refine S.op rfl ?_; first | (show ROpS _ _ (.call 30 [_, (.const (.string ⟨#[110, 117, 108, 108]⟩))]) _ _ _; refine callPC0 rfl rfl c1 (by repeat' (first | assumption | refine Glob.setF ?_ (by (repeat' (first | assumption)); first | done | fail))) (by (repeat' (first | assumption | refine AHeap.get_fresh ‹_› ?_)); first | done | fail) ?_) | (show ROpS _ _ (.call 30 [_, (.const (.string ⟨#[40]⟩))]) _ _ _; refine callPC0 rfl rfl c2 (by repeat' (first | assumption | refine Glob.setF ?_ (by (repeat' (first | assumption)); first | done | fail))) (by (repeat' (first | assumption | refine AHeap.get_fresh ‹_› ?_)); first | done | fail) ?_) | (show ROpS _ _ (.call 30 _) _ _ _; refine callPC0 rfl rfl c3 (by repeat' (first | assumption | refine Glob.setF ?_ (by (repeat' (first | assumption)); first | done | fail))) (by (repeat' (first | assumption | refine AHeap.get_fresh ‹_› ?_)); first | done | fail) ?_) | refine R.mv rfl ?_) | refine S.seq ?_ | refine S.region ?_ | refine S.condF rfl ?_ | refine RRun.skip ?_ | refine RRun.block ?_ | refine RRun.inBlock ?_)
def primW (T : List Tok) (fin : Int) (n : Nat) (a : Int) (st : PS) : Pa.Ex × PS :=
  match kindP T st 1 with
  | (some t, st) =>
    match takeP T st [46] with
    | (true, st) => match nameP T fin st with
      | (nm, st) => (.mk 2 t.s nm 0 Pa.vz [], st)
    | (false, st) => (.mk 2 [] t.s 0 Pa.vz [], st)
  | (none, st) => primT T fin n a st
theorem prim_w (hT : TOk T) {n : Nat} (a : Int) (st : PS) (hi : st.i ≤ T.length) (hd : st.d ≤ 20)
    (hin : ∀ (s : PS), st.i < s.i → s.i ≤ T.length → s.d ≤ 20 → PC T fin 80 [i64 a] s (.ag (ev T fin n (.inner a) s).1.cells) (ev T fin n (.inner a) s).2)
    (p b2 : Nat) (h : AHeap) (hg : Glob h) (hp : h p = some (.box (pst T fin st))) (hb2 : h b2 = none) :
    RRun Try.prog Try.f72 102 [.code r72w] (Env.get [(0, ptr p), (2, ptr b2), (3, i64 a)]) (h.set b2 (.box exZ)) (Prims T fin h p (primW T fin n a st)) := by
  have np2 : p ≠ b2 := fun e => by subst e; rw [hb2] at hp; cases hp
  have n2p := Ne.symm np2
  have hTl := hT.len
  have tail := prim_t hT a st hi hd hin p b2 h hg hp hb2
  clear hin
  unfold r72w primW
  rcases kind_cases (fin := fin) hT st 1 with ⟨t, e, hlt, k1⟩ | ⟨e, k1⟩
  · rw [e]
    clear e tail
    simp only
    rcases take_cases (fin := fin) hTl st.next [46] with ⟨e, hlt2, ct⟩ | ⟨e, ct⟩
    · rw [e]
      clear e
      have cn := name_spec (fin := fin) hT st.next.next
      simp only [Pa.vz] at cn ⊢
      generalize nameP T fin st.next.next = r at cn ⊢
      obtain ⟨nm, s4⟩ := r
      repeat' (first | refine S.nilK ?_ | (refine S.op rfl ?_; first | (show ROpS _ _ (.call 51 [_, (.const (.int .i64 1))]) _ _ _; refine callPC rfl rfl k1 (by repeat' (first | assumption | refine Glob.setF ?_ (by (repeat' (first | assumption)); first | done | fail))) (by (repeat' (first | assumption | refine AHeap.get_fresh ‹_› ?_)); first | done | fail) (by repeat' (first | (apply AHeap.upd1; · exact (by first | assumption)) | exact rfl)) ?_) | (show ROpS _ _ (.call 30 _) _ _ _; refine callPC rfl rfl ct (by repeat' (first | assumption | refine Glob.setF ?_ (by (repeat' (first | assumption | refine AHeap.so ?_ ?_)); first | done | fail) | refine Glob.setP ?_ (by (repeat' (first | assumption)); first | done | fail))) (by (repeat' (first | assumption | exact AHeap.set_same _ _ _ | refine AHeap.get_fresh ‹_› ?_ | refine AHeap.so ?_ ?_)); first | done | fail) (by repeat' (first | exact AHeap.set_set _ _ _ _ | (apply AHeap.upd1; · exact (by first | assumption | exact AHeap.n5 ‹_›)))) ?_) | (show ROpS _ _ (.call 35 _) _ _ _; refine callPC rfl rfl cn (by repeat' (first | assumption | refine Glob.setF ?_ (by (repeat' (first | assumption | exact AHeap.z2 ‹_› | refine AHeap.so ?_ ?_ | exact AHeap.n1 ‹_› | exact AHeap.n5 ‹_›)); first | done | fail) | refine Glob.setP ?_ (by (repeat' (first | assumption)); first | done | fail))) (by (repeat' (first | assumption | exact AHeap.set_same _ _ _ | refine AHeap.so ?_ ?_ | exact AHeap.n6 ‹_›)); first | done | fail) (by repeat' (first | exact AHeap.set_set _ _ _ _ | (apply AHeap.upd1; · exact (by first | assumption | exact AHeap.n5 ‹_›)))) ?_) | refine R.mv rfl ?_ | refine R.fieldAddr rfl ?_ | refine R.load (by decide) rfl (by (repeat' (first | exact AHeap.set_same _ _ _)); first | done | fail) rfl ?_ | refine R.extract rfl rfl ?_ | refine R.alloc rfl (fun b hb => ?_) | refine R.build rfl rfl ?_) | (refine S.op0 rfl ?_; first | refine S.storeN rfl rfl (by (repeat' (first | exact AHeap.set_same _ _ _ | refine AHeap.so ?_ ?_ | exact AHeap.n2 ‹_›)); first | done | fail) rfl rfl rfl (by rfl) rfl (by repeat' (first | exact AHeap.set_set _ _ _ _ | (apply AHeap.upd1; · exact (by first | exact AHeap.n1 ‹_›)))) ?_) | refine S.seq ?_ | refine S.region ?_ | refine S.regionT ?_ | refine S.talt ?_ ?_ | exact S.tstop | refine S.tdone ?_ | refine S.condT rfl ?_)
      all_goals
        apply S.ret rr72
        case hx => repeat (first | exact ResAt.nil | apply ResAt.cellA rfl (by (repeat' (first | exact AHeap.set_same _ _ _ | refine AHeap.so ?_ ?_ | exact AHeap.n2 ‹_›)); first | done | fail) (by rfl))
        exact ⟨_, h.set p (.box (pst T fin s4)), ex_le nil_le, (by repeat (first | exact AHeap.le.refl _ | refine AHeap.le.set ?_ _ (by (repeat' (first | assumption | exact AHeap.z2 ‹_› | refine AHeap.so ?_ ?_ | exact AHeap.n5 ‹_›)); first | done | fail))), rfl, rfl⟩
    · rw [e]
      clear e
      simp only [Pa.vz]
      repeat' (first | refine S.nilK ?_ | (refine S.op rfl ?_; first | (show ROpS _ _ (.call 51 [_, (.const (.int .i64 1))]) _ _ _; refine callPC rfl rfl k1 (by repeat' (first | assumption | refine Glob.setF ?_ (by (repeat' (first | assumption)); first | done | fail))) (by (repeat' (first | assumption | refine AHeap.get_fresh ‹_› ?_)); first | done | fail) (by repeat' (first | (apply AHeap.upd1; · exact (by first | assumption)) | exact rfl)) ?_) | (show ROpS _ _ (.call 30 _) _ _ _; refine callPC0 rfl rfl ct (by repeat' (first | assumption | refine Glob.setF ?_ (by (repeat' (first | assumption | refine AHeap.so ?_ ?_)); first | done | fail) | refine Glob.setP ?_ (by (repeat' (first | assumption)); first | done | fail))) (by (repeat' (first | assumption | exact AHeap.set_same _ _ _ | refine AHeap.get_fresh ‹_› ?_ | refine AHeap.so ?_ ?_)); first | done | fail) ?_) | refine R.mv rfl ?_ | refine R.fieldAddr rfl ?_ | refine R.load (by decide) rfl (by (repeat' (first | exact AHeap.set_same _ _ _)); first | done | fail) rfl ?_ | refine R.extract rfl rfl ?_ | refine R.alloc rfl (fun b hb => ?_) | refine R.build rfl rfl ?_) | (refine S.op0 rfl ?_; first | refine S.storeN rfl rfl (by (repeat' (first | exact AHeap.set_same _ _ _ | refine AHeap.get_fresh ‹_› ?_)); first | done | fail) rfl rfl rfl (by rfl) rfl (by repeat' (first | exact AHeap.set_set _ _ _ _ | (apply AHeap.upd1; · exact (by first | exact AHeap.n1 ‹_›)))) ?_) | refine S.seq ?_ | refine S.region ?_ | refine S.condT rfl ?_ | refine S.condF rfl ?_ | refine RRun.skip ?_)
      apply S.ret rr72
      case hx => repeat (first | exact ResAt.nil | apply ResAt.cellA rfl (by (repeat' (first | exact AHeap.set_same _ _ _ | refine AHeap.so ?_ ?_ | exact AHeap.n2 ‹_›)); first | done | fail) (by rfl))
      exact ⟨_, h.set p (.box (pst T fin st.next)), ex_le nil_le, (by repeat (first | exact AHeap.le.refl _ | refine AHeap.le.set ?_ _ (by (repeat' (first | assumption | exact AHeap.z1 ‹_› | refine AHeap.so ?_ ?_)); first | done | fail))), rfl, rfl⟩
  rw [e]
  clear e
  simp only
  repeat' (first | ((show RRun _ _ _ (.code r72t :: _) _ _ _; exact S.keep [0, 2, 3] rfl (S.drop (by repeat (first | exact AHeap.le.refl _ | refine AHeap.le.set ?_ _ (by (repeat' (first | assumption)); first | done | fail))) tail))) | refine S.nilK ?_ | (refine S.op rfl ?_; first | (show ROpS _ _ (.call 51 [_, (.const (.int .i64 1))]) _ _ _; refine callPC0 rfl rfl k1 (by repeat' (first | assumption | refine Glob.setF ?_ (by (repeat' (first | assumption)); first | done | fail))) (by (repeat' (first | assumption | refine AHeap.get_fresh ‹_› ?_)); first | done | fail) ?_) | refine R.mv rfl ?_ | refine R.extract rfl rfl ?_ | refine R.alloc rfl (fun b hb => ?_)) | (refine S.op0 rfl ?_; first | refine S.storeN rfl rfl (by (repeat' (first | exact AHeap.set_same _ _ _)); first | done | fail) rfl rfl rfl (by rfl) rfl (by repeat' (first | exact AHeap.set_set _ _ _ _)) ?_) | refine S.seq ?_ | refine S.region ?_ | refine S.condF rfl ?_ | refine RRun.skip ?_)
theorem primary_does (hT : TOk T) {n : Nat} (ih : Does T fin n) (st : PS) (hi : st.i ≤ T.length) (hd : st.d ≤ 20) (hr : 16 * (T.length - st.i) + hgt .primary ≤ n + 1) :
    PC T fin 72 [] st (.ag (ev T fin (n + 1) .primary st).1.cells) (ev T fin (n + 1) .primary st).2 := by
  intro p h ⟨hg, hp⟩
  obtain ⟨c', hc1, hc2⟩ := res72
  refine ACalls.weak (ACalls.enter Try.func72 hc1 Try.ntmps72 hc2 (Nat.le_of_ble_eq_true rfl) rfl ?_)
  have hr' : 16 * (T.length - st.i) + 1 ≤ n + 1 := hr
  have hTl := hT.len
  have cat := at_spec (T := T) (fin := fin) st
  have hin : ∀ (a : Int) (s : PS), st.i < s.i → s.i ≤ T.length → s.d ≤ 20 → PC T fin 80 [i64 a] s (.ag (ev T fin n (.inner a) s).1.cells) (ev T fin n (.inner a) s).2 :=
    fun a s h1 h2 h3 => ih (.inner a) s trivial h2 h3 (by show 16 * (T.length - s.i) + 13 ≤ n; omega)
  rw [ev, Pa.primaryP, bs_dot, bs_null, bs_open, bs_count, bs_close, bs_star, Pa.aggs_eq]
  simp only
  generalize atP T fin st = a at cat ⊢
  have tail := fun b2 hb2 => prim_w hT a st hi hd (hin a) p b2 h hg hp hb2
  clear ih hin
  rcases kind_cases (fin := fin) hT st 2 with ⟨t, e, hlt, k2⟩ | ⟨e, k2⟩
  · rw [e]
    clear e tail
    have cl := literal_spec ⟨1, t.n, []⟩
    simp only [Pa.lit] at cl ⊢
    rw [Pa.Ex.cells_mk] at cl
    repeat' (first | refine S.nilK ?_ | (refine S.op rfl ?_; first | (show ROpS _ _ (.call 21 _) _ _ _; refine callPC0 rfl rfl cat (by repeat' (first | assumption | refine Glob.setF ?_ (by (repeat' (first | assumption)); first | done | fail))) (by (repeat' (first | assumption | refine AHeap.get_fresh ‹_› ?_)); first | done | fail) ?_) | (show ROpS _ _ (.call 51 [_, (.const (.int .i64 2))]) _ _ _; refine callPC rfl rfl k2 (by repeat' (first | assumption | refine Glob.setF ?_ (by (repeat' (first | assumption)); first | done | fail))) (by (repeat' (first | assumption | refine AHeap.get_fresh ‹_› ?_)); first | done | fail) (by repeat' (first | (apply AHeap.upd1; · exact (by first | exact AHeap.n4 ‹_› ‹_›)) | exact rfl)) ?_) | (show ROpS _ _ (.call 45 _) _ _ _; refine callN rfl rfl (cl _) rfl ?_) | refine R.mv rfl ?_ | refine R.fieldAddr rfl ?_ | refine R.load (by decide) rfl (by (repeat' (first | exact AHeap.set_same _ _ _)); first | done | fail) rfl ?_ | refine R.extract rfl rfl ?_ | refine R.alloc rfl (fun b hb => ?_) | refine R.build rfl rfl ?_) | (refine S.op0 rfl ?_; first | refine S.storeN rfl rfl (by (repeat' (first | exact AHeap.set_same _ _ _ | refine AHeap.get_fresh ‹_› ?_)); first | done | fail) rfl rfl rfl (by rfl) rfl (by repeat' (first | exact AHeap.set_set _ _ _ _ | (apply AHeap.upd1; · exact (by first | exact AHeap.n1 ‹_›)))) ?_) | refine S.seq ?_ | refine S.region ?_ | refine S.condT rfl ?_)
    apply S.ret rr72
    case hx => repeat (first | exact ResAt.nil | apply ResAt.cellA rfl (by (repeat' (first | exact AHeap.set_same _ _ _ | refine AHeap.so ?_ ?_ | exact AHeap.n2 ‹_›)); first | done | fail) (by rfl))
    exact ⟨_, h.set p (.box (pst T fin st.next)), ex_le (.refl _), (by repeat (first | exact AHeap.le.refl _ | refine AHeap.le.set ?_ _ (by (repeat' (first | assumption | exact AHeap.z1 ‹_› | refine AHeap.so ?_ ?_ | exact AHeap.n4 ‹_› ‹_›)); first | done | fail))), rfl, rfl⟩
  rw [e]
  clear e
  simp only
  rcases kind_cases (fin := fin) hT st 3 with ⟨t, e, hlt, k3⟩ | ⟨e, k3⟩
  · rw [e]
    clear e tail
    have cl := literal_spec ⟨2, 0, t.s⟩
    simp only [Pa.lit] at cl ⊢
    rw [Pa.Ex.cells_mk] at cl
    repeat' (first | refine S.nilK ?_ | (refine S.op rfl ?_; first | (show ROpS _ _ (.call 21 _) _ _ _; refine callPC0 rfl rfl cat (by repeat' (first | assumption | refine Glob.setF ?_ (by (repeat' (first | assumption)); first | done | fail))) (by (repeat' (first | assumption | refine AHeap.get_fresh ‹_› ?_)); first | done | fail) ?_) | (show ROpS _ _ (.call 51 [_, (.const (.int .i64 2))]) _ _ _; refine callPC0 rfl rfl k2 (by repeat' (first | assumption | refine Glob.setF ?_ (by (repeat' (first | assumption)); first | done | fail))) (by (repeat' (first | assumption | refine AHeap.get_fresh ‹_› ?_)); first | done | fail) ?_) | (show ROpS _ _ (.call 51 [_, (.const (.int .i64 3))]) _ _ _; refine callPC rfl rfl k3 (by repeat' (first | assumption | refine Glob.setF ?_ (by (repeat' (first | assumption)); first | done | fail))) (by (repeat' (first | assumption | refine AHeap.get_fresh ‹_› ?_)); first | done | fail) (by repeat' (first | (apply AHeap.upd1; · exact (by first | exact AHeap.n4 ‹_› ‹_› | exact AHeap.n8 ‹_› ‹_›)) | exact rfl)) ?_) | (show ROpS _ _ (.call 45 _) _ _ _; refine callN rfl rfl (cl _) rfl ?_) | refine R.mv rfl ?_ | refine R.fieldAddr rfl ?_ | refine R.load (by decide) rfl (by (repeat' (first | exact AHeap.set_same _ _ _)); first | done | fail) rfl ?_ | refine R.extract rfl rfl ?_ | refine R.alloc rfl (fun b hb => ?_) | refine R.build rfl rfl ?_) | (refine S.op0 rfl ?_; first | refine S.storeN rfl rfl (by (repeat' (first | exact AHeap.set_same _ _ _ | refine AHeap.get_fresh ‹_› ?_ | refine AHeap.so ?_ ?_ | exact AHeap.n2 ‹_›)); first | done | fail) rfl rfl rfl (by rfl) rfl (by repeat' (first | exact AHeap.set_set _ _ _ _ | (apply AHeap.upd1; · exact (by first | exact AHeap.n1 ‹_› | exact AHeap.n5 ‹_›)))) ?_) | refine S.seq ?_ | refine S.region ?_ | refine S.condT rfl ?_ | refine S.condF rfl ?_ | refine RRun.skip ?_)
    apply S.ret rr72
    case hx => repeat (first | exact ResAt.nil | apply ResAt.cellA rfl (by (repeat' (first | exact AHeap.set_same _ _ _ | refine AHeap.so ?_ ?_ | exact AHeap.n2 ‹_› | exact AHeap.n6 ‹_›)); first | done | fail) (by rfl))
    exact ⟨_, h.set p (.box (pst T fin st.next)), ex_le (.refl _), (by repeat (first | exact AHeap.le.refl _ | refine AHeap.le.set ?_ _ (by (repeat' (first | assumption | exact AHeap.z1 ‹_› | exact AHeap.z2 ‹_› | refine AHeap.so ?_ ?_ | exact AHeap.n4 ‹_› ‹_› | exact AHeap.n8 ‹_› ‹_›)); first | done | fail))), rfl, rfl⟩
  rw [e]
  clear e
  simp only
  repeat' (first | ((show RRun _ _ _ (.code r72w :: _) _ _ _; exact S.keep [0, 2, 3] rfl (S.drop (by repeat (first | exact AHeap.le.refl _ | refine AHeap.le.set ?_ _ (by (repeat' (first | assumption | exact AHeap.z1 ‹_›)); first | done | fail))) (tail _ ‹h _ = none›)))) | refine S.nilK ?_ | (refine S.op rfl ?_; first | (show ROpS _ _ (.call 21 _) _ _ _; refine callPC0 rfl rfl cat (by repeat' (first | assumption | refine Glob.setF ?_ (by (repeat' (first | assumption)); first | done | fail))) (by (repeat' (first | assumption | refine AHeap.get_fresh ‹_› ?_)); first | done | fail) ?_) | (show ROpS _ _ (.call 51 [_, (.const (.int .i64 2))]) _ _ _; refine callPC0 rfl rfl k2 (by repeat' (first | assumption | refine Glob.setF ?_ (by (repeat' (first | assumption)); first | done | fail))) (by (repeat' (first | assumption | refine AHeap.get_fresh ‹_› ?_)); first | done | fail) ?_) | (show ROpS _ _ (.call 51 [_, (.const (.int .i64 3))]) _ _ _; refine callPC0 rfl rfl k3 (by repeat' (first | assumption | refine Glob.setF ?_ (by (repeat' (first | assumption)); first | done | fail))) (by (repeat' (first | assumption | refine AHeap.get_fresh ‹_› ?_)); first | done | fail) ?_) | refine R.mv rfl ?_ | refine R.extract rfl rfl ?_ | refine R.alloc rfl (fun b hb => ?_)) | (refine S.op0 rfl ?_; first | refine S.storeN rfl rfl (by (repeat' (first | exact AHeap.set_same _ _ _)); first | done | fail) rfl rfl rfl (by rfl) rfl (by repeat' (first | exact AHeap.set_set _ _ _ _)) ?_) | refine S.seq ?_ | refine S.region ?_ | refine S.condF rfl ?_ | refine RRun.skip ?_)
end
end Go.Proofs.Ytdinnoejipmiiaa

namespace Go.Proofs.Ytdinnoejipmiiaa
open Go.Av
open Go.Av.Pa (PS atP isP wrongP takeP needP kindP nameP opsP operatorP enterP ev exprP expressionP)
section
variable {T : List Tok} {fin : Int}
theorem does (hT : TOk T) : ∀ n, Does T fin n
  | 0 => fun fn st hok hi hd hr => by
    exfalso
    have : 0 < hgt fn := by
      cases fn with
      | left lv => simp only [hgt]; split <;> (try split) <;> (try split) <;> omega
      | below lv => simp only [hgt]; split <;> (try split) <;> (try split) <;> omega
      | _ => simp [hgt]
    omega
  | n + 1 => fun fn st hok hi hd hr => by
    have ih := does hT n
    cases fn with
    | left lv => exact left_does hT.len ih lv hok st hi hd hr
    | below lv => exact below_does ih lv hok st hi hd hr
    | not => exact not_does hT.len ih st hi hd hr
    | compare => exact compare_does hT.len ih st hi hd hr
    | minus => exact minus_does hT.len ih st hi hd hr
    | primary => exact primary_does hT ih st hi hd hr
    | inner a => exact inner_does ih (fun st h1 h2 h3 => expr12 (ih (.left 0) st (.inl rfl) h1 h2 (by simpa [hgt] using h3))) a st hi hd hr
theorem expr_spec (hT : TOk T) (st : PS) (hi : st.i ≤ T.length) (hd : st.d ≤ 20) : PC T fin 12 [] st (.ag (exprP T fin st).1.cells) (exprP T fin st).2 :=
  expr12 (does hT _ (.left 0) st (.inl rfl) hi hd (by show 16 * (T.length - st.i) + 12 ≤ 16 * T.length + 40; omega))
theorem expr_facts {st : PS} (hi : st.i ≤ T.length) {e : Pa.Ex} {s : PS} (h : exprP T fin st = (e, s)) : st.i ≤ s.i ∧ s.i ≤ T.length ∧ s.d = st.d := ev_facts hi h
end
def lexed (s : List UInt8) : List Tok × Int × Int := match (cutS s).2 with
  | none => ((cutS s).1, 0, 0)
  | some (e, pos) => ([], pos, e)
theorem lexed_ans (s : List UInt8) : allAns (cutS s) = .tu [toksA (lexed s).1 .ro, i64 (lexed s).2.1, i64 (lexed s).2.2] := by
  unfold allAns lexed
  cases (cutS s).2 with
  | none => rfl
  | some p => rfl
def st0 (s : List UInt8) : PS := ⟨0, (lexed s).2.1, (lexed s).2.2, 0⟩
def r11 : RCode :=
  (.seq (.region [
    ⟨(some 2), none, .act, .mv (.const (.pointer none))⟩])
  (.seq (.region [
    ⟨(some 7), none, .act, .mv (.tmp 0)⟩,
    ⟨(some 8), none, .act, .call 18 [(.tmp 7)]⟩,
    ⟨(some 6), none, .act, .mv (.tmp 8)⟩,
    ⟨(some 9), none, .act, .extract (.tmp 6) 0⟩,
    ⟨(some 10), none, .act, .extract (.tmp 6) 1⟩,
    ⟨(some 11), none, .act, .extract (.tmp 6) 2⟩,
    ⟨(some 3), none, .act, .mv (.tmp 9)⟩,
    ⟨(some 4), none, .act, .mv (.tmp 10)⟩,
    ⟨(some 5), none, .act, .mv (.tmp 11)⟩])
  (.seq (.region [
    ⟨(some 12), none, .act, .mv (.tmp 3)⟩,
    ⟨(some 13), none, .act, .mv (.tmp 0)⟩,
    ⟨(some 14), none, .act, .lenStr (.tmp 13)⟩,
    ⟨(some 15), none, .act, .mv (.tmp 4)⟩,
    ⟨(some 16), none, .act, .mv (.tmp 5)⟩,
    ⟨(some 17), none, .act, .build [(.int .i64 0), (.int .i64 0)] [(0, 1, (.tmp 15)), (1, 1, (.tmp 16))]⟩,
    ⟨(some 18), none, .act, .build [(.slice none 0 0), (.int .i64 0), (.int .i64 0), (.int .i64 0), (.int .i64 0), (.int .i64 0)] [(0, 1, (.tmp 12)), (2, 1, (.tmp 14)), (3, 2, (.tmp 17))]⟩,
    ⟨(some 19), none, .act, .box (.tmp 18)⟩,
    ⟨(some 2), none, .act, .mv (.tmp 19)⟩])
  .ret)))
theorem res11 : ∃ c, Try.f11.body = some c ∧ resCode Try.prog 20 c = some r11 := ⟨_, rfl, by kernel_rfl⟩
theorem rr11 : resRes Try.prog Try.f11.results.toList = some [.tmp 2] := by kernel_rfl
theorem newParser_spec (s : List UInt8) (hs : s.length ≤ 2000000) (h : AHeap) : ACalls Try.prog 11 [str s] h (fun x h' => ∃ p, h p = none ∧ x = ptr p ∧ h' = h.set p (.box (pst (lexed s).1 s.length (st0 s)))) := by
  obtain ⟨c', hc1, hc2⟩ := res11
  refine ACalls.enter Try.func11 hc1 Try.ntmps11 hc2 (Nat.le_of_ble_eq_true rfl) rfl ?_
  have ca := fun h => all_spec s hs h
  rw [lexed_ans] at ca
  have hst : st0 s = ⟨0, (lexed s).2.1, (lexed s).2.2, 0⟩ := rfl
  rw [hst]
  generalize lexed s = r at ca ⊢
  obtain ⟨T, a, e⟩ := r
  unfold toksA at ca
  repeat' (first | refine S.nilK ?_ | (refine S.op rfl ?_; first | (show ROpS _ _ (.call 18 _) _ _ _; refine callN rfl rfl (ca _) rfl ?_) | refine S.lenS rfl ?_ | refine R.mv rfl ?_ | refine R.extract rfl rfl ?_ | refine R.box rfl rfl rfl (fun b hb => ?_) | refine R.build rfl rfl ?_) | refine S.seq ?_ | refine S.region ?_)
  apply S.ret rr11
  case hx => repeat (first | exact ResAt.nil | apply ResAt.tmp rfl)
  exact ⟨b, hb, rfl, rfl⟩
def r6 : RCode :=
  (.seq (.region [
    ⟨(some 2), none, .act, .alloc [(.int .i64 0), (.string ⟨#[]⟩), (.string ⟨#[]⟩), (.int .i64 0), (.int .i64 0), (.int .i64 0), (.string ⟨#[]⟩), (.slice none 0 0)]⟩,
    ⟨(some 3), none, .act, .mv (.const (.int .i64 0))⟩,
    ⟨(some 4), none, .act, .mv (.const (.int .i64 0))⟩])
  (.seq (.region [
    ⟨(some 7), none, .act, .mv (.tmp 0)⟩,
    ⟨(some 8), none, .act, .call 11 [(.tmp 7)]⟩,
    ⟨(some 5), none, .act, .mv (.tmp 8)⟩])
  (.seq (.region [
    ⟨(some 9), none, .act, .mv (.tmp 5)⟩,
    ⟨(some 10), none, .act, .call 12 [(.tmp 9)]⟩,
    ⟨(some 6), none, .act, .alloc [(.int .i64 0), (.string ⟨#[]⟩), (.string ⟨#[]⟩), (.int .i64 0), (.int .i64 0), (.int .i64 0), (.string ⟨#[]⟩), (.slice none 0 0)]⟩,
    ⟨none, none, .act, .store 8 (.tmp 6) (.tmp 10)⟩])
  (.seq (.seq (.region [
    ⟨(some 11), none, .pure, .mv (.tmp 5)⟩,
    ⟨(some 12), none, .pure, .nilCheck (.tmp 11)⟩,
    ⟨(some 13), none, .pure, .fieldAddr 1 (.tmp 12)⟩,
    ⟨(some 14), none, .read, .load false 1 (.tmp 13)⟩,
    ⟨(some 15), none, .pure, .mv (.tmp 5)⟩,
    ⟨(some 16), none, .pure, .nilCheck (.tmp 15)⟩,
    ⟨(some 17), none, .pure, .fieldAddr 0 (.tmp 16)⟩,
    ⟨(some 18), none, .read, .load false 1 (.tmp 17)⟩,
    ⟨(some 19), none, .pure, .len (.tmp 18)⟩,
    ⟨(some 20), none, .pure, .bin .lss (.tmp 14) (.tmp 19)⟩])
  (.cond (.tmp 20)
   (.region [
     ⟨(some 21), none, .act, .mv (.tmp 5)⟩,
     ⟨(some 22), none, .act, .call 13 [(.tmp 21)]⟩])
   .skip))
  (.seq (.seq (.region [
    ⟨(some 23), none, .act, .mv (.tmp 5)⟩,
    ⟨(some 24), none, .act, .call 14 [(.tmp 23)]⟩,
    ⟨(some 25), none, .act, .un .not (.tmp 24)⟩])
  (.cond (.tmp 25)
   (.seq (.regionT (.step ⟨(some 26), none, .pure, .build [(.int .i64 0), (.string ⟨#[]⟩), (.string ⟨#[]⟩), (.int .i64 0), (.int .i64 0), (.int .i64 0), (.string ⟨#[]⟩), (.slice none 0 0)] []⟩ (.step ⟨(some 27), none, .pure, .mv (.tmp 5)⟩ (.step ⟨(some 28), none, .pure, .nilCheck (.tmp 27)⟩ (.step ⟨(some 29), none, .pure, .fieldAddr 3 (.tmp 28)⟩ (.step ⟨(some 30), none, .pure, .fieldAddr 0 (.tmp 29)⟩ (.step ⟨(some 32), none, .pure, .mv (.tmp 5)⟩ (.step ⟨(some 33), none, .pure, .nilCheck (.tmp 32)⟩ (.step ⟨(some 34), none, .pure, .fieldAddr 3 (.tmp 33)⟩ (.step ⟨(some 35), none, .pure, .fieldAddr 1 (.tmp 34)⟩ (.alt ⟨(some 31), none, .read, .load false 1 (.tmp 30)⟩ (.alt ⟨(some 36), none, .read, .load false 1 (.tmp 35)⟩ (.alt ⟨none, none, .act, .store 8 (.tmp 2) (.tmp 26)⟩ (.step ⟨(some 3), none, .pure, .mv (.tmp 31)⟩ (.step ⟨(some 4), none, .pure, .mv (.tmp 36)⟩ .done))
    .stop)
    (.alt ⟨none, none, .act, .store 8 (.tmp 2) (.tmp 26)⟩ (.step ⟨(some 36), none, .read, .load false 1 (.tmp 35)⟩ (.step ⟨(some 3), none, .pure, .mv (.tmp 31)⟩ (.step ⟨(some 4), none, .pure, .mv (.tmp 36)⟩ .done)))
    .stop))
    (.alt ⟨(some 36), none, .read, .load false 1 (.tmp 35)⟩ (.alt ⟨(some 31), none, .read, .load false 1 (.tmp 30)⟩ (.alt ⟨none, none, .act, .store 8 (.tmp 2) (.tmp 26)⟩ (.step ⟨(some 3), none, .pure, .mv (.tmp 31)⟩ (.step ⟨(some 4), none, .pure, .mv (.tmp 36)⟩ .done))
    .stop)
    (.alt ⟨none, none, .act, .store 8 (.tmp 2) (.tmp 26)⟩ (.step ⟨(some 31), none, .read, .load false 1 (.tmp 30)⟩ (.step ⟨(some 3), none, .pure, .mv (.tmp 31)⟩ (.step ⟨(some 4), none, .pure, .mv (.tmp 36)⟩ .done)))
    .stop))
    (.alt ⟨none, none, .act, .store 8 (.tmp 2) (.tmp 26)⟩ (.step ⟨(some 31), none, .read, .load false 1 (.tmp 30)⟩ (.step ⟨(some 36), none, .read, .load false 1 (.tmp 35)⟩ (.step ⟨(some 3), none, .pure, .mv (.tmp 31)⟩ (.step ⟨(some 4), none, .pure, .mv (.tmp 36)⟩ .done))))
    .stop)))))))))))))
   .ret)
   .skip))
  (.seq (.region [
    ⟨(some 37), none, .act, .load true 8 (.tmp 6)⟩,
    ⟨none, none, .act, .store 8 (.tmp 2) (.tmp 37)⟩,
    ⟨(some 3), none, .act, .mv (.const (.int .i64 0))⟩,
    ⟨(some 4), none, .act, .mv (.const (.int .i64 0))⟩])
  .ret))))))
theorem res6 : ∃ c, Try.f6.body = some c ∧ resCode Try.prog 38 c = some r6 := ⟨_, rfl, by kernel_rfl⟩
theorem rr6 : resRes Try.prog Try.f6.results.toList = some [.cell 2 true 8, .tmp 3, .tmp 4] := by kernel_rfl
theorem expression_spec (s : List UInt8) (hs : s.length ≤ 2000000) (hT : TOk (lexed s).1) (h : AHeap) (hg : Glob h) :
    ACalls Try.prog 6 [str s] h (fun x h' => x = .tu [.ag (expressionP (lexed s).1 s.length (st0 s)).1.cells, i64 (expressionP (lexed s).1 s.length (st0 s)).2.1, i64 (expressionP (lexed s).1 s.length (st0 s)).2.2] ∧ h' = h) := by
  obtain ⟨c', hc1, hc2⟩ := res6
  refine ACalls.weak (ACalls.enter Try.func6 hc1 Try.ntmps6 hc2 (Nat.le_of_ble_eq_true rfl) rfl ?_)
  have cn := fun h => newParser_spec s hs h
  unfold expressionP
  have hi0 : (st0 s).i ≤ (lexed s).1.length := Nat.zero_le _
  have hd0 : (st0 s).d ≤ 20 := Nat.zero_le _
  generalize st0 s = st at *
  generalize (lexed s).1 = T at *
  generalize (s.length : Int) = fin at *
  have ce := expr_spec (fin := fin) hT st hi0 hd0
  cases he : exprP T fin st with
  | mk e s1 =>
  obtain ⟨f1, f2, f3⟩ := expr_facts hi0 he
  rw [he] at ce
  clear he
  obtain ⟨op1, t1, nm1, m1, ⟨vk1, vn1, vs1⟩, ar1⟩ := e
  rw [Pa.Ex.cells_mk] at ce
  dsimp only at ce
  have cw := wrong_spec (T := T) (fin := fin) s1
  have hwi : (wrongP T fin s1).i = s1.i := Pa.wrong_i s1
  simp only
  have hlen : (T.map Pa.Tok.cells).length = T.length := by simp
  repeat' (first | refine S.nilK ?_ | (refine S.op rfl ?_; first | refine R.mv rfl ?_ | refine R.alloc rfl (fun b hb => ?_)) | refine S.seq ?_ | refine S.region ?_)
  refine S.op rfl (R.call rfl rfl ((cn _).mono ?_))
  rintro x h' ⟨p, hpn, rfl, rfl⟩
  by_cases hmore : s1.i < T.length
  · rw [if_pos hmore]
    have c14 := ok_spec (T := T) (fin := fin) (wrongP T fin s1)
    generalize wrongP T fin s1 = s2 at *
    generalize s2.good = gd at c14 ⊢
    cases gd with
    | true =>
      simp only [if_true]
      repeat' (first | refine S.nilK ?_ | (refine S.op rfl ?_; first | (show ROpS _ _ (.call 12 _) _ _ _; refine callPC rfl rfl ce (by repeat' (first | assumption | refine Glob.setF ?_ (by (repeat' (first | assumption)); first | done | fail))) (by (repeat' (first | exact AHeap.set_same _ _ _)); first | done | fail) (by repeat' (first | exact AHeap.set_set _ _ _ _)) ?_) | (show ROpS _ _ (.call 13 _) _ _ _; refine callPCU rfl rfl cw (by repeat' (first | assumption | refine Glob.setF ?_ (by (repeat' (first | assumption)); first | done | fail))) (by (repeat' (first | exact AHeap.set_same _ _ _ | refine AHeap.get_fresh ‹_› ?_)); first | done | fail) (by repeat' (first | exact AHeap.set_set _ _ _ _ | (apply AHeap.upd1; · exact (by first | exact AHeap.n1 ‹_›)))) (fun x => ?_)) | (show ROpS _ _ (.call 14 _) _ _ _; refine callPC0 rfl rfl c14 (by repeat' (first | assumption | refine Glob.setF ?_ (by (repeat' (first | assumption | exact AHeap.z1 ‹_› | refine AHeap.so ?_ ?_ | exact AHeap.n1 ‹_›)); first | done | fail))) (by (repeat' (first | exact AHeap.set_same _ _ _ | refine AHeap.so ?_ ?_ | exact AHeap.n2 ‹_›)); first | done | fail) ?_) | refine R.mv rfl ?_ | refine R.fieldAddr rfl ?_ | refine R.nilCheck rfl ?_ | refine R.load (by decide) rfl (by (repeat' (first | exact AHeap.set_same _ _ _ | refine AHeap.get_fresh ‹_› ?_)); first | done | fail) rfl ?_ | refine R.len rfl ?_ | refine R.not rfl ?_ | refine R.alloc rfl (fun b hb => ?_) | ((first | refine S.lss rfl rfl ?_ ?_) <;> intro hlt <;> try (exfalso; omega))) | (refine S.op0 rfl ?_; first | refine S.storeN rfl rfl (by (repeat' (first | exact AHeap.set_same _ _ _ | refine AHeap.get_fresh ‹_› ?_ | refine AHeap.so ?_ ?_ | exact AHeap.n6 ‹_›)); first | done | fail) rfl rfl rfl (by rfl) rfl (by repeat' (first | exact AHeap.set_set _ _ _ _ | (apply AHeap.upd1; · exact (by first | exact AHeap.n1 ‹_› | exact AHeap.n5 ‹_›)))) ?_) | refine S.seq ?_ | refine S.region ?_ | refine S.condT rfl ?_ | refine S.condF rfl ?_ | refine RRun.skip ?_)
      apply S.ret rr6
      case hx => repeat (first | exact ResAt.nil | apply ResAt.tmp rfl | apply ResAt.cellA rfl (by (repeat' (first | exact AHeap.set_same _ _ _ | refine AHeap.so ?_ ?_ | exact AHeap.n2 ‹_› | exact AHeap.n6 ‹_›)); first | done | fail) (by rfl))
      exact ⟨_, h, .tu (.cons (ex_le (.refl _)) (.refl _)), (by repeat (first | exact AHeap.le.refl _ | refine AHeap.le.set ?_ _ (by (repeat' (first | assumption | exact AHeap.z1 ‹_› | exact AHeap.z2 ‹_›)); first | done | fail))), rfl, rfl⟩
    | false =>
      simp only [Bool.false_eq_true, if_false]
      repeat' (first | refine S.nilK ?_ | (refine S.op rfl ?_; first | (show ROpS _ _ (.call 12 _) _ _ _; refine callPC rfl rfl ce (by repeat' (first | assumption | refine Glob.setF ?_ (by (repeat' (first | assumption)); first | done | fail))) (by (repeat' (first | exact AHeap.set_same _ _ _)); first | done | fail) (by repeat' (first | exact AHeap.set_set _ _ _ _)) ?_) | (show ROpS _ _ (.call 13 _) _ _ _; refine callPCU rfl rfl cw (by repeat' (first | assumption | refine Glob.setF ?_ (by (repeat' (first | assumption)); first | done | fail))) (by (repeat' (first | exact AHeap.set_same _ _ _ | refine AHeap.get_fresh ‹_› ?_)); first | done | fail) (by repeat' (first | exact AHeap.set_set _ _ _ _ | (apply AHeap.upd1; · exact (by first | exact AHeap.n1 ‹_›)))) (fun x => ?_)) | (show ROpS _ _ (.call 14 _) _ _ _; refine callPC0 rfl rfl c14 (by repeat' (first | assumption | refine Glob.setF ?_ (by (repeat' (first | assumption | exact AHeap.z1 ‹_› | refine AHeap.so ?_ ?_ | exact AHeap.n1 ‹_›)); first | done | fail))) (by (repeat' (first | exact AHeap.set_same _ _ _ | refine AHeap.so ?_ ?_ | exact AHeap.n2 ‹_›)); first | done | fail) ?_) | refine R.mv rfl ?_ | refine R.fieldAddr rfl ?_ | refine R.nilCheck rfl ?_ | refine R.load (by decide) rfl (by (repeat' (first | exact AHeap.set_same _ _ _ | refine AHeap.get_fresh ‹_› ?_ | refine AHeap.so ?_ ?_ | exact AHeap.n2 ‹_›)); first | done | fail) rfl ?_ | refine R.len rfl ?_ | refine R.not rfl ?_ | refine R.alloc rfl (fun b hb => ?_) | refine R.build rfl rfl ?_ | ((first | refine S.lss rfl rfl ?_ ?_) <;> intro hlt <;> try (exfalso; omega))) | (refine S.op0 rfl ?_; first | refine S.storeN rfl rfl (by (repeat' (first | exact AHeap.set_same _ _ _ | refine AHeap.get_fresh ‹_› ?_ | refine AHeap.so ?_ ?_ | exact AHeap.n6 ‹_›)); first | done | fail) rfl rfl rfl (by rfl) rfl (by repeat' (first | exact AHeap.set_set _ _ _ _ | (apply AHeap.upd1; · exact (by first | exact AHeap.n1 ‹_› | exact AHeap.n5 ‹_›)))) ?_) | refine S.seq ?_ | refine S.region ?_ | refine S.regionT ?_ | refine S.talt ?_ ?_ | exact S.tstop | refine S.tdone ?_ | refine S.condT rfl ?_)
      all_goals
        apply S.ret rr6
        case hx => repeat (first | exact ResAt.nil | apply ResAt.tmp rfl | apply ResAt.cellA rfl (by (repeat' (first | exact AHeap.set_same _ _ _ | refine AHeap.get_fresh ‹_› ?_ | refine AHeap.so ?_ ?_ | exact AHeap.n6 ‹_›)); first | done | fail) (by rfl))
        exact ⟨_, h, .tu (.cons (ex_le nil_le) (.refl _)), (by repeat (first | exact AHeap.le.refl _ | refine AHeap.le.set ?_ _ (by (repeat' (first | assumption | exact AHeap.z1 ‹_› | exact AHeap.z2 ‹_›)); first | done | fail))), rfl, rfl⟩
  · rw [if_neg hmore]
    have c14 := ok_spec (T := T) (fin := fin) s1
    generalize s1.good = gd at c14 ⊢
    cases gd with
    | true =>
      simp only [if_true]
      repeat' (first | refine S.nilK ?_ | (refine S.op rfl ?_; first | (show ROpS _ _ (.call 12 _) _ _ _; refine callPC rfl rfl ce (by repeat' (first | assumption | refine Glob.setF ?_ (by (repeat' (first | assumption)); first | done | fail))) (by (repeat' (first | exact AHeap.set_same _ _ _)); first | done | fail) (by repeat' (first | exact AHeap.set_set _ _ _ _)) ?_) | (show ROpS _ _ (.call 14 _) _ _ _; refine callPC0 rfl rfl c14 (by repeat' (first | assumption | refine Glob.setF ?_ (by (repeat' (first | assumption)); first | done | fail))) (by (repeat' (first | exact AHeap.set_same _ _ _ | refine AHeap.get_fresh ‹_› ?_)); first | done | fail) ?_) | refine R.mv rfl ?_ | refine R.fieldAddr rfl ?_ | refine R.nilCheck rfl ?_ | refine R.load (by decide) rfl (by (repeat' (first | exact AHeap.set_same _ _ _ | refine AHeap.get_fresh ‹_› ?_)); first | done | fail) rfl ?_ | refine R.len rfl ?_ | refine R.not rfl ?_ | refine R.alloc rfl (fun b hb => ?_) | ((first | refine S.lss rfl rfl ?_ ?_) <;> intro hlt <;> try (exfalso; omega))) | (refine S.op0 rfl ?_; first | refine S.storeN rfl rfl (by (repeat' (first | exact AHeap.set_same _ _ _ | refine AHeap.get_fresh ‹_› ?_)); first | done | fail) rfl rfl rfl (by rfl) rfl (by repeat' (first | exact AHeap.set_set _ _ _ _ | (apply AHeap.upd1; · exact (by first | exact AHeap.n1 ‹_› | exact AHeap.n5 ‹_›)))) ?_) | refine S.seq ?_ | refine S.region ?_ | refine S.condF rfl ?_ | refine RRun.skip ?_)
      apply S.ret rr6
      case hx => repeat (first | exact ResAt.nil | apply ResAt.tmp rfl | apply ResAt.cellA rfl (by (repeat' (first | exact AHeap.set_same _ _ _ | refine AHeap.so ?_ ?_ | exact AHeap.n2 ‹_› | exact AHeap.n6 ‹_›)); first | done | fail) (by rfl))
      exact ⟨_, h, .tu (.cons (ex_le (.refl _)) (.refl _)), (by repeat (first | exact AHeap.le.refl _ | refine AHeap.le.set ?_ _ (by (repeat' (first | assumption | exact AHeap.z1 ‹_› | exact AHeap.z2 ‹_›)); first | done | fail))), rfl, rfl⟩
    | false =>
      simp only [Bool.false_eq_true, if_false]
      repeat' (first | refine S.nilK ?_ | (refine S.op rfl ?_; first | (show ROpS _ _ (.call 12 _) _ _ _; refine callPC rfl rfl ce (by repeat' (first | assumption | refine Glob.setF ?_ (by (repeat' (first | assumption)); first | done | fail))) (by (repeat' (first | exact AHeap.set_same _ _ _)); first | done | fail) (by repeat' (first | exact AHeap.set_set _ _ _ _)) ?_) | (show ROpS _ _ (.call 14 _) _ _ _; refine callPC0 rfl rfl c14 (by repeat' (first | assumption | refine Glob.setF ?_ (by (repeat' (first | assumption)); first | done | fail))) (by (repeat' (first | exact AHeap.set_same _ _ _ | refine AHeap.get_fresh ‹_› ?_)); first | done | fail) ?_) | refine R.mv rfl ?_ | refine R.fieldAddr rfl ?_ | refine R.nilCheck rfl ?_ | refine R.load (by decide) rfl (by (repeat' (first | exact AHeap.set_same _ _ _ | refine AHeap.get_fresh ‹_› ?_)); first | done | fail) rfl ?_ | refine R.len rfl ?_ | refine R.not rfl ?_ | refine R.alloc rfl (fun b hb => ?_) | refine R.build rfl rfl ?_ | ((first | refine S.lss rfl rfl ?_ ?_) <;> intro hlt <;> try (exfalso; omega))) | (refine S.op0 rfl ?_; first | refine S.storeN rfl rfl (by (repeat' (first | exact AHeap.set_same _ _ _ | refine AHeap.get_fresh ‹_› ?_)); first | done | fail) rfl rfl rfl (by rfl) rfl (by repeat' (first | exact AHeap.set_set _ _ _ _ | (apply AHeap.upd1; · exact (by first | exact AHeap.n1 ‹_› | exact AHeap.n5 ‹_›)))) ?_) | refine S.seq ?_ | refine S.region ?_ | refine S.regionT ?_ | refine S.talt ?_ ?_ | exact S.tstop | refine S.tdone ?_ | refine S.condT rfl ?_ | refine S.condF rfl ?_ | refine RRun.skip ?_)
      all_goals
        apply S.ret rr6
        case hx => repeat (first | exact ResAt.nil | apply ResAt.tmp rfl | apply ResAt.cellA rfl (by (repeat' (first | exact AHeap.set_same _ _ _ | refine AHeap.get_fresh ‹_› ?_)); first | done | fail) (by rfl))
        exact ⟨_, h, .tu (.cons (ex_le nil_le) (.refl _)), (by repeat (first | exact AHeap.le.refl _ | refine AHeap.le.set ?_ _ (by (repeat' (first | assumption | exact AHeap.z1 ‹_› | exact AHeap.z2 ‹_›)); first | done | fail))), rfl, rfl⟩
end Go.Proofs.Ytdinnoejipmiiaa

namespace Go.Proofs.Ytdinnoejipmiiaa
open Go.Av
def Lk (a b : UInt8) : Prop := (isLetter a = true ∧ isLetter b = true ∧ small a = small b) ∨ a = b
theorem letter_not {a : UInt8} (h : isLetter a = true) : isDigit a = false ∧ isBlank a = false ∧ a ≠ 39 := by
  unfold isLetter at h
  have h := of_decide_eq_true h
  refine ⟨?_, ?_, ?_⟩
  · unfold isDigit; exact decide_eq_false (by omega)
  · unfold isBlank; exact decide_eq_false (by omega)
  · intro e; subst e; revert h; decide
theorem Lk.letter {a b : UInt8} (h : Lk a b) : isLetter a = isLetter b := by
  rcases h with ⟨h1, h2, _⟩ | rfl
  · rw [h1, h2]
  · rfl
theorem Lk.digit {a b : UInt8} (h : Lk a b) : isDigit a = isDigit b := by
  rcases h with ⟨h1, h2, _⟩ | rfl
  · rw [(letter_not h1).1, (letter_not h2).1]
  · rfl
theorem Lk.blank {a b : UInt8} (h : Lk a b) : isBlank a = isBlank b := by
  rcases h with ⟨h1, h2, _⟩ | rfl
  · rw [(letter_not h1).2.1, (letter_not h2).2.1]
  · rfl
theorem Lk.word {a b : UInt8} (h : Lk a b) : isWord a = isWord b := by unfold isWord; rw [h.letter, h.digit]
theorem Lk.small {a b : UInt8} (h : Lk a b) : small a = small b := by
  rcases h with ⟨_, _, h⟩ | rfl
  · exact h
  · rfl
theorem Lk.same {a b : UInt8} (h : Lk a b) (hl : isLetter a = false) : a = b := by
  rcases h with ⟨h1, _⟩ | rfl
  · rw [h1] at hl; cases hl
  · rfl
inductive Lks : List UInt8 → List UInt8 → Prop
  | nil : Lks [] []
  | cons {a b : UInt8} {t u : List UInt8} : Lk a b → Lks t u → Lks (a :: t) (b :: u)
theorem Lks.take (p : UInt8 → Bool) (hp : ∀ {a b}, Lk a b → p a = p b) : ∀ {t u : List UInt8}, Lks t u → Lks (t.takeWhile p) (u.takeWhile p)
  | _, _, .nil => .nil
  | a :: t, b :: u, .cons h1 h2 => by
    have := hp h1
    cases hb : p b with
    | true => rw [List.takeWhile_cons_of_pos (by rw [this, hb]), List.takeWhile_cons_of_pos hb]; exact .cons h1 (Lks.take p hp h2)
    | false => rw [List.takeWhile_cons_of_neg (by rw [this, hb]; decide), List.takeWhile_cons_of_neg (by rw [hb]; decide)]; exact .nil
theorem Lks.len : ∀ {t u : List UInt8}, Lks t u → t.length = u.length
  | _, _, .nil => rfl
  | _, _, .cons _ h2 => congrArg (· + 1) h2.len
theorem Lks.drop : ∀ (n : Nat) {t u : List UInt8}, Lks t u → Lks (t.drop n) (u.drop n)
  | 0, _, _, h => h
  | _ + 1, _, _, .nil => .nil
  | n + 1, _, _, .cons _ h2 => Lks.drop n h2
theorem Lks.smalls : ∀ {t u : List UInt8}, Lks t u → t.map small = u.map small
  | _, _, .nil => rfl
  | _, _, .cons h1 h2 => by rw [List.map_cons, List.map_cons, h1.small, h2.smalls]
theorem Lks.eq : ∀ {t u : List UInt8}, Lks t u → (∀ c ∈ t, isLetter c = false) → t = u
  | _, _, .nil, _ => rfl
  | _, _, .cons h1 h2, h => by
    rw [h1.same (h _ (List.mem_cons_self ..)), h2.eq fun c hc => h c (List.mem_cons_of_mem _ hc)]
theorem take_all {p : UInt8 → Bool} : ∀ {t : List UInt8} {c : UInt8}, c ∈ t.takeWhile p → p c = true
  | a :: t, c, h => by
    cases ha : p a with
    | true =>
      rw [List.takeWhile_cons_of_pos ha] at h
      rcases List.mem_cons.1 h with rfl | h
      · exact ha
      · exact take_all h
    | false => rw [List.takeWhile_cons_of_neg (by rw [ha]; decide)] at h; cases h
theorem Lks.digits {t u : List UInt8} (h : Lks t u) : digits t = digits u := by
  refine (h.take isDigit fun h => h.digit).eq fun c hc => ?_
  have := take_all hc
  cases hl : isLetter c with
  | false => rfl
  | true => rw [(letter_not hl).1] at this; cases this
theorem Lks.word {t u : List UInt8} (h : Lks t u) : (wordOf t).map small = (wordOf u).map small ∧ (wordOf t).length = (wordOf u).length :=
  have := h.take isWord fun h => h.word
  ⟨this.smalls, this.len⟩
theorem pair_not {c d : UInt8} (h : isLetter d = true) : pair c d = false := by
  have : d ≠ 61 ∧ d ≠ 62 := ⟨fun e => by subst e; revert h; decide, fun e => by subst e; revert h; decide⟩
  unfold pair
  rw [beq_eq_false_iff_ne.2 this.1, beq_eq_false_iff_ne.2 this.2]
  simp
theorem Lks.mark {c : UInt8} {t u : List UInt8} (h : Lks t u) : markP (c :: t) = markP (c :: u) := by
  cases h with
  | nil => rfl
  | @cons a b t u h1 h2 =>
    rcases h1 with ⟨ha, hb, _⟩ | rfl
    · unfold markP
      simp only [pair_not ha, pair_not hb, Bool.false_eq_true, if_false]
    · rfl
theorem Lks.next {t u : List UInt8} (h : Lks t u) (hq : ∀ c ∈ t, c ≠ 39) : nextR t = nextR u := by
  cases h with
  | nil => rfl
  | @cons a b t u h1 h2 =>
    have h : Lks (a :: t) (b :: u) := .cons h1 h2
    unfold nextR
    simp only
    rw [← h1.letter, ← h1.digit, h.word.1, h.word.2]
    unfold numO
    rw [h.digits]
    cases hl : isLetter a with
    | true => simp only [if_true]
    | false =>
      have e := h1.same hl
      subst e
      have h39 : ¬ a = 39 := hq a (List.mem_cons_self ..)
      rw [h2.mark]
      simp only [h39, if_false]
theorem Lks.cut : ∀ (f : Nat) {t u : List UInt8} (i n : Nat), Lks t u → (∀ c ∈ t, c ≠ 39) → cutF f t i n = cutF f u i n
  | 0, _, _, _, _, _, _ => rfl
  | f + 1, t, u, i, n, h, hq => by
    have hb : blanks t = blanks u := (h.take isBlank fun h => h.blank).len
    have hd := h.drop (blanks t)
    have hqd : ∀ c ∈ t.drop (blanks t), c ≠ 39 := fun c hc => hq c (List.mem_of_mem_drop hc)
    have hn := hd.next hqd
    rw [hb] at hd hn hqd
    have hnil : (t.drop (blanks u) = []) = (u.drop (blanks u) = []) := by
      rw [← List.length_eq_zero_iff, ← List.length_eq_zero_iff, hd.len]
    unfold cutF
    rw [hb, hn]
    simp only [hnil]
    rw [Lks.cut f _ _ (hd.drop _) fun c hc => hqd c (List.mem_of_mem_drop hc)]
theorem Lks.lexed {t u : List UInt8} (h : Lks t u) (hq : ∀ c ∈ t, c ≠ 39) : lexed t = lexed u := by
  unfold Proofs.Ytdinnoejipmiiaa.lexed cutS
  rw [← h.len, Lks.cut _ _ _ h hq]
def big (c : UInt8) : UInt8 := if 97 ≤ c.toNat ∧ c.toNat ≤ 122 then c - 32 else c
theorem lk_big (c : UInt8) : Lk (small c) (big c) := by
  have : ∀ n : Fin 256, let c := UInt8.ofNat n.val; (isLetter (small c) = true ∧ isLetter (big c) = true ∧ small (small c) = small (big c)) ∨ small c = big c := by decide +kernel
  have h := this ⟨c.toNat, UInt8.toNat_lt c⟩
  simp only [UInt8.ofNat_toNat] at h
  exact h
theorem small_39 (c : UInt8) (h : c ≠ 39) : small c ≠ 39 := by
  have : ∀ n : Fin 256, let c := UInt8.ofNat n.val; c = 39 ∨ small c ≠ 39 := by decide +kernel
  have h2 := this ⟨c.toNat, UInt8.toNat_lt c⟩
  simp only [UInt8.ofNat_toNat] at h2
  exact h2.resolve_left h
theorem lks_big : ∀ s : List UInt8, Lks (s.map small) (s.map big)
  | [] => .nil
  | c :: s => .cons (lk_big c) (lks_big s)
theorem lexed_big (s : List UInt8) (hq : ∀ c ∈ s, c ≠ 39) : lexed (s.map small) = lexed (s.map big) := by
  refine (lks_big s).lexed fun c hc => ?_
  obtain ⟨d, hd, rfl⟩ := List.mem_map.1 hc
  exact small_39 d (hq d hd)
end Go.Proofs.Ytdinnoejipmiiaa

namespace Go.Proofs.Ytdinnoejipmiiaa
open Go.Av
open Go.Av.Pa (PS)
def SameE (e : Pa.Ex) : Prop := ∀ h, ACalls Try.prog 8 [.ag e.cells, .ag e.cells] h (fun x h' => x = bl true ∧ h' = h)
def r16l0 : RCode :=
  (.seq (.region [
    ⟨(some 14), none, .act, .bin .lss (.tmp 13) (.tmp 12)⟩])
  (.seq (.cond (.tmp 14)
   .skip
   (.exit 0))
  (.seq (.block 1
   (.seq (.region [
     ⟨(some 15), none, .act, .mv (.tmp 13)⟩,
     ⟨(some 5), none, .act, .mv (.tmp 15)⟩])
   (.seq (.region [
     ⟨(some 16), none, .pure, .mv (.tmp 0)⟩,
     ⟨(some 17), none, .pure, .mv (.tmp 5)⟩,
     ⟨(some 18), none, .pure, .indexAddr 8 (.tmp 16) (.tmp 17)⟩,
     ⟨(some 19), none, .read, .load true 8 (.tmp 18)⟩,
     ⟨(some 20), none, .pure, .mv (.tmp 1)⟩,
     ⟨(some 21), none, .pure, .mv (.tmp 5)⟩,
     ⟨(some 22), none, .pure, .indexAddr 8 (.tmp 20) (.tmp 21)⟩,
     ⟨(some 23), none, .read, .load true 8 (.tmp 22)⟩,
     ⟨(some 24), none, .act, .call 8 [(.tmp 19), (.tmp 23)]⟩,
     ⟨(some 25), none, .pure, .un .not (.tmp 24)⟩])
   (.cond (.tmp 25)
    (.seq (.region [
      ⟨(some 4), none, .act, .mv (.const (.bool false))⟩])
    .ret)
    .skip))))
  (.region [
    ⟨(some 26), none, .act, .bin .add (.tmp 13) (.const (.int .i64 1))⟩,
    ⟨(some 13), none, .act, .mv (.tmp 26)⟩]))))
def r16 : RCode :=
  (.seq (.region [
    ⟨(some 4), none, .act, .mv (.const (.bool false))⟩])
  (.seq (.seq (.region [
    ⟨(some 6), none, .act, .mv (.tmp 0)⟩,
    ⟨(some 7), none, .act, .len (.tmp 6)⟩,
    ⟨(some 8), none, .act, .mv (.tmp 1)⟩,
    ⟨(some 9), none, .act, .len (.tmp 8)⟩,
    ⟨(some 10), none, .act, .eq true .int (.tmp 7) (.tmp 9)⟩])
  (.cond (.tmp 10)
   (.seq (.region [
     ⟨(some 4), none, .act, .mv (.const (.bool false))⟩])
   .ret)
   .skip))
  (.seq (.seq (.region [
    ⟨(some 11), none, .act, .mv (.tmp 0)⟩,
    ⟨(some 12), none, .act, .len (.tmp 11)⟩,
    ⟨(some 13), none, .act, .mv (.const (.int .i64 0))⟩])
  (.block 0
   (.loop r16l0)))
  (.seq (.region [
    ⟨(some 4), none, .act, .mv (.const (.bool true))⟩])
  .ret))))
theorem res16 : ∃ c, Try.f16.body = some c ∧ resCode Try.prog 27 c = some r16 := ⟨_, rfl, by kernel_rfl⟩
theorem rr16 : resRes Try.prog Try.f16.results.toList = some [.tmp 4] := by kernel_rfl
theorem same_loop (l : List Pa.Ex) (hs : ∀ e ∈ l, SameE e) (hl : l.length ≤ 9223372036854775807) (h : AHeap) (k : List RT) (Q : AV → AHeap → Prop)
    (hk : RRun Try.prog Try.f16 27 k (Env.get []) h Q) : ∀ (m i : Nat), i + m = l.length →
    RRun Try.prog Try.f16 27 (.inLoop r16l0 :: .inBlock 0 :: k) (Env.get [(0, exs l), (1, exs l), (12, i64 l.length), (13, i64 i)]) h Q := by
  intro m
  induction m with
  | zero =>
    intro i hi
    refine RRun.inLoop ?_
    repeat' (first | refine S.nilK ?_ | (refine S.op rfl ?_; first | ((first | refine S.lss rfl rfl ?_ ?_) <;> intro hlt <;> try (exfalso; omega))) | refine S.seq ?_ | refine S.region ?_ | refine S.condF rfl ?_ | refine RRun.exit rfl ?_)
    exact S.keep [] rfl hk
  | succ m ih =>
    intro i hi
    have hie : i < l.length := by omega
    have hx := hs _ (List.getElem_mem hie)
    have h1 : (l.map Pa.Ex.cells)[((i : Nat) : Int).toNat]? = some l[i].cells := by simp [hie]
    generalize l[i] = x at hx h1
    obtain ⟨op, t, nm, n, ⟨vk, vn, vs⟩, ars⟩ := x
    unfold SameE at hx
    rw [Pa.Ex.cells_mk] at hx h1
    refine RRun.inLoop ?_
    repeat' (first | refine S.nilK ?_ | (refine S.op rfl ?_; first | refine R.indexAddr rfl rfl (by omega) h1 ?_ | (show ROpS _ _ (.call 8 _) _ _ _; refine callN rfl rfl (hx _) rfl ?_) | refine R.mv rfl ?_ | refine R.loadR rfl rfl ?_ | refine S.addI rfl rfl (by omega) ?_ | refine R.not rfl ?_ | ((first | refine S.lss rfl rfl ?_ ?_) <;> intro hlt <;> try (exfalso; omega))) | refine S.seq ?_ | refine S.region ?_ | refine S.condT rfl ?_ | refine S.condF rfl ?_ | refine RRun.skip ?_ | refine RRun.block ?_ | refine RRun.inBlock ?_)
    rw [show ((i : Int) + 1) = ((i + 1 : Nat) : Int) by omega]
    exact S.keep [0, 1, 12, 13] rfl (ih (i + 1) (by omega))
theorem same_exs (l : List Pa.Ex) (hs : ∀ e ∈ l, SameE e) (h : AHeap) : ACalls Try.prog 16 [exs l, exs l] h (fun x h' => x = bl true ∧ h' = h) := by
  obtain ⟨c', hc1, hc2⟩ := res16
  refine ACalls.enter Try.func16 hc1 Try.ntmps16 hc2 (Nat.le_of_ble_eq_true rfl) rfl ?_
  refine S.lenLe (t := 0) (es := l.map Pa.Ex.cells) rfl fun hlen0 => ?_
  have hlen : (l.map Pa.Ex.cells).length = l.length := by simp
  rw [hlen] at hlen0
  repeat' (first | refine S.nilK ?_ | (refine S.op rfl ?_; first | refine S.eqIntSame rfl rfl ?_ | refine R.mv rfl ?_ | refine R.len rfl ?_) | refine S.seq ?_ | refine S.region ?_ | refine S.condF rfl ?_ | refine RRun.skip ?_ | refine RRun.block ?_)
  rw [hlen]
  refine RRun.loopIn (S.keep [0, 1, 12, 13] rfl (same_loop l hs hlen0 h _ _ ?_ l.length 0 (by omega)))
  repeat' (first | refine S.nilK ?_ | (refine S.op rfl ?_; first | refine R.mv rfl ?_) | refine S.seq ?_ | refine S.region ?_)
  apply S.ret rr16
  case hx => repeat (first | exact ResAt.nil | apply ResAt.tmp rfl)
  exact ⟨rfl, rfl⟩
theorem val_agg (vk vn : Int) (vs : List UInt8) : aggEq [(0, .int), (1, .int), (2, .str)] [.int .i64 vk, .int .i64 vn, .string ⟨vs.toArray⟩] [.int .i64 vk, .int .i64 vn, .string ⟨vs.toArray⟩] = some true := by
  simp [aggEq, atomEq]
def r8 : RCode :=
  (.seq (.region [
    ⟨(some 2), none, .act, .box (.tmp 0)⟩,
    ⟨(some 3), none, .act, .box (.tmp 1)⟩,
    ⟨(some 4), none, .act, .mv (.const (.bool false))⟩])
  (.seq (.region [
    ⟨(some 5), none, .act, .fieldAddr 0 (.tmp 2)⟩,
    ⟨(some 6), none, .act, .load false 1 (.tmp 5)⟩,
    ⟨(some 7), none, .act, .fieldAddr 0 (.tmp 3)⟩,
    ⟨(some 8), none, .act, .load false 1 (.tmp 7)⟩,
    ⟨(some 9), none, .act, .eq false .int (.tmp 6) (.tmp 8)⟩,
    ⟨(some 10), none, .act, .mv (.tmp 9)⟩,
    ⟨(some 11), (some (10, true)), .act, .fieldAddr 1 (.tmp 2)⟩,
    ⟨(some 12), (some (10, true)), .act, .load false 1 (.tmp 11)⟩,
    ⟨(some 13), (some (10, true)), .act, .fieldAddr 1 (.tmp 3)⟩,
    ⟨(some 14), (some (10, true)), .act, .load false 1 (.tmp 13)⟩,
    ⟨(some 15), (some (10, true)), .act, .eq false .str (.tmp 12) (.tmp 14)⟩,
    ⟨(some 16), none, .act, .pick (.tmp 10) (.tmp 15) (.const (.bool false))⟩,
    ⟨(some 17), none, .act, .mv (.tmp 16)⟩,
    ⟨(some 18), (some (17, true)), .act, .fieldAddr 2 (.tmp 2)⟩,
    ⟨(some 19), (some (17, true)), .act, .load false 1 (.tmp 18)⟩,
    ⟨(some 20), (some (17, true)), .act, .fieldAddr 2 (.tmp 3)⟩,
    ⟨(some 21), (some (17, true)), .act, .load false 1 (.tmp 20)⟩,
    ⟨(some 22), (some (17, true)), .act, .eq false .str (.tmp 19) (.tmp 21)⟩,
    ⟨(some 23), none, .act, .pick (.tmp 17) (.tmp 22) (.const (.bool false))⟩,
    ⟨(some 24), none, .act, .mv (.tmp 23)⟩,
    ⟨(some 25), (some (24, true)), .act, .fieldAddr 3 (.tmp 2)⟩,
    ⟨(some 26), (some (24, true)), .act, .load false 1 (.tmp 25)⟩,
    ⟨(some 27), (some (24, true)), .act, .fieldAddr 3 (.tmp 3)⟩,
    ⟨(some 28), (some (24, true)), .act, .load false 1 (.tmp 27)⟩,
    ⟨(some 29), (some (24, true)), .act, .eq false .int (.tmp 26) (.tmp 28)⟩,
    ⟨(some 30), none, .act, .pick (.tmp 24) (.tmp 29) (.const (.bool false))⟩,
    ⟨(some 31), none, .act, .mv (.tmp 30)⟩,
    ⟨(some 32), (some (31, true)), .act, .fieldAddr 4 (.tmp 2)⟩,
    ⟨(some 33), (some (31, true)), .act, .load true 3 (.tmp 32)⟩,
    ⟨(some 34), (some (31, true)), .act, .fieldAddr 4 (.tmp 3)⟩,
    ⟨(some 35), (some (31, true)), .act, .load true 3 (.tmp 34)⟩,
    ⟨(some 36), (some (31, true)), .act, .eq false (.agg [(0, .int), (1, .int), (2, .str)]) (.tmp 33) (.tmp 35)⟩,
    ⟨(some 37), none, .act, .pick (.tmp 31) (.tmp 36) (.const (.bool false))⟩,
    ⟨(some 38), none, .act, .mv (.tmp 37)⟩,
    ⟨(some 39), (some (38, true)), .act, .fieldAddr 7 (.tmp 2)⟩,
    ⟨(some 40), (some (38, true)), .act, .load false 1 (.tmp 39)⟩,
    ⟨(some 41), (some (38, true)), .act, .fieldAddr 7 (.tmp 3)⟩,
    ⟨(some 42), (some (38, true)), .act, .load false 1 (.tmp 41)⟩,
    ⟨(some 43), (some (38, true)), .act, .call 16 [(.tmp 40), (.tmp 42)]⟩,
    ⟨(some 44), none, .act, .pick (.tmp 38) (.tmp 43) (.const (.bool false))⟩,
    ⟨(some 4), none, .act, .mv (.tmp 44)⟩])
  .ret))
theorem res8 : ∃ c, Try.f8.body = some c ∧ resCode Try.prog 45 c = some r8 := ⟨_, rfl, by kernel_rfl⟩
theorem rr8 : resRes Try.prog Try.f8.results.toList = some [.tmp 4] := by kernel_rfl
theorem same_mk (op n vk vn : Int) (t nm vs : List UInt8) (ars : List Pa.Ex) (hs : ∀ e ∈ ars, SameE e) : SameE (.mk op t nm n ⟨vk, vn, vs⟩ ars) := by
  intro h
  rw [Pa.Ex.cells_mk]
  obtain ⟨c', hc1, hc2⟩ := res8
  refine ACalls.weak (ACalls.enter Try.func8 hc1 Try.ntmps8 hc2 (Nat.le_of_ble_eq_true rfl) rfl ?_)
  have ha := val_agg vk vn vs
  have c16 := fun h => same_exs ars hs h
  repeat' (first | refine S.nilK ?_ | (refine S.op rfl ?_; first | refine S.eqIntSame rfl rfl ?_ | refine S.eqStrSame rfl rfl ?_ | refine R.eqAgg (xs := [.int .i64 vk, .int .i64 vn, .string ⟨vs.toArray⟩]) (ys := [.int .i64 vk, .int .i64 vn, .string ⟨vs.toArray⟩]) rfl rfl ha ?_ | (show ROpS _ _ (.call 16 _) _ _ _; refine callN rfl rfl (c16 _) rfl ?_) | refine R.mv rfl ?_ | refine R.fieldAddr rfl ?_ | refine R.load (by decide) rfl (by (repeat' (first | exact AHeap.set_same _ _ _ | refine AHeap.get_fresh ‹_› ?_)); first | done | fail) rfl ?_ | refine R.pickT rfl rfl ?_ | refine R.box rfl rfl rfl (fun b hb => ?_)) | refine S.seq ?_ | refine S.region ?_)
  apply S.ret rr8
  case hx => repeat (first | exact ResAt.nil | apply ResAt.tmp rfl)
  exact ⟨_, h, .refl _, (by repeat (first | exact AHeap.le.refl _ | refine AHeap.le.set ?_ _ (by (repeat' (first | assumption | exact AHeap.z1 ‹_›)); first | done | fail))), rfl, rfl⟩
mutual
theorem same_ex : ∀ e : Pa.Ex, SameE e
  | .mk op t nm n ⟨vk, vn, vs⟩ ars => same_mk op n vk vn t nm vs ars (same_all ars)
theorem same_all : ∀ l : List Pa.Ex, ∀ e ∈ l, SameE e
  | [], e, h => by cases h
  | x :: l, e, h => by
    rcases List.mem_cons.1 h with he | h
    · rw [he]; exact same_ex x
    · exact same_all l e h
end
def exT : List UInt8 := [49, 32, 43, 32, 50, 32, 42, 32, 51]
def oneE (n : Int) : Pa.Ex := .mk 1 [] [] 0 ⟨1, n, []⟩ []
def exE : Pa.Ex := .mk 5 [] [] 0 ⟨0, 0, []⟩ [oneE 1, .mk 7 [] [] 0 ⟨0, 0, []⟩ [oneE 2, oneE 3]]
theorem exT_lexed : lexed exT = ([⟨2, [], 1, 0⟩, ⟨4, [43], 0, 2⟩, ⟨2, [], 2, 4⟩, ⟨4, [42], 0, 6⟩, ⟨2, [], 3, 8⟩], 0, 0) := by decide +kernel
theorem exT_parsed : Pa.expressionP [⟨2, [], 1, 0⟩, ⟨4, [43], 0, 2⟩, ⟨2, [], 2, 4⟩, ⟨4, [42], 0, 6⟩, ⟨2, [], 3, 8⟩] 9 ⟨0, 0, 0, 0⟩ = (exE, 0, 0) := by kernel_rfl
def r5 : RCode :=
  (.seq (.region [
    ⟨(some 0), none, .act, .mv (.const (.bool false))⟩])
  (.seq (.region [
    ⟨(some 5), none, .act, .call 6 [(.const (.string ⟨#[49, 32, 43, 32, 50, 32, 42, 32, 51]⟩))]⟩,
    ⟨(some 4), none, .act, .mv (.tmp 5)⟩,
    ⟨(some 6), none, .act, .extract (.tmp 4) 0⟩,
    ⟨(some 7), none, .act, .extract (.tmp 4) 1⟩,
    ⟨(some 8), none, .act, .extract (.tmp 4) 2⟩,
    ⟨(some 1), none, .act, .alloc [(.int .i64 0), (.string ⟨#[]⟩), (.string ⟨#[]⟩), (.int .i64 0), (.int .i64 0), (.int .i64 0), (.string ⟨#[]⟩), (.slice none 0 0)]⟩,
    ⟨none, none, .act, .store 8 (.tmp 1) (.tmp 6)⟩,
    ⟨(some 2), none, .act, .mv (.tmp 7)⟩,
    ⟨(some 3), none, .act, .mv (.tmp 8)⟩])
  (.seq (.region [
    ⟨(some 9), none, .act, .mv (.tmp 3)⟩,
    ⟨(some 10), none, .act, .eq false .int (.tmp 9) (.const (.int .i64 0))⟩,
    ⟨(some 11), none, .act, .mv (.tmp 10)⟩,
    ⟨(some 12), (some (11, true)), .act, .fieldAddr 0 (.tmp 1)⟩,
    ⟨(some 13), (some (11, true)), .act, .load false 1 (.tmp 12)⟩,
    ⟨(some 14), (some (11, true)), .act, .eq false .int (.tmp 13) (.const (.int .i64 5))⟩,
    ⟨(some 15), none, .act, .pick (.tmp 11) (.tmp 14) (.const (.bool false))⟩,
    ⟨(some 16), none, .act, .mv (.tmp 15)⟩,
    ⟨(some 17), (some (16, true)), .act, .fieldAddr 7 (.tmp 1)⟩,
    ⟨(some 18), (some (16, true)), .act, .load false 1 (.tmp 17)⟩,
    ⟨(some 19), (some (16, true)), .act, .len (.tmp 18)⟩,
    ⟨(some 20), (some (16, true)), .act, .eq false .int (.tmp 19) (.const (.int .i64 2))⟩,
    ⟨(some 21), none, .act, .pick (.tmp 16) (.tmp 20) (.const (.bool false))⟩,
    ⟨(some 22), none, .act, .mv (.tmp 21)⟩,
    ⟨(some 23), (some (22, true)), .act, .fieldAddr 7 (.tmp 1)⟩,
    ⟨(some 24), (some (22, true)), .act, .load false 1 (.tmp 23)⟩,
    ⟨(some 25), (some (22, true)), .act, .indexAddr 8 (.tmp 24) (.const (.int .i64 1))⟩,
    ⟨(some 26), (some (22, true)), .act, .fieldAddr 0 (.tmp 25)⟩,
    ⟨(some 27), (some (22, true)), .act, .load false 1 (.tmp 26)⟩,
    ⟨(some 28), (some (22, true)), .act, .eq false .int (.tmp 27) (.const (.int .i64 7))⟩,
    ⟨(some 29), none, .act, .pick (.tmp 22) (.tmp 28) (.const (.bool false))⟩,
    ⟨(some 0), none, .act, .mv (.tmp 29)⟩])
  .ret)))
theorem res5 : ∃ c, Try.f5.body = some c ∧ resCode Try.prog 30 c = some r5 := ⟨_, rfl, by kernel_rfl⟩
theorem rr5 : resRes Try.prog Try.f5.results.toList = some [.tmp 0] := by kernel_rfl
theorem awake_spec (h : AHeap) (hg : Glob h) : ACalls Try.prog 5 [] h (fun x h' => x = bl true ∧ h' = h) := by
  obtain ⟨c', hc1, hc2⟩ := res5
  refine ACalls.weak (ACalls.enter Try.func5 hc1 Try.ntmps5 hc2 (Nat.le_of_ble_eq_true rfl) rfl ?_)
  have c6 := fun h hg => expression_spec exT (by decide) (by rw [exT_lexed]; exact ⟨by decide, by decide⟩) h hg
  unfold st0 at c6
  rw [exT_lexed] at c6
  simp only at c6
  rw [show ((exT.length : Nat) : Int) = 9 from rfl, exT_parsed] at c6
  simp only [exE, Pa.Ex.cells_mk] at c6
  have h1 : ([oneE 1, .mk 7 [] [] 0 ⟨0, 0, []⟩ [oneE 2, oneE 3]].map Pa.Ex.cells)[((1 : Int)).toNat]? = some [i64 7, str [], str [], i64 0, i64 0, i64 0, str [], exs [oneE 2, oneE 3]] := by
    show some (Pa.Ex.cells _) = _
    rw [Pa.Ex.cells_mk]
  have h2 : ([oneE 1, .mk 7 [] [] 0 ⟨0, 0, []⟩ [oneE 2, oneE 3]].map Pa.Ex.cells).length = 2 := rfl
  repeat' (first | refine S.nilK ?_ | (refine S.op rfl ?_; first | (show ROpS _ _ (.call 6 _) _ _ _; refine callG rfl rfl c6 (by repeat' (first | assumption)) ?_) | refine R.indexAddr rfl rfl (by omega) h1 ?_ | refine R.mv rfl ?_ | refine R.fieldAddr rfl ?_ | refine R.fieldAddrR rfl ?_ | refine R.loadR rfl rfl ?_ | refine R.load (by decide) rfl (by (repeat' (first | exact AHeap.set_same _ _ _)); first | done | fail) rfl ?_ | refine R.pickT rfl rfl ?_ | refine R.len rfl ?_ | refine R.extract rfl rfl ?_ | refine R.alloc rfl (fun b hb => ?_) | ((first | refine S.eqInt rfl rfl ?_ ?_) <;> intro hlt <;> try (exfalso; omega))) | (refine S.op0 rfl ?_; first | refine S.storeN rfl rfl (by (repeat' (first | exact AHeap.set_same _ _ _)); first | done | fail) rfl rfl rfl (by rfl) rfl (by repeat' (first | exact AHeap.set_set _ _ _ _)) ?_) | refine S.seq ?_ | refine S.region ?_)
  apply S.ret rr5
  case hx => repeat (first | exact ResAt.nil | apply ResAt.tmp rfl)
  exact ⟨_, h, .refl _, (by repeat (first | exact AHeap.le.refl _ | refine AHeap.le.set ?_ _ (by (repeat' (first | assumption)); first | done | fail))), rfl, rfl⟩
end Go.Proofs.Ytdinnoejipmiiaa

namespace Go.Proofs.Ytdinnoejipmiiaa
open Go.Av
def RowAt (h₀ : AHeap) (bs : List UInt8) (v : AV) (h : AHeap) : Prop :=
  (bs = [] ∧ v = .v (.slice none 0 0) ∧ h = h₀) ∨ ∃ b cap sp, h₀ b = none ∧ v = slAt b 0 bs.length cap ∧ h = h₀.set b (.box (bs.map u8 ++ sp)) ∧ bs.length + sp.length = cap ∧ cap ≤ maxLen ∧ bs ≠ []
end Go.Proofs.Ytdinnoejipmiiaa

namespace Go.Proofs.Ytdinnoejipmiiaa
open Go.Av
theorem RowAt.full {h₀ h : AHeap} {bs : List UInt8} {v : AV} (hr : RowAt h₀ bs v h) (hne : bs ≠ []) : ∃ b cap sp, h₀ b = none ∧ v = slAt b 0 bs.length cap ∧ h = h₀.set b (.box (bs.map u8 ++ sp)) ∧ bs.length + sp.length = cap ∧ cap ≤ maxLen := by
  rcases hr with ⟨h1, _⟩ | ⟨b, cap, sp, h1, h2, h3, h4, h5, _⟩
  · exact absurd h1 hne
  · exact ⟨b, cap, sp, h1, h2, h3, h4, h5⟩
end Go.Proofs.Ytdinnoejipmiiaa
