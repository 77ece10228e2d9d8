/-
  ParseCases answers true for every text: a text without a quote reads the same, small or great its letters. No condition.
-/
import Derived.Test.YtdinnoejipmiiaaP24
import Derived.Test.YtdinnoejipmiiaaP22
import Derived.Test.YtdinnoejipmiiaaP23
set_option linter.unusedVariables false
set_option linter.unusedSimpArgs false
namespace Go.Proofs.Ytdinnoejipmiiaa
open Go.Av
open Go.Av.Pa (PS atP isP wrongP takeP needP kindP nameP opsP operatorP enterP ev exprP expressionP)
section
variable {c : Cls} {E : AEnv} {h H H1 : AHeap} {K : AV → AHeap → Prop} {T : List Tok} {fin : Int}
theorem callSP {f : FuncId} {args : List Operand} {p q : Nat} {S S' : List AV} {st st' : PS} (hc : c = .act) (ha : avs E args = some [ptr p, ptr q]) (hcall : SP T fin f S st S' st') (hpq : p ≠ q) (hg : Glob h) (hp : h p = some (.box (pst T fin st))) (hq : h q = some (.box S))
    (hH1 : h.set p (.box (pst T fin st')) = H1) (hH : H1.set q (.box S') = H) (hk : ∀ x, K x H) : ROpS Try.prog c (.call f args) E h K :=
  callNU hc ha (hcall p q h hpq hg hp hq) (by rw [hH1, hH]) hk
end
section
variable {T : List Tok} {fin : Int}
def r17 : RCode :=
  (.seq (.region [
    ⟨(some 2), none, .act, .alloc [(.int .i64 0), (.string ⟨#[]⟩), (.int .i64 0), (.string ⟨#[]⟩), (.slice none 0 0), (.int .i64 0), (.slice none 0 0), (.slice none 0 0), (.slice none 0 0), (.bool false), (.slice none 0 0), (.string ⟨#[]⟩), (.string ⟨#[]⟩), (.slice none 0 0), (.slice none 0 0), (.slice none 0 0), (.slice none 0 0), (.int .i64 0), (.bool false), (.int .i64 0)]⟩])
  (.seq (.region [
    ⟨(some 4), none, .act, .build [(.int .i64 0), (.string ⟨#[]⟩), (.int .i64 0), (.string ⟨#[]⟩), (.slice none 0 0), (.int .i64 0), (.slice none 0 0), (.slice none 0 0), (.slice none 0 0), (.bool false), (.slice none 0 0), (.string ⟨#[]⟩), (.string ⟨#[]⟩), (.slice none 0 0), (.slice none 0 0), (.slice none 0 0), (.slice none 0 0), (.int .i64 0), (.bool false), (.int .i64 0)] [(17, 1, (.const (.int .i64 (-1))))]⟩,
    ⟨(some 3), none, .act, .alloc [(.int .i64 0), (.string ⟨#[]⟩), (.int .i64 0), (.string ⟨#[]⟩), (.slice none 0 0), (.int .i64 0), (.slice none 0 0), (.slice none 0 0), (.slice none 0 0), (.bool false), (.slice none 0 0), (.string ⟨#[]⟩), (.string ⟨#[]⟩), (.slice none 0 0), (.slice none 0 0), (.slice none 0 0), (.slice none 0 0), (.int .i64 0), (.bool false), (.int .i64 0)]⟩,
    ⟨none, none, .act, .store 20 (.tmp 3) (.tmp 4)⟩])
  (.seq (.block 0
   (.seq (.region [
     ⟨(some 8), none, .act, .mv (.tmp 0)⟩,
     ⟨(some 9), none, .act, .call 30 [(.tmp 8), (.const (.string ⟨#[99, 114, 101, 97, 116, 101]⟩))]⟩,
     ⟨(some 7), none, .act, .mv (.tmp 9)⟩])
   (.cond (.tmp 7)
    (.region [
      ⟨(some 10), none, .act, .mv (.tmp 0)⟩,
      ⟨(some 11), none, .act, .call 31 [(.tmp 10), (.tmp 3)]⟩])
    (.seq (.region [
      ⟨(some 13), none, .act, .mv (.tmp 0)⟩,
      ⟨(some 14), none, .act, .call 30 [(.tmp 13), (.const (.string ⟨#[105, 110, 115, 101, 114, 116]⟩))]⟩,
      ⟨(some 12), none, .act, .mv (.tmp 14)⟩])
    (.cond (.tmp 12)
     (.region [
       ⟨(some 15), none, .act, .mv (.tmp 0)⟩,
       ⟨(some 16), none, .act, .call 32 [(.tmp 15), (.tmp 3)]⟩])
     (.seq (.region [
       ⟨(some 18), none, .act, .mv (.tmp 0)⟩,
       ⟨(some 19), none, .act, .call 30 [(.tmp 18), (.const (.string ⟨#[117, 112, 100, 97, 116, 101]⟩))]⟩,
       ⟨(some 17), none, .act, .mv (.tmp 19)⟩])
     (.cond (.tmp 17)
      (.region [
        ⟨(some 20), none, .act, .mv (.tmp 0)⟩,
        ⟨(some 21), none, .act, .call 33 [(.tmp 20), (.tmp 3)]⟩])
      (.seq (.region [
        ⟨(some 23), none, .act, .mv (.tmp 0)⟩,
        ⟨(some 24), none, .act, .call 30 [(.tmp 23), (.const (.string ⟨#[100, 101, 108, 101, 116, 101]⟩))]⟩,
        ⟨(some 22), none, .act, .mv (.tmp 24)⟩])
      (.cond (.tmp 22)
       (.seq (.region [
         ⟨(some 25), none, .act, .fieldAddr 0 (.tmp 3)⟩,
         ⟨none, none, .act, .store 1 (.tmp 25) (.const (.int .i64 4))⟩])
       (.seq (.region [
         ⟨(some 26), none, .act, .mv (.tmp 0)⟩,
         ⟨(some 27), none, .act, .buildSl 1 [(.string ⟨#[]⟩)] 1 [(0, (.const (.string ⟨#[102, 114, 111, 109]⟩)))]⟩,
         ⟨(some 28), none, .act, .call 34 [(.tmp 26), (.tmp 27)]⟩])
       (.seq (.region [
         ⟨(some 29), none, .act, .mv (.tmp 0)⟩,
         ⟨(some 30), none, .act, .call 35 [(.tmp 29)]⟩,
         ⟨(some 31), none, .act, .fieldAddr 11 (.tmp 3)⟩,
         ⟨none, none, .act, .store 1 (.tmp 31) (.tmp 30)⟩])
       (.region [
         ⟨(some 32), none, .act, .mv (.tmp 0)⟩,
         ⟨(some 33), none, .act, .call 36 [(.tmp 32), (.const (.string ⟨#[119, 104, 101, 114, 101]⟩))]⟩,
         ⟨(some 34), none, .act, .fieldAddr 14 (.tmp 3)⟩,
         ⟨none, none, .act, .store 1 (.tmp 34) (.tmp 33)⟩]))))
       (.seq (.region [
         ⟨(some 36), none, .act, .mv (.tmp 0)⟩,
         ⟨(some 37), none, .act, .call 30 [(.tmp 36), (.const (.string ⟨#[115, 101, 108, 101, 99, 116]⟩))]⟩,
         ⟨(some 35), none, .act, .mv (.tmp 37)⟩])
       (.cond (.tmp 35)
        (.region [
          ⟨(some 38), none, .act, .mv (.tmp 0)⟩,
          ⟨(some 39), none, .act, .call 37 [(.tmp 38), (.tmp 3)]⟩])
        (.seq (.region [
          ⟨(some 41), none, .act, .mv (.tmp 0)⟩,
          ⟨(some 42), none, .act, .call 30 [(.tmp 41), (.const (.string ⟨#[98, 101, 103, 105, 110]⟩))]⟩,
          ⟨(some 40), none, .act, .mv (.tmp 42)⟩])
        (.cond (.tmp 40)
         (.region [
           ⟨(some 43), none, .act, .mv (.tmp 0)⟩,
           ⟨(some 44), none, .act, .call 38 [(.tmp 43)]⟩,
           ⟨(some 45), none, .act, .fieldAddr 0 (.tmp 3)⟩,
           ⟨none, none, .act, .store 1 (.tmp 45) (.const (.int .i64 6))⟩,
           ⟨(some 46), none, .act, .fieldAddr 19 (.tmp 3)⟩,
           ⟨none, none, .act, .store 1 (.tmp 46) (.tmp 44)⟩])
         (.seq (.region [
           ⟨(some 48), none, .act, .mv (.tmp 0)⟩,
           ⟨(some 49), none, .act, .call 30 [(.tmp 48), (.const (.string ⟨#[99, 111, 109, 109, 105, 116]⟩))]⟩,
           ⟨(some 47), none, .act, .mv (.tmp 49)⟩])
         (.cond (.tmp 47)
          (.region [
            ⟨(some 50), none, .act, .fieldAddr 0 (.tmp 3)⟩,
            ⟨none, none, .act, .store 1 (.tmp 50) (.const (.int .i64 7))⟩])
          (.seq (.region [
            ⟨(some 52), none, .act, .mv (.tmp 0)⟩,
            ⟨(some 53), none, .act, .call 30 [(.tmp 52), (.const (.string ⟨#[114, 111, 108, 108, 98, 97, 99, 107]⟩))]⟩,
            ⟨(some 51), none, .act, .mv (.tmp 53)⟩])
          (.cond (.tmp 51)
           (.seq (.region [
             ⟨(some 54), none, .act, .fieldAddr 0 (.tmp 3)⟩,
             ⟨none, none, .act, .store 1 (.tmp 54) (.const (.int .i64 8))⟩])
           (.seq (.region [
             ⟨(some 55), none, .act, .mv (.tmp 0)⟩,
             ⟨(some 56), none, .act, .call 30 [(.tmp 55), (.const (.string ⟨#[116, 111]⟩))]⟩])
           (.cond (.tmp 56)
            (.region [
              ⟨(some 57), none, .act, .mv (.tmp 0)⟩,
              ⟨(some 58), none, .act, .call 35 [(.tmp 57)]⟩,
              ⟨(some 59), none, .act, .fieldAddr 0 (.tmp 3)⟩,
              ⟨none, none, .act, .store 1 (.tmp 59) (.const (.int .i64 10))⟩,
              ⟨(some 60), none, .act, .fieldAddr 1 (.tmp 3)⟩,
              ⟨none, none, .act, .store 1 (.tmp 60) (.tmp 58)⟩])
            .skip)))
           (.seq (.region [
             ⟨(some 62), none, .act, .mv (.tmp 0)⟩,
             ⟨(some 63), none, .act, .call 30 [(.tmp 62), (.const (.string ⟨#[115, 97, 118, 101, 112, 111, 105, 110, 116]⟩))]⟩,
             ⟨(some 61), none, .act, .mv (.tmp 63)⟩])
           (.cond (.tmp 61)
            (.region [
              ⟨(some 64), none, .act, .mv (.tmp 0)⟩,
              ⟨(some 65), none, .act, .call 35 [(.tmp 64)]⟩,
              ⟨(some 66), none, .act, .fieldAddr 0 (.tmp 3)⟩,
              ⟨none, none, .act, .store 1 (.tmp 66) (.const (.int .i64 9))⟩,
              ⟨(some 67), none, .act, .fieldAddr 1 (.tmp 3)⟩,
              ⟨none, none, .act, .store 1 (.tmp 67) (.tmp 65)⟩])
            (.region [
              ⟨(some 5), none, .act, .mv (.tmp 0)⟩,
              ⟨(some 6), none, .act, .call 13 [(.tmp 5)]⟩]))))))))))))))))))))
  (.seq (.region [
    ⟨(some 68), none, .act, .load true 20 (.tmp 3)⟩,
    ⟨none, none, .act, .store 20 (.tmp 2) (.tmp 68)⟩])
  .ret))))
theorem res17 : ∃ c, Try.f17.body = some c ∧ resCode Try.prog 69 c = some r17 := ⟨_, rfl, by kernel_rfl⟩
theorem rr17 : resRes Try.prog Try.f17.results.toList = some [.cell 2 true 20] := by kernel_rfl
def r17z : RCode :=
  (.seq (.region [
    ⟨(some 68), none, .act, .load true 20 (.tmp 3)⟩,
    ⟨none, none, .act, .store 20 (.tmp 2) (.tmp 68)⟩])
  .ret)
def zeroZ : List AV := [i64 0, str [], i64 0, str [], nilA, i64 0, nilA, nilA, nilA, bl false, nilA, str [], str [], nilA, nilA, nilA, nilA, i64 0, bl false, i64 0]
theorem st_end (b2 b3 : Nat) (h : AHeap) (h2 : h b2 = some (.box zeroZ)) (Q : AV → AHeap → Prop) : ∀ (S : List AV), S.length = 20 → S.all AV.one = true → h b3 = some (.box S) → Q (.ag S) (h.set b2 (.box S)) →
    RRun Try.prog Try.f17 69 [.code r17z] (Env.get [(2, ptr b2), (3, ptr b3)]) h Q
  | [x0, x1, x2, x3, x4, x5, x6, x7, x8, x9, x10, x11, x12, x13, x14, x15, x16, x17, x18, x19], _, hS, h3, hQ => by
    unfold r17z
    refine RRun.seq (S.region ?_)
    refine S.op rfl (R.load (by decide) rfl h3 rfl ?_)
    refine S.op0 rfl (S.store rfl rfl h2 rfl (if_pos hS) rfl rfl rfl ?_)
    refine S.nilK ?_
    apply S.ret rr17
    case hx => exact ResAt.cellA rfl (AHeap.set_same _ _ _) rfl .nil
    exact hQ
theorem st_create (hT : TOk T) (st : PS) (hlt : st.i < T.length) (hd : st.d ≤ 20) (ct : PC T fin 30 [str [99, 114, 101, 97, 116, 101]] st (bl true) st.next)  : ∃ (S : List AV) (st' : PS), S.length = 20 ∧ S.all AV.one = true ∧ IsSt S ∧ Goes T st st' ∧ PC T fin 17 [] st (.ag S) st' := by
  obtain ⟨S', s1, hl, ho, hi, g1, cs⟩ := create_ex (fin := fin) hT st.next hlt
  refine ⟨S', s1, hl, ho, hi, (Goes.next hlt).trans g1, ?_⟩
  intro p h ⟨hg, hp⟩
  obtain ⟨c', hc1, hc2⟩ := res17
  refine ACalls.weak (ACalls.enter Try.func17 hc1 Try.ntmps17 hc2 (Nat.le_of_ble_eq_true rfl) rfl ?_)
  repeat' (first | ((show RRun _ _ _ [.code r17z] _ _ _; exact S.keep [2, 3] rfl (st_end _ _ _ (by (repeat' (first | exact AHeap.set_same _ _ _ | refine AHeap.so ?_ ?_ | exact AHeap.n2 ‹_›)); first | done | fail) _ S' hl ho (by (repeat' (first | exact AHeap.set_same _ _ _)); first | done | fail) ⟨_, _, .refl _, (by repeat (first | exact AHeap.le.refl _ | refine AHeap.le.set ?_ _ (by (repeat' (first | assumption | exact AHeap.z1 ‹_› | refine AHeap.so ?_ ?_ | exact AHeap.n4 ‹_› ‹_› | exact AHeap.n8 ‹_› ‹_›)); first | done | fail))), rfl, rfl⟩))) | refine S.nilK ?_ | (refine S.op rfl ?_; first | (show ROpS _ _ (.call 30 [_, (.const (.string ⟨#[99, 114, 101, 97, 116, 101]⟩))]) _ _ _; refine callPC rfl rfl ct (by repeat' (first | assumption | refine Glob.setF ?_ (by (repeat' (first | assumption)); first | done | fail))) (by (repeat' (first | assumption | refine AHeap.get_fresh ‹_› ?_)); first | done | fail) (by repeat' (first | (apply AHeap.upd1; · exact (by first | exact AHeap.n4 ‹_› ‹_› | exact AHeap.n8 ‹_› ‹_›)) | exact rfl)) ?_) | (show ROpS _ _ (.call 31 _) _ _ _; refine callSP rfl rfl cs (by first | exact AHeap.n7 ‹_› ‹_›) (by repeat' (first | assumption | refine Glob.setF ?_ (by (repeat' (first | assumption | exact AHeap.z1 ‹_› | refine AHeap.so ?_ ?_ | exact AHeap.n1 ‹_› | exact AHeap.n4 ‹_› ‹_› | exact AHeap.n8 ‹_› ‹_›)); first | done | fail) | refine Glob.setP ?_ (by (repeat' (first | assumption)); first | done | fail))) (by (repeat' (first | exact AHeap.set_same _ _ _ | refine AHeap.so ?_ ?_ | exact AHeap.ne_of ‹_› ‹_› | exact AHeap.n7 ‹_› ‹_›)); first | done | fail) (by (repeat' (first | exact AHeap.set_same _ _ _)); first | done | fail) (by repeat' (first | exact AHeap.set_set _ _ _ _ | (apply AHeap.upd1; · exact (by first | exact AHeap.n4 ‹_› ‹_› | exact AHeap.n8 ‹_› ‹_›)))) (by repeat' (first | exact AHeap.set_set _ _ _ _)) (fun x => ?_)) | refine R.mv rfl ?_ | refine R.alloc rfl (fun b hb => ?_) | refine R.build rfl rfl ?_) | (refine S.op0 rfl ?_; first | refine S.storeN rfl rfl (by (repeat' (first | exact AHeap.set_same _ _ _)); first | done | fail) rfl rfl rfl (by rfl) rfl (by repeat' (first | exact AHeap.set_set _ _ _ _)) ?_) | refine S.seq ?_ | refine S.region ?_ | refine S.condT rfl ?_ | refine RRun.block ?_ | refine RRun.inBlock ?_)
theorem st_insert (hT : TOk T) (st : PS) (hlt : st.i < T.length) (hd : st.d ≤ 20) (ct : PC T fin 30 [str [105, 110, 115, 101, 114, 116]] st (bl true) st.next) (c0 : PC0 T fin 30 [str [99, 114, 101, 97, 116, 101]] st (bl false)) : ∃ (S : List AV) (st' : PS), S.length = 20 ∧ S.all AV.one = true ∧ IsSt S ∧ Goes T st st' ∧ PC T fin 17 [] st (.ag S) st' := by
  obtain ⟨S', s1, hl, ho, hi, g1, cs⟩ := insert_ex (fin := fin) hT st.next hlt hd
  refine ⟨S', s1, hl, ho, hi, (Goes.next hlt).trans g1, ?_⟩
  intro p h ⟨hg, hp⟩
  obtain ⟨c', hc1, hc2⟩ := res17
  refine ACalls.weak (ACalls.enter Try.func17 hc1 Try.ntmps17 hc2 (Nat.le_of_ble_eq_true rfl) rfl ?_)
  repeat' (first | ((show RRun _ _ _ [.code r17z] _ _ _; exact S.keep [2, 3] rfl (st_end _ _ _ (by (repeat' (first | exact AHeap.set_same _ _ _ | refine AHeap.so ?_ ?_ | exact AHeap.n2 ‹_›)); first | done | fail) _ S' hl ho (by (repeat' (first | exact AHeap.set_same _ _ _)); first | done | fail) ⟨_, _, .refl _, (by repeat (first | exact AHeap.le.refl _ | refine AHeap.le.set ?_ _ (by (repeat' (first | assumption | exact AHeap.z1 ‹_› | refine AHeap.so ?_ ?_ | exact AHeap.n4 ‹_› ‹_› | exact AHeap.n8 ‹_› ‹_›)); first | done | fail))), rfl, rfl⟩))) | refine S.nilK ?_ | (refine S.op rfl ?_; first | (show ROpS _ _ (.call 30 [_, (.const (.string ⟨#[99, 114, 101, 97, 116, 101]⟩))]) _ _ _; refine callPC0 rfl rfl c0 (by repeat' (first | assumption | refine Glob.setF ?_ (by (repeat' (first | assumption)); first | done | fail))) (by (repeat' (first | assumption | refine AHeap.get_fresh ‹_› ?_)); first | done | fail) ?_) | (show ROpS _ _ (.call 30 [_, (.const (.string ⟨#[105, 110, 115, 101, 114, 116]⟩))]) _ _ _; refine callPC rfl rfl ct (by repeat' (first | assumption | refine Glob.setF ?_ (by (repeat' (first | assumption)); first | done | fail))) (by (repeat' (first | assumption | refine AHeap.get_fresh ‹_› ?_)); first | done | fail) (by repeat' (first | (apply AHeap.upd1; · exact (by first | exact AHeap.n4 ‹_› ‹_› | exact AHeap.n8 ‹_› ‹_›)) | exact rfl)) ?_) | (show ROpS _ _ (.call 32 _) _ _ _; refine callSP rfl rfl cs (by first | exact AHeap.n7 ‹_› ‹_›) (by repeat' (first | assumption | refine Glob.setF ?_ (by (repeat' (first | assumption | exact AHeap.z1 ‹_› | refine AHeap.so ?_ ?_ | exact AHeap.n1 ‹_› | exact AHeap.n4 ‹_› ‹_› | exact AHeap.n8 ‹_› ‹_›)); first | done | fail) | refine Glob.setP ?_ (by (repeat' (first | assumption)); first | done | fail))) (by (repeat' (first | exact AHeap.set_same _ _ _ | refine AHeap.so ?_ ?_ | exact AHeap.ne_of ‹_› ‹_› | exact AHeap.n7 ‹_› ‹_›)); first | done | fail) (by (repeat' (first | exact AHeap.set_same _ _ _)); first | done | fail) (by repeat' (first | exact AHeap.set_set _ _ _ _ | (apply AHeap.upd1; · exact (by first | exact AHeap.n4 ‹_› ‹_› | exact AHeap.n8 ‹_› ‹_›)))) (by repeat' (first | exact AHeap.set_set _ _ _ _)) (fun x => ?_)) | refine R.mv rfl ?_ | refine R.alloc rfl (fun b hb => ?_) | refine R.build rfl rfl ?_) | (refine S.op0 rfl ?_; first | refine S.storeN rfl rfl (by (repeat' (first | exact AHeap.set_same _ _ _)); first | done | fail) rfl rfl rfl (by rfl) rfl (by repeat' (first | exact AHeap.set_set _ _ _ _)) ?_) | refine S.seq ?_ | refine S.region ?_ | refine S.condT rfl ?_ | refine S.condF rfl ?_ | refine RRun.block ?_ | refine RRun.inBlock ?_)
theorem st_update (hT : TOk T) (st : PS) (hlt : st.i < T.length) (hd : st.d ≤ 20) (ct : PC T fin 30 [str [117, 112, 100, 97, 116, 101]] st (bl true) st.next) (c0 : PC0 T fin 30 [str [99, 114, 101, 97, 116, 101]] st (bl false)) (c1 : PC0 T fin 30 [str [105, 110, 115, 101, 114, 116]] st (bl false)) : ∃ (S : List AV) (st' : PS), S.length = 20 ∧ S.all AV.one = true ∧ IsSt S ∧ Goes T st st' ∧ PC T fin 17 [] st (.ag S) st' := by
  obtain ⟨S', s1, hl, ho, hi, g1, cs⟩ := update_ex (fin := fin) hT st.next hlt hd
  refine ⟨S', s1, hl, ho, hi, (Goes.next hlt).trans g1, ?_⟩
  intro p h ⟨hg, hp⟩
  obtain ⟨c', hc1, hc2⟩ := res17
  refine ACalls.weak (ACalls.enter Try.func17 hc1 Try.ntmps17 hc2 (Nat.le_of_ble_eq_true rfl) rfl ?_)
  repeat' (first | ((show RRun _ _ _ [.code r17z] _ _ _; exact S.keep [2, 3] rfl (st_end _ _ _ (by (repeat' (first | exact AHeap.set_same _ _ _ | refine AHeap.so ?_ ?_ | exact AHeap.n2 ‹_›)); first | done | fail) _ S' hl ho (by (repeat' (first | exact AHeap.set_same _ _ _)); first | done | fail) ⟨_, _, .refl _, (by repeat (first | exact AHeap.le.refl _ | refine AHeap.le.set ?_ _ (by (repeat' (first | assumption | exact AHeap.z1 ‹_› | refine AHeap.so ?_ ?_ | exact AHeap.n4 ‹_› ‹_› | exact AHeap.n8 ‹_› ‹_›)); first | done | fail))), rfl, rfl⟩))) | refine S.nilK ?_ | (refine S.op rfl ?_; first | (show ROpS _ _ (.call 30 [_, (.const (.string ⟨#[99, 114, 101, 97, 116, 101]⟩))]) _ _ _; refine callPC0 rfl rfl c0 (by repeat' (first | assumption | refine Glob.setF ?_ (by (repeat' (first | assumption)); first | done | fail))) (by (repeat' (first | assumption | refine AHeap.get_fresh ‹_› ?_)); first | done | fail) ?_) | (show ROpS _ _ (.call 30 [_, (.const (.string ⟨#[105, 110, 115, 101, 114, 116]⟩))]) _ _ _; refine callPC0 rfl rfl c1 (by repeat' (first | assumption | refine Glob.setF ?_ (by (repeat' (first | assumption)); first | done | fail))) (by (repeat' (first | assumption | refine AHeap.get_fresh ‹_› ?_)); first | done | fail) ?_) | (show ROpS _ _ (.call 30 [_, (.const (.string ⟨#[117, 112, 100, 97, 116, 101]⟩))]) _ _ _; refine callPC rfl rfl ct (by repeat' (first | assumption | refine Glob.setF ?_ (by (repeat' (first | assumption)); first | done | fail))) (by (repeat' (first | assumption | refine AHeap.get_fresh ‹_› ?_)); first | done | fail) (by repeat' (first | (apply AHeap.upd1; · exact (by first | exact AHeap.n4 ‹_› ‹_› | exact AHeap.n8 ‹_› ‹_›)) | exact rfl)) ?_) | (show ROpS _ _ (.call 33 _) _ _ _; refine callSP rfl rfl cs (by first | exact AHeap.n7 ‹_› ‹_›) (by repeat' (first | assumption | refine Glob.setF ?_ (by (repeat' (first | assumption | exact AHeap.z1 ‹_› | refine AHeap.so ?_ ?_ | exact AHeap.n1 ‹_› | exact AHeap.n4 ‹_› ‹_› | exact AHeap.n8 ‹_› ‹_›)); first | done | fail) | refine Glob.setP ?_ (by (repeat' (first | assumption)); first | done | fail))) (by (repeat' (first | exact AHeap.set_same _ _ _ | refine AHeap.so ?_ ?_ | exact AHeap.ne_of ‹_› ‹_› | exact AHeap.n7 ‹_› ‹_›)); first | done | fail) (by (repeat' (first | exact AHeap.set_same _ _ _)); first | done | fail) (by repeat' (first | exact AHeap.set_set _ _ _ _ | (apply AHeap.upd1; · exact (by first | exact AHeap.n4 ‹_› ‹_› | exact AHeap.n8 ‹_› ‹_›)))) (by repeat' (first | exact AHeap.set_set _ _ _ _)) (fun x => ?_)) | refine R.mv rfl ?_ | refine R.alloc rfl (fun b hb => ?_) | refine R.build rfl rfl ?_) | (refine S.op0 rfl ?_; first | refine S.storeN rfl rfl (by (repeat' (first | exact AHeap.set_same _ _ _)); first | done | fail) rfl rfl rfl (by rfl) rfl (by repeat' (first | exact AHeap.set_set _ _ _ _)) ?_) | refine S.seq ?_ | refine S.region ?_ | refine S.condT rfl ?_ | refine S.condF rfl ?_ | refine RRun.block ?_ | refine RRun.inBlock ?_)
theorem st_delete (hT : TOk T) (st : PS) (hlt : st.i < T.length) (hd : st.d ≤ 20) (ct : PC T fin 30 [str [100, 101, 108, 101, 116, 101]] st (bl true) st.next) (c0 : PC0 T fin 30 [str [99, 114, 101, 97, 116, 101]] st (bl false)) (c1 : PC0 T fin 30 [str [105, 110, 115, 101, 114, 116]] st (bl false)) (c2 : PC0 T fin 30 [str [117, 112, 100, 97, 116, 101]] st (bl false)) : ∃ (S : List AV) (st' : PS), S.length = 20 ∧ S.all AV.one = true ∧ IsSt S ∧ Goes T st st' ∧ PC T fin 17 [] st (.ag S) st' := by
  have c20 := need_spec (T := T) (fin := fin) hT.len [[102, 114, 111, 109]] (by decide) .full st.next
  have g1 := goes_need (fin := fin) (st := st.next) hlt [[102, 114, 111, 109]]
  generalize needP T fin st.next [[102, 114, 111, 109]] = s1 at c20 g1
  have c21 := name_spec (fin := fin) hT s1
  have g2 := goes_name (fin := fin) (st := s1) g1.2.1
  generalize nameP T fin s1 = r at c21 g2
  obtain ⟨tn, s2⟩ := r
  simp only at c21 g2
  have gg := (Goes.next hlt).trans (g1.trans g2)
  obtain ⟨wh, s3, g3, c22⟩ := where_ex (fin := fin) hT s2 g2.2.1 (by have := gg.2.2; omega) [119, 104, 101, 114, 101]
  refine ⟨[i64 4, str [], i64 0, str [], nilA, i64 0, nilA, nilA, nilA, bl false, nilA, str tn, str [], nilA, exs wh, nilA, nilA, i64 (-1), bl false, i64 0], s3, rfl, rfl, isSt_of nil_cols nil_ints nil_rows nil_sets (.of _) .nil (.of _) (.of _) .nil (.of _) .nil .nil (.of _) (.of _), gg.trans g3, ?_⟩
  intro p h ⟨hg, hp⟩
  obtain ⟨c', hc1, hc2⟩ := res17
  refine ACalls.weak (ACalls.enter Try.func17 hc1 Try.ntmps17 hc2 (Nat.le_of_ble_eq_true rfl) rfl ?_)
  repeat' (first | ((show RRun _ _ _ [.code r17z] _ _ _; exact S.keep [2, 3] rfl (st_end _ _ _ (by (repeat' (first | exact AHeap.set_same _ _ _ | refine AHeap.so ?_ ?_ | exact AHeap.n2 ‹_›)); first | done | fail) _ [i64 4, str [], i64 0, str [], nilA, i64 0, nilA, nilA, nilA, bl false, nilA, str tn, str [], nilA, exs wh, nilA, nilA, i64 (-1), bl false, i64 0] rfl rfl (by (repeat' (first | exact AHeap.set_same _ _ _)); first | done | fail) ⟨_, _, .refl _, (by repeat (first | exact AHeap.le.refl _ | refine AHeap.le.set ?_ _ (by (repeat' (first | assumption | exact AHeap.z1 ‹_› | refine AHeap.so ?_ ?_ | exact AHeap.n4 ‹_› ‹_› | exact AHeap.n8 ‹_› ‹_›)); first | done | fail))), rfl, rfl⟩))) | refine S.nilK ?_ | (refine S.op rfl ?_; first | (show ROpS _ _ (.call 30 [_, (.const (.string ⟨#[99, 114, 101, 97, 116, 101]⟩))]) _ _ _; refine callPC0 rfl rfl c0 (by repeat' (first | assumption | refine Glob.setF ?_ (by (repeat' (first | assumption)); first | done | fail))) (by (repeat' (first | assumption | refine AHeap.get_fresh ‹_› ?_)); first | done | fail) ?_) | (show ROpS _ _ (.call 30 [_, (.const (.string ⟨#[105, 110, 115, 101, 114, 116]⟩))]) _ _ _; refine callPC0 rfl rfl c1 (by repeat' (first | assumption | refine Glob.setF ?_ (by (repeat' (first | assumption)); first | done | fail))) (by (repeat' (first | assumption | refine AHeap.get_fresh ‹_› ?_)); first | done | fail) ?_) | (show ROpS _ _ (.call 30 [_, (.const (.string ⟨#[117, 112, 100, 97, 116, 101]⟩))]) _ _ _; refine callPC0 rfl rfl c2 (by repeat' (first | assumption | refine Glob.setF ?_ (by (repeat' (first | assumption)); first | done | fail))) (by (repeat' (first | assumption | refine AHeap.get_fresh ‹_› ?_)); first | done | fail) ?_) | (show ROpS _ _ (.call 30 [_, (.const (.string ⟨#[100, 101, 108, 101, 116, 101]⟩))]) _ _ _; refine callPC rfl rfl ct (by repeat' (first | assumption | refine Glob.setF ?_ (by (repeat' (first | assumption)); first | done | fail))) (by (repeat' (first | assumption | refine AHeap.get_fresh ‹_› ?_)); first | done | fail) (by repeat' (first | (apply AHeap.upd1; · exact (by first | exact AHeap.n4 ‹_› ‹_› | exact AHeap.n8 ‹_› ‹_›)) | exact rfl)) ?_) | (show ROpS _ _ (.call 34 _) _ _ _; refine callPCU rfl rfl c20 (by repeat' (first | assumption | refine Glob.setF ?_ (by (repeat' (first | assumption | exact AHeap.z1 ‹_› | refine AHeap.so ?_ ?_ | exact AHeap.n1 ‹_› | exact AHeap.n4 ‹_› ‹_› | exact AHeap.n8 ‹_› ‹_›)); first | done | fail) | refine Glob.setP ?_ (by (repeat' (first | assumption)); first | done | fail))) (by (repeat' (first | exact AHeap.set_same _ _ _ | refine AHeap.so ?_ ?_ | exact AHeap.ne_of ‹_› ‹_› | exact AHeap.n7 ‹_› ‹_›)); first | done | fail) (by repeat' (first | exact AHeap.set_set _ _ _ _ | (apply AHeap.upd1; · exact (by first | exact AHeap.n4 ‹_› ‹_› | exact AHeap.n8 ‹_› ‹_›)))) (fun x => ?_)) | (show ROpS _ _ (.call 35 _) _ _ _; refine callPC rfl rfl c21 (by repeat' (first | assumption | refine Glob.setF ?_ (by (repeat' (first | assumption | exact AHeap.z1 ‹_› | refine AHeap.so ?_ ?_ | exact AHeap.n1 ‹_› | exact AHeap.n4 ‹_› ‹_› | exact AHeap.n8 ‹_› ‹_›)); first | done | fail) | refine Glob.setP ?_ (by (repeat' (first | assumption)); first | done | fail))) (by (repeat' (first | exact AHeap.set_same _ _ _ | refine AHeap.so ?_ ?_ | exact AHeap.ne_of ‹_› ‹_› | exact AHeap.n7 ‹_› ‹_›)); first | done | fail) (by repeat' (first | exact AHeap.set_set _ _ _ _ | (apply AHeap.upd1; · exact (by first | exact AHeap.n4 ‹_› ‹_› | exact AHeap.n8 ‹_› ‹_›)))) ?_) | (show ROpS _ _ (.call 36 _) _ _ _; refine callPC rfl rfl c22 (by repeat' (first | assumption | refine Glob.setF ?_ (by (repeat' (first | assumption | exact AHeap.z1 ‹_› | refine AHeap.so ?_ ?_ | exact AHeap.n1 ‹_› | exact AHeap.n4 ‹_› ‹_› | exact AHeap.n8 ‹_› ‹_›)); first | done | fail) | refine Glob.setP ?_ (by (repeat' (first | assumption)); first | done | fail))) (by (repeat' (first | exact AHeap.set_same _ _ _ | refine AHeap.so ?_ ?_ | exact AHeap.ne_of ‹_› ‹_› | exact AHeap.n7 ‹_› ‹_›)); first | done | fail) (by repeat' (first | exact AHeap.set_set _ _ _ _ | (apply AHeap.upd1; · exact (by first | exact AHeap.n4 ‹_› ‹_› | exact AHeap.n8 ‹_› ‹_›)))) ?_) | refine R.mv rfl ?_ | refine R.fieldAddr rfl ?_ | refine R.alloc rfl (fun b hb => ?_) | refine R.build rfl rfl ?_ | refine R.buildSl rfl rfl rfl (by decide) ?_) | (refine S.op0 rfl ?_; first | refine S.storeN rfl rfl (by (repeat' (first | exact AHeap.set_same _ _ _)); first | done | fail) rfl rfl rfl (by rfl) rfl (by repeat' (first | exact AHeap.set_set _ _ _ _)) ?_) | refine S.seq ?_ | refine S.region ?_ | refine S.condT rfl ?_ | refine S.condF rfl ?_ | refine RRun.block ?_ | refine RRun.inBlock ?_)
theorem st_select (hT : TOk T) (st : PS) (hlt : st.i < T.length) (hd : st.d ≤ 20) (ct : PC T fin 30 [str [115, 101, 108, 101, 99, 116]] st (bl true) st.next) (c0 : PC0 T fin 30 [str [99, 114, 101, 97, 116, 101]] st (bl false)) (c1 : PC0 T fin 30 [str [105, 110, 115, 101, 114, 116]] st (bl false)) (c2 : PC0 T fin 30 [str [117, 112, 100, 97, 116, 101]] st (bl false)) (c3 : PC0 T fin 30 [str [100, 101, 108, 101, 116, 101]] st (bl false)) : ∃ (S : List AV) (st' : PS), S.length = 20 ∧ S.all AV.one = true ∧ IsSt S ∧ Goes T st st' ∧ PC T fin 17 [] st (.ag S) st' := by
  obtain ⟨S', s1, hl, ho, hi, g1, cs⟩ := choose_ex (fin := fin) hT st.next hlt hd
  refine ⟨S', s1, hl, ho, hi, (Goes.next hlt).trans g1, ?_⟩
  intro p h ⟨hg, hp⟩
  obtain ⟨c', hc1, hc2⟩ := res17
  refine ACalls.weak (ACalls.enter Try.func17 hc1 Try.ntmps17 hc2 (Nat.le_of_ble_eq_true rfl) rfl ?_)
  repeat' (first | ((show RRun _ _ _ [.code r17z] _ _ _; exact S.keep [2, 3] rfl (st_end _ _ _ (by (repeat' (first | exact AHeap.set_same _ _ _ | refine AHeap.so ?_ ?_ | exact AHeap.n2 ‹_›)); first | done | fail) _ S' hl ho (by (repeat' (first | exact AHeap.set_same _ _ _)); first | done | fail) ⟨_, _, .refl _, (by repeat (first | exact AHeap.le.refl _ | refine AHeap.le.set ?_ _ (by (repeat' (first | assumption | exact AHeap.z1 ‹_› | refine AHeap.so ?_ ?_ | exact AHeap.n4 ‹_› ‹_› | exact AHeap.n8 ‹_› ‹_›)); first | done | fail))), rfl, rfl⟩))) | refine S.nilK ?_ | (refine S.op rfl ?_; first | (show ROpS _ _ (.call 30 [_, (.const (.string ⟨#[99, 114, 101, 97, 116, 101]⟩))]) _ _ _; refine callPC0 rfl rfl c0 (by repeat' (first | assumption | refine Glob.setF ?_ (by (repeat' (first | assumption)); first | done | fail))) (by (repeat' (first | assumption | refine AHeap.get_fresh ‹_› ?_)); first | done | fail) ?_) | (show ROpS _ _ (.call 30 [_, (.const (.string ⟨#[105, 110, 115, 101, 114, 116]⟩))]) _ _ _; refine callPC0 rfl rfl c1 (by repeat' (first | assumption | refine Glob.setF ?_ (by (repeat' (first | assumption)); first | done | fail))) (by (repeat' (first | assumption | refine AHeap.get_fresh ‹_› ?_)); first | done | fail) ?_) | (show ROpS _ _ (.call 30 [_, (.const (.string ⟨#[117, 112, 100, 97, 116, 101]⟩))]) _ _ _; refine callPC0 rfl rfl c2 (by repeat' (first | assumption | refine Glob.setF ?_ (by (repeat' (first | assumption)); first | done | fail))) (by (repeat' (first | assumption | refine AHeap.get_fresh ‹_› ?_)); first | done | fail) ?_) | (show ROpS _ _ (.call 30 [_, (.const (.string ⟨#[100, 101, 108, 101, 116, 101]⟩))]) _ _ _; refine callPC0 rfl rfl c3 (by repeat' (first | assumption | refine Glob.setF ?_ (by (repeat' (first | assumption)); first | done | fail))) (by (repeat' (first | assumption | refine AHeap.get_fresh ‹_› ?_)); first | done | fail) ?_) | (show ROpS _ _ (.call 30 [_, (.const (.string ⟨#[115, 101, 108, 101, 99, 116]⟩))]) _ _ _; refine callPC rfl rfl ct (by repeat' (first | assumption | refine Glob.setF ?_ (by (repeat' (first | assumption)); first | done | fail))) (by (repeat' (first | assumption | refine AHeap.get_fresh ‹_› ?_)); first | done | fail) (by repeat' (first | (apply AHeap.upd1; · exact (by first | exact AHeap.n4 ‹_› ‹_› | exact AHeap.n8 ‹_› ‹_›)) | exact rfl)) ?_) | (show ROpS _ _ (.call 37 _) _ _ _; refine callSP rfl rfl cs (by first | exact AHeap.n7 ‹_› ‹_›) (by repeat' (first | assumption | refine Glob.setF ?_ (by (repeat' (first | assumption | exact AHeap.z1 ‹_› | refine AHeap.so ?_ ?_ | exact AHeap.n1 ‹_› | exact AHeap.n4 ‹_› ‹_› | exact AHeap.n8 ‹_› ‹_›)); first | done | fail) | refine Glob.setP ?_ (by (repeat' (first | assumption)); first | done | fail))) (by (repeat' (first | exact AHeap.set_same _ _ _ | refine AHeap.so ?_ ?_ | exact AHeap.ne_of ‹_› ‹_› | exact AHeap.n7 ‹_› ‹_›)); first | done | fail) (by (repeat' (first | exact AHeap.set_same _ _ _)); first | done | fail) (by repeat' (first | exact AHeap.set_set _ _ _ _ | (apply AHeap.upd1; · exact (by first | exact AHeap.n4 ‹_› ‹_› | exact AHeap.n8 ‹_› ‹_›)))) (by repeat' (first | exact AHeap.set_set _ _ _ _)) (fun x => ?_)) | refine R.mv rfl ?_ | refine R.alloc rfl (fun b hb => ?_) | refine R.build rfl rfl ?_) | (refine S.op0 rfl ?_; first | refine S.storeN rfl rfl (by (repeat' (first | exact AHeap.set_same _ _ _)); first | done | fail) rfl rfl rfl (by rfl) rfl (by repeat' (first | exact AHeap.set_set _ _ _ _)) ?_) | refine S.seq ?_ | refine S.region ?_ | refine S.condT rfl ?_ | refine S.condF rfl ?_ | refine RRun.block ?_ | refine RRun.inBlock ?_)
theorem st_begin (hT : TOk T) (st : PS) (hlt : st.i < T.length) (hd : st.d ≤ 20) (ct : PC T fin 30 [str [98, 101, 103, 105, 110]] st (bl true) st.next) (c0 : PC0 T fin 30 [str [99, 114, 101, 97, 116, 101]] st (bl false)) (c1 : PC0 T fin 30 [str [105, 110, 115, 101, 114, 116]] st (bl false)) (c2 : PC0 T fin 30 [str [117, 112, 100, 97, 116, 101]] st (bl false)) (c3 : PC0 T fin 30 [str [100, 101, 108, 101, 116, 101]] st (bl false)) (c4 : PC0 T fin 30 [str [115, 101, 108, 101, 99, 116]] st (bl false)) : ∃ (S : List AV) (st' : PS), S.length = 20 ∧ S.all AV.one = true ∧ IsSt S ∧ Goes T st st' ∧ PC T fin 17 [] st (.ag S) st' := by
  obtain ⟨n, s1, g1, c20⟩ := level_ex (fin := fin) hT st.next hlt
  refine ⟨[i64 6, str [], i64 0, str [], nilA, i64 0, nilA, nilA, nilA, bl false, nilA, str [], str [], nilA, nilA, nilA, nilA, i64 (-1), bl false, i64 n], s1, rfl, rfl, isSt_of nil_cols nil_ints nil_rows nil_sets (.of _) .nil (.of _) (.of _) .nil .nil .nil .nil (.of _) (.of _), (Goes.next hlt).trans g1, ?_⟩
  intro p h ⟨hg, hp⟩
  obtain ⟨c', hc1, hc2⟩ := res17
  refine ACalls.weak (ACalls.enter Try.func17 hc1 Try.ntmps17 hc2 (Nat.le_of_ble_eq_true rfl) rfl ?_)
  repeat' (first | ((show RRun _ _ _ [.code r17z] _ _ _; exact S.keep [2, 3] rfl (st_end _ _ _ (by (repeat' (first | exact AHeap.set_same _ _ _ | refine AHeap.so ?_ ?_ | exact AHeap.n2 ‹_›)); first | done | fail) _ [i64 6, str [], i64 0, str [], nilA, i64 0, nilA, nilA, nilA, bl false, nilA, str [], str [], nilA, nilA, nilA, nilA, i64 (-1), bl false, i64 n] rfl rfl (by (repeat' (first | exact AHeap.set_same _ _ _)); first | done | fail) ⟨_, _, .refl _, (by repeat (first | exact AHeap.le.refl _ | refine AHeap.le.set ?_ _ (by (repeat' (first | assumption | exact AHeap.z1 ‹_› | refine AHeap.so ?_ ?_ | exact AHeap.n4 ‹_› ‹_› | exact AHeap.n8 ‹_› ‹_›)); first | done | fail))), rfl, rfl⟩))) | refine S.nilK ?_ | (refine S.op rfl ?_; first | (show ROpS _ _ (.call 30 [_, (.const (.string ⟨#[99, 114, 101, 97, 116, 101]⟩))]) _ _ _; refine callPC0 rfl rfl c0 (by repeat' (first | assumption | refine Glob.setF ?_ (by (repeat' (first | assumption)); first | done | fail))) (by (repeat' (first | assumption | refine AHeap.get_fresh ‹_› ?_)); first | done | fail) ?_) | (show ROpS _ _ (.call 30 [_, (.const (.string ⟨#[105, 110, 115, 101, 114, 116]⟩))]) _ _ _; refine callPC0 rfl rfl c1 (by repeat' (first | assumption | refine Glob.setF ?_ (by (repeat' (first | assumption)); first | done | fail))) (by (repeat' (first | assumption | refine AHeap.get_fresh ‹_› ?_)); first | done | fail) ?_) | (show ROpS _ _ (.call 30 [_, (.const (.string ⟨#[117, 112, 100, 97, 116, 101]⟩))]) _ _ _; refine callPC0 rfl rfl c2 (by repeat' (first | assumption | refine Glob.setF ?_ (by (repeat' (first | assumption)); first | done | fail))) (by (repeat' (first | assumption | refine AHeap.get_fresh ‹_› ?_)); first | done | fail) ?_) | (show ROpS _ _ (.call 30 [_, (.const (.string ⟨#[100, 101, 108, 101, 116, 101]⟩))]) _ _ _; refine callPC0 rfl rfl c3 (by repeat' (first | assumption | refine Glob.setF ?_ (by (repeat' (first | assumption)); first | done | fail))) (by (repeat' (first | assumption | refine AHeap.get_fresh ‹_› ?_)); first | done | fail) ?_) | (show ROpS _ _ (.call 30 [_, (.const (.string ⟨#[115, 101, 108, 101, 99, 116]⟩))]) _ _ _; refine callPC0 rfl rfl c4 (by repeat' (first | assumption | refine Glob.setF ?_ (by (repeat' (first | assumption)); first | done | fail))) (by (repeat' (first | assumption | refine AHeap.get_fresh ‹_› ?_)); first | done | fail) ?_) | (show ROpS _ _ (.call 30 [_, (.const (.string ⟨#[98, 101, 103, 105, 110]⟩))]) _ _ _; refine callPC rfl rfl ct (by repeat' (first | assumption | refine Glob.setF ?_ (by (repeat' (first | assumption)); first | done | fail))) (by (repeat' (first | assumption | refine AHeap.get_fresh ‹_› ?_)); first | done | fail) (by repeat' (first | (apply AHeap.upd1; · exact (by first | exact AHeap.n4 ‹_› ‹_› | exact AHeap.n8 ‹_› ‹_›)) | exact rfl)) ?_) | (show ROpS _ _ (.call 38 _) _ _ _; refine callPC rfl rfl c20 (by repeat' (first | assumption | refine Glob.setF ?_ (by (repeat' (first | assumption | exact AHeap.z1 ‹_› | refine AHeap.so ?_ ?_ | exact AHeap.n1 ‹_› | exact AHeap.n4 ‹_› ‹_› | exact AHeap.n8 ‹_› ‹_›)); first | done | fail) | refine Glob.setP ?_ (by (repeat' (first | assumption)); first | done | fail))) (by (repeat' (first | exact AHeap.set_same _ _ _ | refine AHeap.so ?_ ?_ | exact AHeap.ne_of ‹_› ‹_› | exact AHeap.n7 ‹_› ‹_›)); first | done | fail) (by repeat' (first | exact AHeap.set_set _ _ _ _ | (apply AHeap.upd1; · exact (by first | exact AHeap.n4 ‹_› ‹_› | exact AHeap.n8 ‹_› ‹_›)))) ?_) | refine R.mv rfl ?_ | refine R.fieldAddr rfl ?_ | refine R.alloc rfl (fun b hb => ?_) | refine R.build rfl rfl ?_) | (refine S.op0 rfl ?_; first | refine S.storeN rfl rfl (by (repeat' (first | exact AHeap.set_same _ _ _)); first | done | fail) rfl rfl rfl (by rfl) rfl (by repeat' (first | exact AHeap.set_set _ _ _ _)) ?_) | refine S.seq ?_ | refine S.region ?_ | refine S.condT rfl ?_ | refine S.condF rfl ?_ | refine RRun.block ?_ | refine RRun.inBlock ?_)
theorem st_commit (hT : TOk T) (st : PS) (hlt : st.i < T.length) (hd : st.d ≤ 20) (ct : PC T fin 30 [str [99, 111, 109, 109, 105, 116]] st (bl true) st.next) (c0 : PC0 T fin 30 [str [99, 114, 101, 97, 116, 101]] st (bl false)) (c1 : PC0 T fin 30 [str [105, 110, 115, 101, 114, 116]] st (bl false)) (c2 : PC0 T fin 30 [str [117, 112, 100, 97, 116, 101]] st (bl false)) (c3 : PC0 T fin 30 [str [100, 101, 108, 101, 116, 101]] st (bl false)) (c4 : PC0 T fin 30 [str [115, 101, 108, 101, 99, 116]] st (bl false)) (c5 : PC0 T fin 30 [str [98, 101, 103, 105, 110]] st (bl false)) : ∃ (S : List AV) (st' : PS), S.length = 20 ∧ S.all AV.one = true ∧ IsSt S ∧ Goes T st st' ∧ PC T fin 17 [] st (.ag S) st' := by
  refine ⟨[i64 7, str [], i64 0, str [], nilA, i64 0, nilA, nilA, nilA, bl false, nilA, str [], str [], nilA, nilA, nilA, nilA, i64 (-1), bl false, i64 0], st.next, rfl, rfl, isSt_of nil_cols nil_ints nil_rows nil_sets (.of _) .nil (.of _) (.of _) .nil .nil .nil .nil (.of _) (.of _), Goes.next hlt, ?_⟩
  intro p h ⟨hg, hp⟩
  obtain ⟨c', hc1, hc2⟩ := res17
  refine ACalls.weak (ACalls.enter Try.func17 hc1 Try.ntmps17 hc2 (Nat.le_of_ble_eq_true rfl) rfl ?_)
  repeat' (first | ((show RRun _ _ _ [.code r17z] _ _ _; exact S.keep [2, 3] rfl (st_end _ _ _ (by (repeat' (first | exact AHeap.set_same _ _ _ | refine AHeap.so ?_ ?_ | exact AHeap.n2 ‹_›)); first | done | fail) _ [i64 7, str [], i64 0, str [], nilA, i64 0, nilA, nilA, nilA, bl false, nilA, str [], str [], nilA, nilA, nilA, nilA, i64 (-1), bl false, i64 0] rfl rfl (by (repeat' (first | exact AHeap.set_same _ _ _)); first | done | fail) ⟨_, _, .refl _, (by repeat (first | exact AHeap.le.refl _ | refine AHeap.le.set ?_ _ (by (repeat' (first | assumption | exact AHeap.z1 ‹_› | refine AHeap.so ?_ ?_ | exact AHeap.n4 ‹_› ‹_› | exact AHeap.n8 ‹_› ‹_›)); first | done | fail))), rfl, rfl⟩))) | refine S.nilK ?_ | (refine S.op rfl ?_; first | (show ROpS _ _ (.call 30 [_, (.const (.string ⟨#[99, 114, 101, 97, 116, 101]⟩))]) _ _ _; refine callPC0 rfl rfl c0 (by repeat' (first | assumption | refine Glob.setF ?_ (by (repeat' (first | assumption)); first | done | fail))) (by (repeat' (first | assumption | refine AHeap.get_fresh ‹_› ?_)); first | done | fail) ?_) | (show ROpS _ _ (.call 30 [_, (.const (.string ⟨#[105, 110, 115, 101, 114, 116]⟩))]) _ _ _; refine callPC0 rfl rfl c1 (by repeat' (first | assumption | refine Glob.setF ?_ (by (repeat' (first | assumption)); first | done | fail))) (by (repeat' (first | assumption | refine AHeap.get_fresh ‹_› ?_)); first | done | fail) ?_) | (show ROpS _ _ (.call 30 [_, (.const (.string ⟨#[117, 112, 100, 97, 116, 101]⟩))]) _ _ _; refine callPC0 rfl rfl c2 (by repeat' (first | assumption | refine Glob.setF ?_ (by (repeat' (first | assumption)); first | done | fail))) (by (repeat' (first | assumption | refine AHeap.get_fresh ‹_› ?_)); first | done | fail) ?_) | (show ROpS _ _ (.call 30 [_, (.const (.string ⟨#[100, 101, 108, 101, 116, 101]⟩))]) _ _ _; refine callPC0 rfl rfl c3 (by repeat' (first | assumption | refine Glob.setF ?_ (by (repeat' (first | assumption)); first | done | fail))) (by (repeat' (first | assumption | refine AHeap.get_fresh ‹_› ?_)); first | done | fail) ?_) | (show ROpS _ _ (.call 30 [_, (.const (.string ⟨#[115, 101, 108, 101, 99, 116]⟩))]) _ _ _; refine callPC0 rfl rfl c4 (by repeat' (first | assumption | refine Glob.setF ?_ (by (repeat' (first | assumption)); first | done | fail))) (by (repeat' (first | assumption | refine AHeap.get_fresh ‹_› ?_)); first | done | fail) ?_) | (show ROpS _ _ (.call 30 [_, (.const (.string ⟨#[98, 101, 103, 105, 110]⟩))]) _ _ _; refine callPC0 rfl rfl c5 (by repeat' (first | assumption | refine Glob.setF ?_ (by (repeat' (first | assumption)); first | done | fail))) (by (repeat' (first | assumption | refine AHeap.get_fresh ‹_› ?_)); first | done | fail) ?_) | (show ROpS _ _ (.call 30 [_, (.const (.string ⟨#[99, 111, 109, 109, 105, 116]⟩))]) _ _ _; refine callPC rfl rfl ct (by repeat' (first | assumption | refine Glob.setF ?_ (by (repeat' (first | assumption)); first | done | fail))) (by (repeat' (first | assumption | refine AHeap.get_fresh ‹_› ?_)); first | done | fail) (by repeat' (first | (apply AHeap.upd1; · exact (by first | exact AHeap.n4 ‹_› ‹_› | exact AHeap.n8 ‹_› ‹_›)) | exact rfl)) ?_) | refine R.mv rfl ?_ | refine R.fieldAddr rfl ?_ | refine R.alloc rfl (fun b hb => ?_) | refine R.build rfl rfl ?_) | (refine S.op0 rfl ?_; first | refine S.storeN rfl rfl (by (repeat' (first | exact AHeap.set_same _ _ _)); first | done | fail) rfl rfl rfl (by rfl) rfl (by repeat' (first | exact AHeap.set_set _ _ _ _)) ?_) | refine S.seq ?_ | refine S.region ?_ | refine S.condT rfl ?_ | refine S.condF rfl ?_ | refine RRun.block ?_ | refine RRun.inBlock ?_)
theorem st_to (hT : TOk T) (st : PS) (hlt : st.i < T.length) (hd : st.d ≤ 20) (ct : PC T fin 30 [str [114, 111, 108, 108, 98, 97, 99, 107]] st (bl true) st.next) (c0 : PC0 T fin 30 [str [99, 114, 101, 97, 116, 101]] st (bl false)) (c1 : PC0 T fin 30 [str [105, 110, 115, 101, 114, 116]] st (bl false)) (c2 : PC0 T fin 30 [str [117, 112, 100, 97, 116, 101]] st (bl false)) (c3 : PC0 T fin 30 [str [100, 101, 108, 101, 116, 101]] st (bl false)) (c4 : PC0 T fin 30 [str [115, 101, 108, 101, 99, 116]] st (bl false)) (c5 : PC0 T fin 30 [str [98, 101, 103, 105, 110]] st (bl false)) (c6 : PC0 T fin 30 [str [99, 111, 109, 109, 105, 116]] st (bl false)) (hlt2 : st.next.i < T.length) (c20 : PC T fin 30 [str [116, 111]] st.next (bl true) st.next.next) : ∃ (S : List AV) (st' : PS), S.length = 20 ∧ S.all AV.one = true ∧ IsSt S ∧ Goes T st st' ∧ PC T fin 17 [] st (.ag S) st' := by
  have c21 := name_spec (fin := fin) hT st.next.next
  have g2 := goes_name (fin := fin) (st := st.next.next) hlt2
  generalize nameP T fin st.next.next = r at c21 g2
  obtain ⟨tn, s2⟩ := r
  simp only at c21 g2
  refine ⟨[i64 10, str tn, i64 0, str [], nilA, i64 0, nilA, nilA, nilA, bl false, nilA, str [], str [], nilA, nilA, nilA, nilA, i64 (-1), bl false, i64 0], s2, rfl, rfl, isSt_of nil_cols nil_ints nil_rows nil_sets (.of _) .nil (.of _) (.of _) .nil .nil .nil .nil (.of _) (.of _), (Goes.next hlt).trans ((Goes.next hlt2).trans g2), ?_⟩
  intro p h ⟨hg, hp⟩
  obtain ⟨c', hc1, hc2⟩ := res17
  refine ACalls.weak (ACalls.enter Try.func17 hc1 Try.ntmps17 hc2 (Nat.le_of_ble_eq_true rfl) rfl ?_)
  repeat' (first | ((show RRun _ _ _ [.code r17z] _ _ _; exact S.keep [2, 3] rfl (st_end _ _ _ (by (repeat' (first | exact AHeap.set_same _ _ _ | refine AHeap.so ?_ ?_ | exact AHeap.n2 ‹_›)); first | done | fail) _ [i64 10, str tn, i64 0, str [], nilA, i64 0, nilA, nilA, nilA, bl false, nilA, str [], str [], nilA, nilA, nilA, nilA, i64 (-1), bl false, i64 0] rfl rfl (by (repeat' (first | exact AHeap.set_same _ _ _)); first | done | fail) ⟨_, _, .refl _, (by repeat (first | exact AHeap.le.refl _ | refine AHeap.le.set ?_ _ (by (repeat' (first | assumption | exact AHeap.z1 ‹_› | refine AHeap.so ?_ ?_ | exact AHeap.n4 ‹_› ‹_› | exact AHeap.n8 ‹_› ‹_›)); first | done | fail))), rfl, rfl⟩))) | refine S.nilK ?_ | (refine S.op rfl ?_; first | (show ROpS _ _ (.call 30 [_, (.const (.string ⟨#[99, 114, 101, 97, 116, 101]⟩))]) _ _ _; refine callPC0 rfl rfl c0 (by repeat' (first | assumption | refine Glob.setF ?_ (by (repeat' (first | assumption)); first | done | fail))) (by (repeat' (first | assumption | refine AHeap.get_fresh ‹_› ?_)); first | done | fail) ?_) | (show ROpS _ _ (.call 30 [_, (.const (.string ⟨#[105, 110, 115, 101, 114, 116]⟩))]) _ _ _; refine callPC0 rfl rfl c1 (by repeat' (first | assumption | refine Glob.setF ?_ (by (repeat' (first | assumption)); first | done | fail))) (by (repeat' (first | assumption | refine AHeap.get_fresh ‹_› ?_)); first | done | fail) ?_) | (show ROpS _ _ (.call 30 [_, (.const (.string ⟨#[117, 112, 100, 97, 116, 101]⟩))]) _ _ _; refine callPC0 rfl rfl c2 (by repeat' (first | assumption | refine Glob.setF ?_ (by (repeat' (first | assumption)); first | done | fail))) (by (repeat' (first | assumption | refine AHeap.get_fresh ‹_› ?_)); first | done | fail) ?_) | (show ROpS _ _ (.call 30 [_, (.const (.string ⟨#[100, 101, 108, 101, 116, 101]⟩))]) _ _ _; refine callPC0 rfl rfl c3 (by repeat' (first | assumption | refine Glob.setF ?_ (by (repeat' (first | assumption)); first | done | fail))) (by (repeat' (first | assumption | refine AHeap.get_fresh ‹_› ?_)); first | done | fail) ?_) | (show ROpS _ _ (.call 30 [_, (.const (.string ⟨#[115, 101, 108, 101, 99, 116]⟩))]) _ _ _; refine callPC0 rfl rfl c4 (by repeat' (first | assumption | refine Glob.setF ?_ (by (repeat' (first | assumption)); first | done | fail))) (by (repeat' (first | assumption | refine AHeap.get_fresh ‹_› ?_)); first | done | fail) ?_) | (show ROpS _ _ (.call 30 [_, (.const (.string ⟨#[98, 101, 103, 105, 110]⟩))]) _ _ _; refine callPC0 rfl rfl c5 (by repeat' (first | assumption | refine Glob.setF ?_ (by (repeat' (first | assumption)); first | done | fail))) (by (repeat' (first | assumption | refine AHeap.get_fresh ‹_› ?_)); first | done | fail) ?_) | (show ROpS _ _ (.call 30 [_, (.const (.string ⟨#[99, 111, 109, 109, 105, 116]⟩))]) _ _ _; refine callPC0 rfl rfl c6 (by repeat' (first | assumption | refine Glob.setF ?_ (by (repeat' (first | assumption)); first | done | fail))) (by (repeat' (first | assumption | refine AHeap.get_fresh ‹_› ?_)); first | done | fail) ?_) | (show ROpS _ _ (.call 30 [_, (.const (.string ⟨#[114, 111, 108, 108, 98, 97, 99, 107]⟩))]) _ _ _; refine callPC rfl rfl ct (by repeat' (first | assumption | refine Glob.setF ?_ (by (repeat' (first | assumption)); first | done | fail))) (by (repeat' (first | assumption | refine AHeap.get_fresh ‹_› ?_)); first | done | fail) (by repeat' (first | (apply AHeap.upd1; · exact (by first | exact AHeap.n4 ‹_› ‹_› | exact AHeap.n8 ‹_› ‹_›)) | exact rfl)) ?_) | (show ROpS _ _ (.call 30 [_, (.const (.string ⟨#[116, 111]⟩))]) _ _ _; refine callPC rfl rfl c20 (by repeat' (first | assumption | refine Glob.setF ?_ (by (repeat' (first | assumption | exact AHeap.z1 ‹_› | refine AHeap.so ?_ ?_ | exact AHeap.n1 ‹_› | exact AHeap.n4 ‹_› ‹_› | exact AHeap.n8 ‹_› ‹_›)); first | done | fail) | refine Glob.setP ?_ (by (repeat' (first | assumption)); first | done | fail))) (by (repeat' (first | exact AHeap.set_same _ _ _ | refine AHeap.so ?_ ?_ | exact AHeap.ne_of ‹_› ‹_› | exact AHeap.n7 ‹_› ‹_›)); first | done | fail) (by repeat' (first | exact AHeap.set_set _ _ _ _ | (apply AHeap.upd1; · exact (by first | exact AHeap.n4 ‹_› ‹_› | exact AHeap.n8 ‹_› ‹_›)))) ?_) | (show ROpS _ _ (.call 35 _) _ _ _; refine callPC rfl rfl c21 (by repeat' (first | assumption | refine Glob.setF ?_ (by (repeat' (first | assumption | exact AHeap.z1 ‹_› | refine AHeap.so ?_ ?_ | exact AHeap.n1 ‹_› | exact AHeap.n4 ‹_› ‹_› | exact AHeap.n8 ‹_› ‹_›)); first | done | fail) | refine Glob.setP ?_ (by (repeat' (first | assumption)); first | done | fail))) (by (repeat' (first | exact AHeap.set_same _ _ _ | refine AHeap.so ?_ ?_ | exact AHeap.ne_of ‹_› ‹_› | exact AHeap.n7 ‹_› ‹_›)); first | done | fail) (by repeat' (first | exact AHeap.set_set _ _ _ _ | (apply AHeap.upd1; · exact (by first | exact AHeap.n4 ‹_› ‹_› | exact AHeap.n8 ‹_› ‹_›)))) ?_) | refine R.mv rfl ?_ | refine R.fieldAddr rfl ?_ | refine R.alloc rfl (fun b hb => ?_) | refine R.build rfl rfl ?_) | (refine S.op0 rfl ?_; first | refine S.storeN rfl rfl (by (repeat' (first | exact AHeap.set_same _ _ _)); first | done | fail) rfl rfl rfl (by rfl) rfl (by repeat' (first | exact AHeap.set_set _ _ _ _)) ?_) | refine S.seq ?_ | refine S.region ?_ | refine S.condT rfl ?_ | refine S.condF rfl ?_ | refine RRun.block ?_ | refine RRun.inBlock ?_)
theorem st_back (hT : TOk T) (st : PS) (hlt : st.i < T.length) (hd : st.d ≤ 20) (ct : PC T fin 30 [str [114, 111, 108, 108, 98, 97, 99, 107]] st (bl true) st.next) (c0 : PC0 T fin 30 [str [99, 114, 101, 97, 116, 101]] st (bl false)) (c1 : PC0 T fin 30 [str [105, 110, 115, 101, 114, 116]] st (bl false)) (c2 : PC0 T fin 30 [str [117, 112, 100, 97, 116, 101]] st (bl false)) (c3 : PC0 T fin 30 [str [100, 101, 108, 101, 116, 101]] st (bl false)) (c4 : PC0 T fin 30 [str [115, 101, 108, 101, 99, 116]] st (bl false)) (c5 : PC0 T fin 30 [str [98, 101, 103, 105, 110]] st (bl false)) (c6 : PC0 T fin 30 [str [99, 111, 109, 109, 105, 116]] st (bl false)) (c20 : PC0 T fin 30 [str [116, 111]] st.next (bl false)) : ∃ (S : List AV) (st' : PS), S.length = 20 ∧ S.all AV.one = true ∧ IsSt S ∧ Goes T st st' ∧ PC T fin 17 [] st (.ag S) st' := by
  refine ⟨[i64 8, str [], i64 0, str [], nilA, i64 0, nilA, nilA, nilA, bl false, nilA, str [], str [], nilA, nilA, nilA, nilA, i64 (-1), bl false, i64 0], st.next, rfl, rfl, isSt_of nil_cols nil_ints nil_rows nil_sets (.of _) .nil (.of _) (.of _) .nil .nil .nil .nil (.of _) (.of _), Goes.next hlt, ?_⟩
  intro p h ⟨hg, hp⟩
  obtain ⟨c', hc1, hc2⟩ := res17
  refine ACalls.weak (ACalls.enter Try.func17 hc1 Try.ntmps17 hc2 (Nat.le_of_ble_eq_true rfl) rfl ?_)
  repeat' (first | ((show RRun _ _ _ [.code r17z] _ _ _; exact S.keep [2, 3] rfl (st_end _ _ _ (by (repeat' (first | exact AHeap.set_same _ _ _ | refine AHeap.so ?_ ?_ | exact AHeap.n2 ‹_›)); first | done | fail) _ [i64 8, str [], i64 0, str [], nilA, i64 0, nilA, nilA, nilA, bl false, nilA, str [], str [], nilA, nilA, nilA, nilA, i64 (-1), bl false, i64 0] rfl rfl (by (repeat' (first | exact AHeap.set_same _ _ _)); first | done | fail) ⟨_, _, .refl _, (by repeat (first | exact AHeap.le.refl _ | refine AHeap.le.set ?_ _ (by (repeat' (first | assumption | exact AHeap.z1 ‹_› | refine AHeap.so ?_ ?_ | exact AHeap.n4 ‹_› ‹_› | exact AHeap.n8 ‹_› ‹_›)); first | done | fail))), rfl, rfl⟩))) | refine S.nilK ?_ | (refine S.op rfl ?_; first | (show ROpS _ _ (.call 30 [_, (.const (.string ⟨#[99, 114, 101, 97, 116, 101]⟩))]) _ _ _; refine callPC0 rfl rfl c0 (by repeat' (first | assumption | refine Glob.setF ?_ (by (repeat' (first | assumption)); first | done | fail))) (by (repeat' (first | assumption | refine AHeap.get_fresh ‹_› ?_)); first | done | fail) ?_) | (show ROpS _ _ (.call 30 [_, (.const (.string ⟨#[105, 110, 115, 101, 114, 116]⟩))]) _ _ _; refine callPC0 rfl rfl c1 (by repeat' (first | assumption | refine Glob.setF ?_ (by (repeat' (first | assumption)); first | done | fail))) (by (repeat' (first | assumption | refine AHeap.get_fresh ‹_› ?_)); first | done | fail) ?_) | (show ROpS _ _ (.call 30 [_, (.const (.string ⟨#[117, 112, 100, 97, 116, 101]⟩))]) _ _ _; refine callPC0 rfl rfl c2 (by repeat' (first | assumption | refine Glob.setF ?_ (by (repeat' (first | assumption)); first | done | fail))) (by (repeat' (first | assumption | refine AHeap.get_fresh ‹_› ?_)); first | done | fail) ?_) | (show ROpS _ _ (.call 30 [_, (.const (.string ⟨#[100, 101, 108, 101, 116, 101]⟩))]) _ _ _; refine callPC0 rfl rfl c3 (by repeat' (first | assumption | refine Glob.setF ?_ (by (repeat' (first | assumption)); first | done | fail))) (by (repeat' (first | assumption | refine AHeap.get_fresh ‹_› ?_)); first | done | fail) ?_) | (show ROpS _ _ (.call 30 [_, (.const (.string ⟨#[115, 101, 108, 101, 99, 116]⟩))]) _ _ _; refine callPC0 rfl rfl c4 (by repeat' (first | assumption | refine Glob.setF ?_ (by (repeat' (first | assumption)); first | done | fail))) (by (repeat' (first | assumption | refine AHeap.get_fresh ‹_› ?_)); first | done | fail) ?_) | (show ROpS _ _ (.call 30 [_, (.const (.string ⟨#[98, 101, 103, 105, 110]⟩))]) _ _ _; refine callPC0 rfl rfl c5 (by repeat' (first | assumption | refine Glob.setF ?_ (by (repeat' (first | assumption)); first | done | fail))) (by (repeat' (first | assumption | refine AHeap.get_fresh ‹_› ?_)); first | done | fail) ?_) | (show ROpS _ _ (.call 30 [_, (.const (.string ⟨#[99, 111, 109, 109, 105, 116]⟩))]) _ _ _; refine callPC0 rfl rfl c6 (by repeat' (first | assumption | refine Glob.setF ?_ (by (repeat' (first | assumption)); first | done | fail))) (by (repeat' (first | assumption | refine AHeap.get_fresh ‹_› ?_)); first | done | fail) ?_) | (show ROpS _ _ (.call 30 [_, (.const (.string ⟨#[114, 111, 108, 108, 98, 97, 99, 107]⟩))]) _ _ _; refine callPC rfl rfl ct (by repeat' (first | assumption | refine Glob.setF ?_ (by (repeat' (first | assumption)); first | done | fail))) (by (repeat' (first | assumption | refine AHeap.get_fresh ‹_› ?_)); first | done | fail) (by repeat' (first | (apply AHeap.upd1; · exact (by first | exact AHeap.n4 ‹_› ‹_› | exact AHeap.n8 ‹_› ‹_›)) | exact rfl)) ?_) | (show ROpS _ _ (.call 30 [_, (.const (.string ⟨#[116, 111]⟩))]) _ _ _; refine callPC0 rfl rfl c20 (by repeat' (first | assumption | refine Glob.setF ?_ (by (repeat' (first | assumption | exact AHeap.z1 ‹_› | refine AHeap.so ?_ ?_ | exact AHeap.n1 ‹_› | exact AHeap.n4 ‹_› ‹_› | exact AHeap.n8 ‹_› ‹_›)); first | done | fail) | refine Glob.setP ?_ (by (repeat' (first | assumption)); first | done | fail))) (by (repeat' (first | exact AHeap.set_same _ _ _ | refine AHeap.so ?_ ?_ | exact AHeap.ne_of ‹_› ‹_› | exact AHeap.n7 ‹_› ‹_›)); first | done | fail) ?_) | refine R.mv rfl ?_ | refine R.fieldAddr rfl ?_ | refine R.alloc rfl (fun b hb => ?_) | refine R.build rfl rfl ?_) | (refine S.op0 rfl ?_; first | refine S.storeN rfl rfl (by (repeat' (first | exact AHeap.set_same _ _ _)); first | done | fail) rfl rfl rfl (by rfl) rfl (by repeat' (first | exact AHeap.set_set _ _ _ _)) ?_) | refine S.seq ?_ | refine S.region ?_ | refine S.condT rfl ?_ | refine S.condF rfl ?_ | refine RRun.skip ?_ | refine RRun.block ?_ | refine RRun.inBlock ?_)
theorem st_savepoint (hT : TOk T) (st : PS) (hlt : st.i < T.length) (hd : st.d ≤ 20) (ct : PC T fin 30 [str [115, 97, 118, 101, 112, 111, 105, 110, 116]] st (bl true) st.next) (c0 : PC0 T fin 30 [str [99, 114, 101, 97, 116, 101]] st (bl false)) (c1 : PC0 T fin 30 [str [105, 110, 115, 101, 114, 116]] st (bl false)) (c2 : PC0 T fin 30 [str [117, 112, 100, 97, 116, 101]] st (bl false)) (c3 : PC0 T fin 30 [str [100, 101, 108, 101, 116, 101]] st (bl false)) (c4 : PC0 T fin 30 [str [115, 101, 108, 101, 99, 116]] st (bl false)) (c5 : PC0 T fin 30 [str [98, 101, 103, 105, 110]] st (bl false)) (c6 : PC0 T fin 30 [str [99, 111, 109, 109, 105, 116]] st (bl false)) (c7 : PC0 T fin 30 [str [114, 111, 108, 108, 98, 97, 99, 107]] st (bl false)) : ∃ (S : List AV) (st' : PS), S.length = 20 ∧ S.all AV.one = true ∧ IsSt S ∧ Goes T st st' ∧ PC T fin 17 [] st (.ag S) st' := by
  have c21 := name_spec (fin := fin) hT st.next
  have g2 := goes_name (fin := fin) (st := st.next) hlt
  generalize nameP T fin st.next = r at c21 g2
  obtain ⟨tn, s2⟩ := r
  simp only at c21 g2
  refine ⟨[i64 9, str tn, i64 0, str [], nilA, i64 0, nilA, nilA, nilA, bl false, nilA, str [], str [], nilA, nilA, nilA, nilA, i64 (-1), bl false, i64 0], s2, rfl, rfl, isSt_of nil_cols nil_ints nil_rows nil_sets (.of _) .nil (.of _) (.of _) .nil .nil .nil .nil (.of _) (.of _), (Goes.next hlt).trans g2, ?_⟩
  intro p h ⟨hg, hp⟩
  obtain ⟨c', hc1, hc2⟩ := res17
  refine ACalls.weak (ACalls.enter Try.func17 hc1 Try.ntmps17 hc2 (Nat.le_of_ble_eq_true rfl) rfl ?_)
  repeat' (first | ((show RRun _ _ _ [.code r17z] _ _ _; exact S.keep [2, 3] rfl (st_end _ _ _ (by (repeat' (first | exact AHeap.set_same _ _ _ | refine AHeap.so ?_ ?_ | exact AHeap.n2 ‹_›)); first | done | fail) _ [i64 9, str tn, i64 0, str [], nilA, i64 0, nilA, nilA, nilA, bl false, nilA, str [], str [], nilA, nilA, nilA, nilA, i64 (-1), bl false, i64 0] rfl rfl (by (repeat' (first | exact AHeap.set_same _ _ _)); first | done | fail) ⟨_, _, .refl _, (by repeat (first | exact AHeap.le.refl _ | refine AHeap.le.set ?_ _ (by (repeat' (first | assumption | exact AHeap.z1 ‹_› | refine AHeap.so ?_ ?_ | exact AHeap.n4 ‹_› ‹_› | exact AHeap.n8 ‹_› ‹_›)); first | done | fail))), rfl, rfl⟩))) | refine S.nilK ?_ | (refine S.op rfl ?_; first | (show ROpS _ _ (.call 30 [_, (.const (.string ⟨#[99, 114, 101, 97, 116, 101]⟩))]) _ _ _; refine callPC0 rfl rfl c0 (by repeat' (first | assumption | refine Glob.setF ?_ (by (repeat' (first | assumption)); first | done | fail))) (by (repeat' (first | assumption | refine AHeap.get_fresh ‹_› ?_)); first | done | fail) ?_) | (show ROpS _ _ (.call 30 [_, (.const (.string ⟨#[105, 110, 115, 101, 114, 116]⟩))]) _ _ _; refine callPC0 rfl rfl c1 (by repeat' (first | assumption | refine Glob.setF ?_ (by (repeat' (first | assumption)); first | done | fail))) (by (repeat' (first | assumption | refine AHeap.get_fresh ‹_› ?_)); first | done | fail) ?_) | (show ROpS _ _ (.call 30 [_, (.const (.string ⟨#[117, 112, 100, 97, 116, 101]⟩))]) _ _ _; refine callPC0 rfl rfl c2 (by repeat' (first | assumption | refine Glob.setF ?_ (by (repeat' (first | assumption)); first | done | fail))) (by (repeat' (first | assumption | refine AHeap.get_fresh ‹_› ?_)); first | done | fail) ?_) | (show ROpS _ _ (.call 30 [_, (.const (.string ⟨#[100, 101, 108, 101, 116, 101]⟩))]) _ _ _; refine callPC0 rfl rfl c3 (by repeat' (first | assumption | refine Glob.setF ?_ (by (repeat' (first | assumption)); first | done | fail))) (by (repeat' (first | assumption | refine AHeap.get_fresh ‹_› ?_)); first | done | fail) ?_) | (show ROpS _ _ (.call 30 [_, (.const (.string ⟨#[115, 101, 108, 101, 99, 116]⟩))]) _ _ _; refine callPC0 rfl rfl c4 (by repeat' (first | assumption | refine Glob.setF ?_ (by (repeat' (first | assumption)); first | done | fail))) (by (repeat' (first | assumption | refine AHeap.get_fresh ‹_› ?_)); first | done | fail) ?_) | (show ROpS _ _ (.call 30 [_, (.const (.string ⟨#[98, 101, 103, 105, 110]⟩))]) _ _ _; refine callPC0 rfl rfl c5 (by repeat' (first | assumption | refine Glob.setF ?_ (by (repeat' (first | assumption)); first | done | fail))) (by (repeat' (first | assumption | refine AHeap.get_fresh ‹_› ?_)); first | done | fail) ?_) | (show ROpS _ _ (.call 30 [_, (.const (.string ⟨#[99, 111, 109, 109, 105, 116]⟩))]) _ _ _; refine callPC0 rfl rfl c6 (by repeat' (first | assumption | refine Glob.setF ?_ (by (repeat' (first | assumption)); first | done | fail))) (by (repeat' (first | assumption | refine AHeap.get_fresh ‹_› ?_)); first | done | fail) ?_) | (show ROpS _ _ (.call 30 [_, (.const (.string ⟨#[114, 111, 108, 108, 98, 97, 99, 107]⟩))]) _ _ _; refine callPC0 rfl rfl c7 (by repeat' (first | assumption | refine Glob.setF ?_ (by (repeat' (first | assumption)); first | done | fail))) (by (repeat' (first | assumption | refine AHeap.get_fresh ‹_› ?_)); first | done | fail) ?_) | (show ROpS _ _ (.call 30 [_, (.const (.string ⟨#[115, 97, 118, 101, 112, 111, 105, 110, 116]⟩))]) _ _ _; refine callPC rfl rfl ct (by repeat' (first | assumption | refine Glob.setF ?_ (by (repeat' (first | assumption)); first | done | fail))) (by (repeat' (first | assumption | refine AHeap.get_fresh ‹_› ?_)); first | done | fail) (by repeat' (first | (apply AHeap.upd1; · exact (by first | exact AHeap.n4 ‹_› ‹_› | exact AHeap.n8 ‹_› ‹_›)) | exact rfl)) ?_) | (show ROpS _ _ (.call 35 _) _ _ _; refine callPC rfl rfl c21 (by repeat' (first | assumption | refine Glob.setF ?_ (by (repeat' (first | assumption | exact AHeap.z1 ‹_› | refine AHeap.so ?_ ?_ | exact AHeap.n1 ‹_› | exact AHeap.n4 ‹_› ‹_› | exact AHeap.n8 ‹_› ‹_›)); first | done | fail) | refine Glob.setP ?_ (by (repeat' (first | assumption)); first | done | fail))) (by (repeat' (first | exact AHeap.set_same _ _ _ | refine AHeap.so ?_ ?_ | exact AHeap.ne_of ‹_› ‹_› | exact AHeap.n7 ‹_› ‹_›)); first | done | fail) (by repeat' (first | exact AHeap.set_set _ _ _ _ | (apply AHeap.upd1; · exact (by first | exact AHeap.n4 ‹_› ‹_› | exact AHeap.n8 ‹_› ‹_›)))) ?_) | refine R.mv rfl ?_ | refine R.fieldAddr rfl ?_ | refine R.alloc rfl (fun b hb => ?_) | refine R.build rfl rfl ?_) | (refine S.op0 rfl ?_; first | refine S.storeN rfl rfl (by (repeat' (first | exact AHeap.set_same _ _ _)); first | done | fail) rfl rfl rfl (by rfl) rfl (by repeat' (first | exact AHeap.set_set _ _ _ _)) ?_) | refine S.seq ?_ | refine S.region ?_ | refine S.condT rfl ?_ | refine S.condF rfl ?_ | refine RRun.block ?_ | refine RRun.inBlock ?_)
theorem st_none (hT : TOk T) (st : PS) (hi : st.i ≤ T.length) (hd : st.d ≤ 20) (c0 : PC0 T fin 30 [str [99, 114, 101, 97, 116, 101]] st (bl false)) (c1 : PC0 T fin 30 [str [105, 110, 115, 101, 114, 116]] st (bl false)) (c2 : PC0 T fin 30 [str [117, 112, 100, 97, 116, 101]] st (bl false)) (c3 : PC0 T fin 30 [str [100, 101, 108, 101, 116, 101]] st (bl false)) (c4 : PC0 T fin 30 [str [115, 101, 108, 101, 99, 116]] st (bl false)) (c5 : PC0 T fin 30 [str [98, 101, 103, 105, 110]] st (bl false)) (c6 : PC0 T fin 30 [str [99, 111, 109, 109, 105, 116]] st (bl false)) (c7 : PC0 T fin 30 [str [114, 111, 108, 108, 98, 97, 99, 107]] st (bl false)) (c8 : PC0 T fin 30 [str [115, 97, 118, 101, 112, 111, 105, 110, 116]] st (bl false)) : ∃ (S : List AV) (st' : PS), S.length = 20 ∧ S.all AV.one = true ∧ IsSt S ∧ Goes T st st' ∧ PC T fin 17 [] st (.ag S) st' := by
  have cw := wrong_spec (T := T) (fin := fin) st
  have gw := goes_wrong (fin := fin) (st := st) hi
  generalize wrongP T fin st = s1 at cw gw
  refine ⟨[i64 0, str [], i64 0, str [], nilA, i64 0, nilA, nilA, nilA, bl false, nilA, str [], str [], nilA, nilA, nilA, nilA, i64 (-1), bl false, i64 0], s1, rfl, rfl, isSt_of nil_cols nil_ints nil_rows nil_sets (.of _) .nil (.of _) (.of _) .nil .nil .nil .nil (.of _) (.of _), gw, ?_⟩
  intro p h ⟨hg, hp⟩
  obtain ⟨c', hc1, hc2⟩ := res17
  refine ACalls.weak (ACalls.enter Try.func17 hc1 Try.ntmps17 hc2 (Nat.le_of_ble_eq_true rfl) rfl ?_)
  repeat' (first | ((show RRun _ _ _ [.code r17z] _ _ _; exact S.keep [2, 3] rfl (st_end _ _ _ (by (repeat' (first | exact AHeap.set_same _ _ _ | refine AHeap.so ?_ ?_ | exact AHeap.n2 ‹_›)); first | done | fail) _ [i64 0, str [], i64 0, str [], nilA, i64 0, nilA, nilA, nilA, bl false, nilA, str [], str [], nilA, nilA, nilA, nilA, i64 (-1), bl false, i64 0] rfl rfl (by (repeat' (first | exact AHeap.set_same _ _ _)); first | done | fail) ⟨_, _, .refl _, (by repeat (first | exact AHeap.le.refl _ | refine AHeap.le.set ?_ _ (by (repeat' (first | assumption | exact AHeap.z1 ‹_› | refine AHeap.so ?_ ?_ | exact AHeap.n4 ‹_› ‹_› | exact AHeap.n8 ‹_› ‹_›)); first | done | fail))), rfl, rfl⟩))) | refine S.nilK ?_ | (refine S.op rfl ?_; first | (show ROpS _ _ (.call 30 [_, (.const (.string ⟨#[99, 114, 101, 97, 116, 101]⟩))]) _ _ _; refine callPC0 rfl rfl c0 (by repeat' (first | assumption | refine Glob.setF ?_ (by (repeat' (first | assumption)); first | done | fail))) (by (repeat' (first | assumption | refine AHeap.get_fresh ‹_› ?_)); first | done | fail) ?_) | (show ROpS _ _ (.call 30 [_, (.const (.string ⟨#[105, 110, 115, 101, 114, 116]⟩))]) _ _ _; refine callPC0 rfl rfl c1 (by repeat' (first | assumption | refine Glob.setF ?_ (by (repeat' (first | assumption)); first | done | fail))) (by (repeat' (first | assumption | refine AHeap.get_fresh ‹_› ?_)); first | done | fail) ?_) | (show ROpS _ _ (.call 30 [_, (.const (.string ⟨#[117, 112, 100, 97, 116, 101]⟩))]) _ _ _; refine callPC0 rfl rfl c2 (by repeat' (first | assumption | refine Glob.setF ?_ (by (repeat' (first | assumption)); first | done | fail))) (by (repeat' (first | assumption | refine AHeap.get_fresh ‹_› ?_)); first | done | fail) ?_) | (show ROpS _ _ (.call 30 [_, (.const (.string ⟨#[100, 101, 108, 101, 116, 101]⟩))]) _ _ _; refine callPC0 rfl rfl c3 (by repeat' (first | assumption | refine Glob.setF ?_ (by (repeat' (first | assumption)); first | done | fail))) (by (repeat' (first | assumption | refine AHeap.get_fresh ‹_› ?_)); first | done | fail) ?_) | (show ROpS _ _ (.call 30 [_, (.const (.string ⟨#[115, 101, 108, 101, 99, 116]⟩))]) _ _ _; refine callPC0 rfl rfl c4 (by repeat' (first | assumption | refine Glob.setF ?_ (by (repeat' (first | assumption)); first | done | fail))) (by (repeat' (first | assumption | refine AHeap.get_fresh ‹_› ?_)); first | done | fail) ?_) | (show ROpS _ _ (.call 30 [_, (.const (.string ⟨#[98, 101, 103, 105, 110]⟩))]) _ _ _; refine callPC0 rfl rfl c5 (by repeat' (first | assumption | refine Glob.setF ?_ (by (repeat' (first | assumption)); first | done | fail))) (by (repeat' (first | assumption | refine AHeap.get_fresh ‹_› ?_)); first | done | fail) ?_) | (show ROpS _ _ (.call 30 [_, (.const (.string ⟨#[99, 111, 109, 109, 105, 116]⟩))]) _ _ _; refine callPC0 rfl rfl c6 (by repeat' (first | assumption | refine Glob.setF ?_ (by (repeat' (first | assumption)); first | done | fail))) (by (repeat' (first | assumption | refine AHeap.get_fresh ‹_› ?_)); first | done | fail) ?_) | (show ROpS _ _ (.call 30 [_, (.const (.string ⟨#[114, 111, 108, 108, 98, 97, 99, 107]⟩))]) _ _ _; refine callPC0 rfl rfl c7 (by repeat' (first | assumption | refine Glob.setF ?_ (by (repeat' (first | assumption)); first | done | fail))) (by (repeat' (first | assumption | refine AHeap.get_fresh ‹_› ?_)); first | done | fail) ?_) | (show ROpS _ _ (.call 30 [_, (.const (.string ⟨#[115, 97, 118, 101, 112, 111, 105, 110, 116]⟩))]) _ _ _; refine callPC0 rfl rfl c8 (by repeat' (first | assumption | refine Glob.setF ?_ (by (repeat' (first | assumption)); first | done | fail))) (by (repeat' (first | assumption | refine AHeap.get_fresh ‹_› ?_)); first | done | fail) ?_) | (show ROpS _ _ (.call 13 _) _ _ _; refine callPCU rfl rfl cw (by repeat' (first | assumption | refine Glob.setF ?_ (by (repeat' (first | assumption)); first | done | fail))) (by (repeat' (first | assumption | refine AHeap.get_fresh ‹_› ?_)); first | done | fail) (by repeat' (first | (apply AHeap.upd1; · exact (by first | exact AHeap.n4 ‹_› ‹_› | exact AHeap.n8 ‹_› ‹_›)) | exact rfl)) (fun x => ?_)) | refine R.mv rfl ?_ | refine R.alloc rfl (fun b hb => ?_) | refine R.build rfl rfl ?_) | (refine S.op0 rfl ?_; first | refine S.storeN rfl rfl (by (repeat' (first | exact AHeap.set_same _ _ _)); first | done | fail) rfl rfl rfl (by rfl) rfl (by repeat' (first | exact AHeap.set_set _ _ _ _)) ?_) | refine S.seq ?_ | refine S.region ?_ | refine S.condF rfl ?_ | refine RRun.block ?_ | refine RRun.inBlock ?_)
theorem statement_ex (hT : TOk T) (st : PS) (hi : st.i ≤ T.length) (hd : st.d ≤ 20) : ∃ (S : List AV) (st' : PS), S.length = 20 ∧ S.all AV.one = true ∧ IsSt S ∧ Goes T st st' ∧ PC T fin 17 [] st (.ag S) st' := by
  rcases take_cases (fin := fin) hT.len st [99, 114, 101, 97, 116, 101] with ⟨e, hlt, ct⟩ | ⟨e, c0⟩
  · exact st_create hT st hlt hd ct 
  rcases take_cases (fin := fin) hT.len st [105, 110, 115, 101, 114, 116] with ⟨e, hlt, ct⟩ | ⟨e, c1⟩
  · exact st_insert hT st hlt hd ct c0
  rcases take_cases (fin := fin) hT.len st [117, 112, 100, 97, 116, 101] with ⟨e, hlt, ct⟩ | ⟨e, c2⟩
  · exact st_update hT st hlt hd ct c0 c1
  rcases take_cases (fin := fin) hT.len st [100, 101, 108, 101, 116, 101] with ⟨e, hlt, ct⟩ | ⟨e, c3⟩
  · exact st_delete hT st hlt hd ct c0 c1 c2
  rcases take_cases (fin := fin) hT.len st [115, 101, 108, 101, 99, 116] with ⟨e, hlt, ct⟩ | ⟨e, c4⟩
  · exact st_select hT st hlt hd ct c0 c1 c2 c3
  rcases take_cases (fin := fin) hT.len st [98, 101, 103, 105, 110] with ⟨e, hlt, ct⟩ | ⟨e, c5⟩
  · exact st_begin hT st hlt hd ct c0 c1 c2 c3 c4
  rcases take_cases (fin := fin) hT.len st [99, 111, 109, 109, 105, 116] with ⟨e, hlt, ct⟩ | ⟨e, c6⟩
  · exact st_commit hT st hlt hd ct c0 c1 c2 c3 c4 c5
  rcases take_cases (fin := fin) hT.len st [114, 111, 108, 108, 98, 97, 99, 107] with ⟨e, hlt, ct⟩ | ⟨e, c7⟩
  · rcases take_cases (fin := fin) hT.len st.next [116, 111] with ⟨e2, hlt2, c20⟩ | ⟨e2, c20⟩
    · exact st_to hT st hlt hd ct c0 c1 c2 c3 c4 c5 c6 hlt2 c20
    · exact st_back hT st hlt hd ct c0 c1 c2 c3 c4 c5 c6 c20
  rcases take_cases (fin := fin) hT.len st [115, 97, 118, 101, 112, 111, 105, 110, 116] with ⟨e, hlt, ct⟩ | ⟨e, c8⟩
  · exact st_savepoint hT st hlt hd ct c0 c1 c2 c3 c4 c5 c6 c7
  exact st_none hT st hi hd c0 c1 c2 c3 c4 c5 c6 c7 c8
end
end Go.Proofs.Ytdinnoejipmiiaa

namespace Go.Proofs.Ytdinnoejipmiiaa
open Go.Av
open Go.Av.Pa (PS atP isP wrongP takeP needP kindP nameP opsP operatorP enterP ev exprP expressionP)
theorem statement_st {T : List Tok} {fin : Int} (hT : TOk T) (st : PS) (hi : st.i ≤ T.length) (hd : st.d ≤ 20) : ∃ (x : St) (st' : PS), Goes T st st' ∧ PC T fin 17 [] st (.ag x.cells) st' := by
  obtain ⟨S, st', _, _, ⟨x, hx⟩, g, hc⟩ := statement_ex (fin := fin) hT st hi hd
  refine ⟨x, st', g, fun p h hp => ?_⟩
  refine ACalls.weak ((hc p h hp).mono fun y h' ⟨e1, e2⟩ => ?_)
  subst e1
  exact ⟨_, h', (ALe.ag hx), AHeap.le.refl _, rfl, e2⟩
def noSt : St := ⟨0, [], 0, [], [], 0, [], [], [], false, [], [], [], [], [], [], [], 0, false, 0⟩
def r9 : RCode :=
  (.seq (.region [
    ⟨(some 2), none, .act, .alloc [(.int .i64 0), (.string ⟨#[]⟩), (.int .i64 0), (.string ⟨#[]⟩), (.slice none 0 0), (.int .i64 0), (.slice none 0 0), (.slice none 0 0), (.slice none 0 0), (.bool false), (.slice none 0 0), (.string ⟨#[]⟩), (.string ⟨#[]⟩), (.slice none 0 0), (.slice none 0 0), (.slice none 0 0), (.slice none 0 0), (.int .i64 0), (.bool false), (.int .i64 0)]⟩,
    ⟨(some 3), none, .act, .mv (.const (.int .i64 0))⟩,
    ⟨(some 4), none, .act, .mv (.const (.int .i64 0))⟩])
  (.seq (.region [
    ⟨(some 7), none, .act, .mv (.tmp 0)⟩,
    ⟨(some 8), none, .act, .call 11 [(.tmp 7)]⟩,
    ⟨(some 5), none, .act, .mv (.tmp 8)⟩])
  (.seq (.region [
    ⟨(some 9), none, .act, .mv (.tmp 5)⟩,
    ⟨(some 10), none, .act, .call 17 [(.tmp 9)]⟩,
    ⟨(some 6), none, .act, .alloc [(.int .i64 0), (.string ⟨#[]⟩), (.int .i64 0), (.string ⟨#[]⟩), (.slice none 0 0), (.int .i64 0), (.slice none 0 0), (.slice none 0 0), (.slice none 0 0), (.bool false), (.slice none 0 0), (.string ⟨#[]⟩), (.string ⟨#[]⟩), (.slice none 0 0), (.slice none 0 0), (.slice none 0 0), (.slice none 0 0), (.int .i64 0), (.bool false), (.int .i64 0)]⟩,
    ⟨none, none, .act, .store 20 (.tmp 6) (.tmp 10)⟩])
  (.seq (.seq (.region [
    ⟨(some 11), none, .pure, .mv (.tmp 5)⟩,
    ⟨(some 12), none, .pure, .nilCheck (.tmp 11)⟩,
    ⟨(some 13), none, .pure, .fieldAddr 1 (.tmp 12)⟩,
    ⟨(some 14), none, .read, .load false 1 (.tmp 13)⟩,
    ⟨(some 15), none, .pure, .mv (.tmp 5)⟩,
    ⟨(some 16), none, .pure, .nilCheck (.tmp 15)⟩,
    ⟨(some 17), none, .pure, .fieldAddr 0 (.tmp 16)⟩,
    ⟨(some 18), none, .read, .load false 1 (.tmp 17)⟩,
    ⟨(some 19), none, .pure, .len (.tmp 18)⟩,
    ⟨(some 20), none, .pure, .bin .lss (.tmp 14) (.tmp 19)⟩])
  (.cond (.tmp 20)
   (.region [
     ⟨(some 21), none, .act, .mv (.tmp 5)⟩,
     ⟨(some 22), none, .act, .call 13 [(.tmp 21)]⟩])
   .skip))
  (.seq (.seq (.region [
    ⟨(some 23), none, .act, .mv (.tmp 5)⟩,
    ⟨(some 24), none, .act, .call 14 [(.tmp 23)]⟩,
    ⟨(some 25), none, .act, .un .not (.tmp 24)⟩])
  (.cond (.tmp 25)
   (.seq (.regionT (.step ⟨(some 26), none, .pure, .build [(.int .i64 0), (.string ⟨#[]⟩), (.int .i64 0), (.string ⟨#[]⟩), (.slice none 0 0), (.int .i64 0), (.slice none 0 0), (.slice none 0 0), (.slice none 0 0), (.bool false), (.slice none 0 0), (.string ⟨#[]⟩), (.string ⟨#[]⟩), (.slice none 0 0), (.slice none 0 0), (.slice none 0 0), (.slice none 0 0), (.int .i64 0), (.bool false), (.int .i64 0)] []⟩ (.step ⟨(some 27), none, .pure, .mv (.tmp 5)⟩ (.step ⟨(some 28), none, .pure, .nilCheck (.tmp 27)⟩ (.step ⟨(some 29), none, .pure, .fieldAddr 3 (.tmp 28)⟩ (.step ⟨(some 30), none, .pure, .fieldAddr 0 (.tmp 29)⟩ (.step ⟨(some 32), none, .pure, .mv (.tmp 5)⟩ (.step ⟨(some 33), none, .pure, .nilCheck (.tmp 32)⟩ (.step ⟨(some 34), none, .pure, .fieldAddr 3 (.tmp 33)⟩ (.step ⟨(some 35), none, .pure, .fieldAddr 1 (.tmp 34)⟩ (.alt ⟨(some 31), none, .read, .load false 1 (.tmp 30)⟩ (.alt ⟨(some 36), none, .read, .load false 1 (.tmp 35)⟩ (.alt ⟨none, none, .act, .store 20 (.tmp 2) (.tmp 26)⟩ (.step ⟨(some 3), none, .pure, .mv (.tmp 31)⟩ (.step ⟨(some 4), none, .pure, .mv (.tmp 36)⟩ .done))
    .stop)
    (.alt ⟨none, none, .act, .store 20 (.tmp 2) (.tmp 26)⟩ (.step ⟨(some 36), none, .read, .load false 1 (.tmp 35)⟩ (.step ⟨(some 3), none, .pure, .mv (.tmp 31)⟩ (.step ⟨(some 4), none, .pure, .mv (.tmp 36)⟩ .done)))
    .stop))
    (.alt ⟨(some 36), none, .read, .load false 1 (.tmp 35)⟩ (.alt ⟨(some 31), none, .read, .load false 1 (.tmp 30)⟩ (.alt ⟨none, none, .act, .store 20 (.tmp 2) (.tmp 26)⟩ (.step ⟨(some 3), none, .pure, .mv (.tmp 31)⟩ (.step ⟨(some 4), none, .pure, .mv (.tmp 36)⟩ .done))
    .stop)
    (.alt ⟨none, none, .act, .store 20 (.tmp 2) (.tmp 26)⟩ (.step ⟨(some 31), none, .read, .load false 1 (.tmp 30)⟩ (.step ⟨(some 3), none, .pure, .mv (.tmp 31)⟩ (.step ⟨(some 4), none, .pure, .mv (.tmp 36)⟩ .done)))
    .stop))
    (.alt ⟨none, none, .act, .store 20 (.tmp 2) (.tmp 26)⟩ (.step ⟨(some 31), none, .read, .load false 1 (.tmp 30)⟩ (.step ⟨(some 36), none, .read, .load false 1 (.tmp 35)⟩ (.step ⟨(some 3), none, .pure, .mv (.tmp 31)⟩ (.step ⟨(some 4), none, .pure, .mv (.tmp 36)⟩ .done))))
    .stop)))))))))))))
   .ret)
   .skip))
  (.seq (.region [
    ⟨(some 37), none, .act, .load true 20 (.tmp 6)⟩,
    ⟨none, none, .act, .store 20 (.tmp 2) (.tmp 37)⟩,
    ⟨(some 3), none, .act, .mv (.const (.int .i64 0))⟩,
    ⟨(some 4), none, .act, .mv (.const (.int .i64 0))⟩])
  .ret))))))
theorem res9 : ∃ c, Try.f9.body = some c ∧ resCode Try.prog 38 c = some r9 := ⟨_, rfl, by kernel_rfl⟩
theorem rr9 : resRes Try.prog Try.f9.results.toList = some [.cell 2 true 20, .tmp 3, .tmp 4] := by kernel_rfl
theorem parse_gen {T : List Tok} {fin : Int} (hT : TOk T) (st : PS) (hi0 : st.i ≤ T.length) (hd0 : st.d ≤ 20) : ∃ (x : St) (n e : Int), ∀ (s : List UInt8) (h : AHeap), Glob h →
    (∀ h, ACalls Try.prog 11 [str s] h (fun x h' => ∃ p, h p = none ∧ x = ptr p ∧ h' = h.set p (.box (pst T fin st)))) →
    ACalls Try.prog 9 [str s] h (fun y h' => y = .tu [.ag x.cells, i64 n, i64 e] ∧ h' = h) := by
  obtain ⟨x, s1, g1, ce⟩ := statement_st (fin := fin) hT st hi0 hd0
  have cw := wrong_spec (T := T) (fin := fin) s1
  have hlen : (T.map Pa.Tok.cells).length = T.length := by simp
  have hle0 : ALes [i64 0, str [], i64 0, str [], nilA, i64 0, nilA, nilA, nilA, bl false, nilA, str [], str [], nilA, nilA, nilA, nilA, i64 0, bl false, i64 0] noSt.cells := .cons (.refl _) (.cons (.refl _) (.cons (.refl _) (.cons (.refl _) (.cons nil_cols (.cons (.refl _) (.cons nil_ints (.cons nil_rows (.cons nil_sets (.cons (.refl _) (.cons nil_le (.cons (.refl _) (.cons (.refl _) (.cons nil_le (.cons nil_le (.cons nil_le (.cons nil_bys (.refl _)))))))))))))))))
  unfold St.cells at ce
  by_cases hmore : s1.i < T.length
  · have c14 := ok_spec (T := T) (fin := fin) (wrongP T fin s1)
    generalize wrongP T fin s1 = s2 at *
    generalize s2.good = gd at c14
    cases gd with
    | true =>
      refine ⟨x, 0, 0, fun s h hg cn => ?_⟩
      obtain ⟨c', hc1, hc2⟩ := res9
      refine ACalls.weak (ACalls.enter Try.func9 hc1 Try.ntmps9 hc2 (Nat.le_of_ble_eq_true rfl) rfl ?_)
      repeat' (first | refine S.nilK ?_ | (refine S.op rfl ?_; first | refine R.mv rfl ?_ | refine R.alloc rfl (fun b hb => ?_)) | refine S.seq ?_ | refine S.region ?_)
      refine S.op rfl (R.call rfl rfl ((cn _).mono ?_))
      rintro y h' ⟨p, hpn, rfl, rfl⟩
      repeat' (first | refine S.nilK ?_ | (refine S.op rfl ?_; first | (show ROpS _ _ (.call 17 _) _ _ _; refine callPC rfl rfl ce (by repeat' (first | assumption | refine Glob.setF ?_ (by (repeat' (first | assumption)); first | done | fail))) (by (repeat' (first | exact AHeap.set_same _ _ _)); first | done | fail) (by repeat' (first | exact AHeap.set_set _ _ _ _)) ?_) | (show ROpS _ _ (.call 13 _) _ _ _; refine callPCU rfl rfl cw (by repeat' (first | assumption | refine Glob.setF ?_ (by (repeat' (first | assumption)); first | done | fail))) (by (repeat' (first | exact AHeap.set_same _ _ _ | refine AHeap.get_fresh ‹_› ?_)); first | done | fail) (by repeat' (first | exact AHeap.set_set _ _ _ _ | (apply AHeap.upd1; · exact (by first | exact AHeap.n1 ‹_›)))) (fun x => ?_)) | (show ROpS _ _ (.call 14 _) _ _ _; refine callPC0 rfl rfl c14 (by repeat' (first | assumption | refine Glob.setF ?_ (by (repeat' (first | assumption | exact AHeap.z1 ‹_› | refine AHeap.so ?_ ?_ | exact AHeap.n1 ‹_›)); first | done | fail))) (by (repeat' (first | exact AHeap.set_same _ _ _ | refine AHeap.so ?_ ?_ | exact AHeap.n2 ‹_›)); first | done | fail) ?_) | refine R.mv rfl ?_ | refine R.fieldAddr rfl ?_ | refine R.nilCheck rfl ?_ | refine R.load (by decide) rfl (by (repeat' (first | exact AHeap.set_same _ _ _ | refine AHeap.get_fresh ‹_› ?_)); first | done | fail) rfl ?_ | refine R.len rfl ?_ | refine R.not rfl ?_ | refine R.alloc rfl (fun b hb => ?_) | ((first | refine S.lss rfl rfl ?_ ?_) <;> intro hlt <;> try (exfalso; omega))) | (refine S.op0 rfl ?_; first | refine S.storeN rfl rfl (by (repeat' (first | exact AHeap.set_same _ _ _ | refine AHeap.get_fresh ‹_› ?_ | refine AHeap.so ?_ ?_ | exact AHeap.n6 ‹_›)); first | done | fail) rfl rfl rfl (by rfl) rfl (by repeat' (first | exact AHeap.set_set _ _ _ _ | (apply AHeap.upd1; · exact (by first | exact AHeap.n1 ‹_› | exact AHeap.n5 ‹_›)))) ?_) | refine S.seq ?_ | refine S.region ?_ | refine S.condT rfl ?_ | refine S.condF rfl ?_ | refine RRun.skip ?_)
      apply S.ret rr9
      case hx => repeat (first | exact ResAt.nil | apply ResAt.tmp rfl | apply ResAt.cellA rfl (by (repeat' (first | exact AHeap.set_same _ _ _ | refine AHeap.so ?_ ?_ | exact AHeap.n2 ‹_› | exact AHeap.n6 ‹_›)); first | done | fail) (by rfl))
      exact ⟨_, h, .refl _, (by repeat (first | exact AHeap.le.refl _ | refine AHeap.le.set ?_ _ (by (repeat' (first | assumption | exact AHeap.z1 ‹_› | exact AHeap.z2 ‹_›)); first | done | fail))), rfl, rfl⟩
    | false =>
      refine ⟨noSt, s2.bat, s2.be, fun s h hg cn => ?_⟩
      obtain ⟨c', hc1, hc2⟩ := res9
      refine ACalls.weak (ACalls.enter Try.func9 hc1 Try.ntmps9 hc2 (Nat.le_of_ble_eq_true rfl) rfl ?_)
      repeat' (first | refine S.nilK ?_ | (refine S.op rfl ?_; first | refine R.mv rfl ?_ | refine R.alloc rfl (fun b hb => ?_)) | refine S.seq ?_ | refine S.region ?_)
      refine S.op rfl (R.call rfl rfl ((cn _).mono ?_))
      rintro y h' ⟨p, hpn, rfl, rfl⟩
      repeat' (first | refine S.nilK ?_ | (refine S.op rfl ?_; first | (show ROpS _ _ (.call 17 _) _ _ _; refine callPC rfl rfl ce (by repeat' (first | assumption | refine Glob.setF ?_ (by (repeat' (first | assumption)); first | done | fail))) (by (repeat' (first | exact AHeap.set_same _ _ _)); first | done | fail) (by repeat' (first | exact AHeap.set_set _ _ _ _)) ?_) | (show ROpS _ _ (.call 13 _) _ _ _; refine callPCU rfl rfl cw (by repeat' (first | assumption | refine Glob.setF ?_ (by (repeat' (first | assumption)); first | done | fail))) (by (repeat' (first | exact AHeap.set_same _ _ _ | refine AHeap.get_fresh ‹_› ?_)); first | done | fail) (by repeat' (first | exact AHeap.set_set _ _ _ _ | (apply AHeap.upd1; · exact (by first | exact AHeap.n1 ‹_›)))) (fun x => ?_)) | (show ROpS _ _ (.call 14 _) _ _ _; refine callPC0 rfl rfl c14 (by repeat' (first | assumption | refine Glob.setF ?_ (by (repeat' (first | assumption | exact AHeap.z1 ‹_› | refine AHeap.so ?_ ?_ | exact AHeap.n1 ‹_›)); first | done | fail))) (by (repeat' (first | exact AHeap.set_same _ _ _ | refine AHeap.so ?_ ?_ | exact AHeap.n2 ‹_›)); first | done | fail) ?_) | refine R.mv rfl ?_ | refine R.fieldAddr rfl ?_ | refine R.nilCheck rfl ?_ | refine R.load (by decide) rfl (by (repeat' (first | exact AHeap.set_same _ _ _ | refine AHeap.get_fresh ‹_› ?_ | refine AHeap.so ?_ ?_ | exact AHeap.n2 ‹_›)); first | done | fail) rfl ?_ | refine R.len rfl ?_ | refine R.not rfl ?_ | refine R.alloc rfl (fun b hb => ?_) | refine R.build rfl rfl ?_ | ((first | refine S.lss rfl rfl ?_ ?_) <;> intro hlt <;> try (exfalso; omega))) | (refine S.op0 rfl ?_; first | refine S.storeN rfl rfl (by (repeat' (first | exact AHeap.set_same _ _ _ | refine AHeap.get_fresh ‹_› ?_ | refine AHeap.so ?_ ?_ | exact AHeap.n6 ‹_›)); first | done | fail) rfl rfl rfl (by rfl) rfl (by repeat' (first | exact AHeap.set_set _ _ _ _ | (apply AHeap.upd1; · exact (by first | exact AHeap.n1 ‹_› | exact AHeap.n5 ‹_›)))) ?_) | refine S.seq ?_ | refine S.region ?_ | refine S.regionT ?_ | refine S.talt ?_ ?_ | exact S.tstop | refine S.tdone ?_ | refine S.condT rfl ?_)
      all_goals
        apply S.ret rr9
        case hx => repeat (first | exact ResAt.nil | apply ResAt.tmp rfl | apply ResAt.cellA rfl (by (repeat' (first | exact AHeap.set_same _ _ _ | refine AHeap.get_fresh ‹_› ?_ | refine AHeap.so ?_ ?_ | exact AHeap.n6 ‹_›)); first | done | fail) (by rfl))
        exact ⟨_, h, .tu (.cons (ALe.ag hle0) (.refl _)), (by repeat (first | exact AHeap.le.refl _ | refine AHeap.le.set ?_ _ (by (repeat' (first | assumption | exact AHeap.z1 ‹_› | exact AHeap.z2 ‹_›)); first | done | fail))), rfl, rfl⟩
  · have c14 := ok_spec (T := T) (fin := fin) s1
    generalize s1.good = gd at c14
    cases gd with
    | true =>
      refine ⟨x, 0, 0, fun s h hg cn => ?_⟩
      obtain ⟨c', hc1, hc2⟩ := res9
      refine ACalls.weak (ACalls.enter Try.func9 hc1 Try.ntmps9 hc2 (Nat.le_of_ble_eq_true rfl) rfl ?_)
      repeat' (first | refine S.nilK ?_ | (refine S.op rfl ?_; first | refine R.mv rfl ?_ | refine R.alloc rfl (fun b hb => ?_)) | refine S.seq ?_ | refine S.region ?_)
      refine S.op rfl (R.call rfl rfl ((cn _).mono ?_))
      rintro y h' ⟨p, hpn, rfl, rfl⟩
      repeat' (first | refine S.nilK ?_ | (refine S.op rfl ?_; first | (show ROpS _ _ (.call 17 _) _ _ _; refine callPC rfl rfl ce (by repeat' (first | assumption | refine Glob.setF ?_ (by (repeat' (first | assumption)); first | done | fail))) (by (repeat' (first | exact AHeap.set_same _ _ _)); first | done | fail) (by repeat' (first | exact AHeap.set_set _ _ _ _)) ?_) | (show ROpS _ _ (.call 14 _) _ _ _; refine callPC0 rfl rfl c14 (by repeat' (first | assumption | refine Glob.setF ?_ (by (repeat' (first | assumption)); first | done | fail))) (by (repeat' (first | exact AHeap.set_same _ _ _ | refine AHeap.get_fresh ‹_› ?_)); first | done | fail) ?_) | refine R.mv rfl ?_ | refine R.fieldAddr rfl ?_ | refine R.nilCheck rfl ?_ | refine R.load (by decide) rfl (by (repeat' (first | exact AHeap.set_same _ _ _ | refine AHeap.get_fresh ‹_› ?_)); first | done | fail) rfl ?_ | refine R.len rfl ?_ | refine R.not rfl ?_ | refine R.alloc rfl (fun b hb => ?_) | ((first | refine S.lss rfl rfl ?_ ?_) <;> intro hlt <;> try (exfalso; omega))) | (refine S.op0 rfl ?_; first | refine S.storeN rfl rfl (by (repeat' (first | exact AHeap.set_same _ _ _ | refine AHeap.get_fresh ‹_› ?_)); first | done | fail) rfl rfl rfl (by rfl) rfl (by repeat' (first | exact AHeap.set_set _ _ _ _ | (apply AHeap.upd1; · exact (by first | exact AHeap.n1 ‹_› | exact AHeap.n5 ‹_›)))) ?_) | refine S.seq ?_ | refine S.region ?_ | refine S.condF rfl ?_ | refine RRun.skip ?_)
      apply S.ret rr9
      case hx => repeat (first | exact ResAt.nil | apply ResAt.tmp rfl | apply ResAt.cellA rfl (by (repeat' (first | exact AHeap.set_same _ _ _ | refine AHeap.so ?_ ?_ | exact AHeap.n2 ‹_› | exact AHeap.n6 ‹_›)); first | done | fail) (by rfl))
      exact ⟨_, h, .refl _, (by repeat (first | exact AHeap.le.refl _ | refine AHeap.le.set ?_ _ (by (repeat' (first | assumption | exact AHeap.z1 ‹_› | exact AHeap.z2 ‹_›)); first | done | fail))), rfl, rfl⟩
    | false =>
      refine ⟨noSt, s1.bat, s1.be, fun s h hg cn => ?_⟩
      obtain ⟨c', hc1, hc2⟩ := res9
      refine ACalls.weak (ACalls.enter Try.func9 hc1 Try.ntmps9 hc2 (Nat.le_of_ble_eq_true rfl) rfl ?_)
      repeat' (first | refine S.nilK ?_ | (refine S.op rfl ?_; first | refine R.mv rfl ?_ | refine R.alloc rfl (fun b hb => ?_)) | refine S.seq ?_ | refine S.region ?_)
      refine S.op rfl (R.call rfl rfl ((cn _).mono ?_))
      rintro y h' ⟨p, hpn, rfl, rfl⟩
      repeat' (first | refine S.nilK ?_ | (refine S.op rfl ?_; first | (show ROpS _ _ (.call 17 _) _ _ _; refine callPC rfl rfl ce (by repeat' (first | assumption | refine Glob.setF ?_ (by (repeat' (first | assumption)); first | done | fail))) (by (repeat' (first | exact AHeap.set_same _ _ _)); first | done | fail) (by repeat' (first | exact AHeap.set_set _ _ _ _)) ?_) | (show ROpS _ _ (.call 14 _) _ _ _; refine callPC0 rfl rfl c14 (by repeat' (first | assumption | refine Glob.setF ?_ (by (repeat' (first | assumption)); first | done | fail))) (by (repeat' (first | exact AHeap.set_same _ _ _ | refine AHeap.get_fresh ‹_› ?_)); first | done | fail) ?_) | refine R.mv rfl ?_ | refine R.fieldAddr rfl ?_ | refine R.nilCheck rfl ?_ | refine R.load (by decide) rfl (by (repeat' (first | exact AHeap.set_same _ _ _ | refine AHeap.get_fresh ‹_› ?_)); first | done | fail) rfl ?_ | refine R.len rfl ?_ | refine R.not rfl ?_ | refine R.alloc rfl (fun b hb => ?_) | refine R.build rfl rfl ?_ | ((first | refine S.lss rfl rfl ?_ ?_) <;> intro hlt <;> try (exfalso; omega))) | (refine S.op0 rfl ?_; first | refine S.storeN rfl rfl (by (repeat' (first | exact AHeap.set_same _ _ _ | refine AHeap.get_fresh ‹_› ?_)); first | done | fail) rfl rfl rfl (by rfl) rfl (by repeat' (first | exact AHeap.set_set _ _ _ _ | (apply AHeap.upd1; · exact (by first | exact AHeap.n1 ‹_› | exact AHeap.n5 ‹_›)))) ?_) | refine S.seq ?_ | refine S.region ?_ | refine S.regionT ?_ | refine S.talt ?_ ?_ | exact S.tstop | refine S.tdone ?_ | refine S.condT rfl ?_ | refine S.condF rfl ?_ | refine RRun.skip ?_)
      all_goals
        apply S.ret rr9
        case hx => repeat (first | exact ResAt.nil | apply ResAt.tmp rfl | apply ResAt.cellA rfl (by (repeat' (first | exact AHeap.set_same _ _ _ | refine AHeap.get_fresh ‹_› ?_)); first | done | fail) (by rfl))
        exact ⟨_, h, .tu (.cons (ALe.ag hle0) (.refl _)), (by repeat (first | exact AHeap.le.refl _ | refine AHeap.le.set ?_ _ (by (repeat' (first | assumption | exact AHeap.z1 ‹_› | exact AHeap.z2 ‹_›)); first | done | fail))), rfl, rfl⟩
theorem parse_two (s u : List UInt8) (hs : s.length ≤ 2000000) (hl : lexed s = lexed u) (hn : s.length = u.length) (hT : TOk (lexed s).1) : ∃ (x : St) (n e : Int),
    (∀ h, Glob h → ACalls Try.prog 9 [str s] h (fun y h' => y = .tu [.ag x.cells, i64 n, i64 e] ∧ h' = h)) ∧ (∀ h, Glob h → ACalls Try.prog 9 [str u] h (fun y h' => y = .tu [.ag x.cells, i64 n, i64 e] ∧ h' = h)) := by
  obtain ⟨x, n, e, H⟩ := parse_gen (fin := (s.length : Int)) hT (st0 s) (Nat.zero_le _) (Nat.zero_le _)
  refine ⟨x, n, e, fun h hg => H s h hg fun h => newParser_spec s hs h, fun h hg => H u h hg fun h => ?_⟩
  have := newParser_spec u (by omega) h
  unfold st0 at this ⊢
  rw [← hl, ← hn] at this
  exact this
end Go.Proofs.Ytdinnoejipmiiaa

namespace Go.Proofs.Ytdinnoejipmiiaa
open Go.Av
open Go.Av.Pa (PS)
theorem by_agg (a : Int) (b : Bool) : aggEq [(0, .int), (1, .bool)] [.int .i64 a, .bool b] [.int .i64 a, .bool b] = some true := by
  simp [aggEq, atomEq]
theorem col_agg (s : List UInt8) (a : Int) (b : Bool) : aggEq [(0, .str), (1, .int), (2, .bool)] [.string ⟨s.toArray⟩, .int .i64 a, .bool b] [.string ⟨s.toArray⟩, .int .i64 a, .bool b] = some true := by
  simp [aggEq, atomEq]
def r10l0 : RCode :=
  (.seq (.region [
    ⟨(some 115), none, .act, .bin .lss (.tmp 114) (.tmp 113)⟩])
  (.seq (.cond (.tmp 115)
   .skip
   (.exit 0))
  (.seq (.block 1
   (.seq (.region [
     ⟨(some 116), none, .act, .mv (.tmp 114)⟩,
     ⟨(some 5), none, .act, .mv (.tmp 116)⟩])
   (.seq (.region [
     ⟨(some 117), none, .pure, .fieldAddr 7 (.tmp 2)⟩,
     ⟨(some 118), none, .read, .load false 1 (.tmp 117)⟩,
     ⟨(some 119), none, .pure, .mv (.tmp 5)⟩,
     ⟨(some 120), none, .pure, .indexAddr 1 (.tmp 118) (.tmp 119)⟩,
     ⟨(some 121), none, .read, .load false 1 (.tmp 120)⟩,
     ⟨(some 122), none, .pure, .fieldAddr 7 (.tmp 3)⟩,
     ⟨(some 123), none, .read, .load false 1 (.tmp 122)⟩,
     ⟨(some 124), none, .pure, .mv (.tmp 5)⟩,
     ⟨(some 125), none, .pure, .indexAddr 1 (.tmp 123) (.tmp 124)⟩,
     ⟨(some 126), none, .read, .load false 1 (.tmp 125)⟩,
     ⟨(some 127), none, .act, .call 16 [(.tmp 121), (.tmp 126)]⟩,
     ⟨(some 128), none, .pure, .un .not (.tmp 127)⟩])
   (.cond (.tmp 128)
    (.seq (.region [
      ⟨(some 4), none, .act, .mv (.const (.bool false))⟩])
    .ret)
    .skip))))
  (.region [
    ⟨(some 129), none, .act, .bin .add (.tmp 114) (.const (.int .i64 1))⟩,
    ⟨(some 114), none, .act, .mv (.tmp 129)⟩]))))
def r10l1 : RCode :=
  (.seq (.region [
    ⟨(some 134), none, .act, .bin .lss (.tmp 133) (.tmp 132)⟩])
  (.seq (.cond (.tmp 134)
   .skip
   (.exit 2))
  (.seq (.block 3
   (.seq (.region [
     ⟨(some 135), none, .act, .mv (.tmp 133)⟩,
     ⟨(some 6), none, .act, .mv (.tmp 135)⟩])
   (.seq (.region [
     ⟨(some 136), none, .pure, .fieldAddr 8 (.tmp 2)⟩,
     ⟨(some 137), none, .read, .load false 1 (.tmp 136)⟩,
     ⟨(some 138), none, .pure, .mv (.tmp 6)⟩,
     ⟨(some 139), none, .pure, .indexAddr 9 (.tmp 137) (.tmp 138)⟩,
     ⟨(some 140), none, .pure, .fieldAddr 0 (.tmp 139)⟩,
     ⟨(some 141), none, .read, .load false 1 (.tmp 140)⟩,
     ⟨(some 142), none, .pure, .fieldAddr 8 (.tmp 3)⟩,
     ⟨(some 143), none, .read, .load false 1 (.tmp 142)⟩,
     ⟨(some 144), none, .pure, .mv (.tmp 6)⟩,
     ⟨(some 145), none, .pure, .indexAddr 9 (.tmp 143) (.tmp 144)⟩,
     ⟨(some 146), none, .pure, .fieldAddr 0 (.tmp 145)⟩,
     ⟨(some 147), none, .read, .load false 1 (.tmp 146)⟩,
     ⟨(some 148), none, .pure, .eq true .str (.tmp 141) (.tmp 147)⟩,
     ⟨(some 149), none, .pure, .mv (.tmp 148)⟩,
     ⟨(some 150), (some (149, false)), .pure, .fieldAddr 8 (.tmp 2)⟩,
     ⟨(some 151), (some (149, false)), .read, .load false 1 (.tmp 150)⟩,
     ⟨(some 152), (some (149, false)), .pure, .mv (.tmp 6)⟩,
     ⟨(some 153), (some (149, false)), .pure, .indexAddr 9 (.tmp 151) (.tmp 152)⟩,
     ⟨(some 154), (some (149, false)), .pure, .fieldAddr 1 (.tmp 153)⟩,
     ⟨(some 155), (some (149, false)), .read, .load true 8 (.tmp 154)⟩,
     ⟨(some 156), (some (149, false)), .pure, .fieldAddr 8 (.tmp 3)⟩,
     ⟨(some 157), (some (149, false)), .read, .load false 1 (.tmp 156)⟩,
     ⟨(some 158), (some (149, false)), .pure, .mv (.tmp 6)⟩,
     ⟨(some 159), (some (149, false)), .pure, .indexAddr 9 (.tmp 157) (.tmp 158)⟩,
     ⟨(some 160), (some (149, false)), .pure, .fieldAddr 1 (.tmp 159)⟩,
     ⟨(some 161), (some (149, false)), .read, .load true 8 (.tmp 160)⟩,
     ⟨(some 162), (some (149, false)), .act, .call 8 [(.tmp 155), (.tmp 161)]⟩,
     ⟨(some 163), (some (149, false)), .pure, .un .not (.tmp 162)⟩,
     ⟨(some 164), none, .pure, .pick (.tmp 149) (.const (.bool true)) (.tmp 163)⟩])
   (.cond (.tmp 164)
    (.seq (.region [
      ⟨(some 4), none, .act, .mv (.const (.bool false))⟩])
    .ret)
    .skip))))
  (.region [
    ⟨(some 165), none, .act, .bin .add (.tmp 133) (.const (.int .i64 1))⟩,
    ⟨(some 133), none, .act, .mv (.tmp 165)⟩]))))
def r10l2 : RCode :=
  (.seq (.region [
    ⟨(some 170), none, .act, .bin .lss (.tmp 169) (.tmp 168)⟩])
  (.seq (.cond (.tmp 170)
   .skip
   (.exit 4))
  (.seq (.block 5
   (.seq (.region [
     ⟨(some 171), none, .act, .mv (.tmp 169)⟩,
     ⟨(some 7), none, .act, .mv (.tmp 171)⟩])
   (.seq (.region [
     ⟨(some 172), none, .pure, .fieldAddr 16 (.tmp 2)⟩,
     ⟨(some 173), none, .read, .load false 1 (.tmp 172)⟩,
     ⟨(some 174), none, .pure, .mv (.tmp 7)⟩,
     ⟨(some 175), none, .pure, .indexAddr 2 (.tmp 173) (.tmp 174)⟩,
     ⟨(some 176), none, .read, .load true 2 (.tmp 175)⟩,
     ⟨(some 177), none, .pure, .fieldAddr 16 (.tmp 3)⟩,
     ⟨(some 178), none, .read, .load false 1 (.tmp 177)⟩,
     ⟨(some 179), none, .pure, .mv (.tmp 7)⟩,
     ⟨(some 180), none, .pure, .indexAddr 2 (.tmp 178) (.tmp 179)⟩,
     ⟨(some 181), none, .read, .load true 2 (.tmp 180)⟩,
     ⟨(some 182), none, .pure, .eq true (.agg [(0, .int), (1, .bool)]) (.tmp 176) (.tmp 181)⟩])
   (.cond (.tmp 182)
    (.seq (.region [
      ⟨(some 4), none, .act, .mv (.const (.bool false))⟩])
    .ret)
    .skip))))
  (.region [
    ⟨(some 183), none, .act, .bin .add (.tmp 169) (.const (.int .i64 1))⟩,
    ⟨(some 169), none, .act, .mv (.tmp 183)⟩]))))
def r10l3 : RCode :=
  (.seq (.region [
    ⟨(some 189), none, .act, .bin .lss (.tmp 188) (.tmp 187)⟩])
  (.seq (.cond (.tmp 189)
   .skip
   (.exit 6))
  (.seq (.block 7
   (.seq (.region [
     ⟨(some 190), none, .act, .mv (.tmp 188)⟩,
     ⟨(some 8), none, .act, .mv (.tmp 190)⟩])
   (.seq (.region [
     ⟨(some 191), none, .pure, .fieldAddr 2 (.tmp 2)⟩,
     ⟨(some 192), none, .pure, .fieldAddr 2 (.tmp 191)⟩,
     ⟨(some 193), none, .read, .load false 1 (.tmp 192)⟩,
     ⟨(some 194), none, .pure, .mv (.tmp 8)⟩,
     ⟨(some 195), none, .pure, .indexAddr 3 (.tmp 193) (.tmp 194)⟩,
     ⟨(some 196), none, .read, .load true 3 (.tmp 195)⟩,
     ⟨(some 197), none, .pure, .fieldAddr 2 (.tmp 3)⟩,
     ⟨(some 198), none, .pure, .fieldAddr 2 (.tmp 197)⟩,
     ⟨(some 199), none, .read, .load false 1 (.tmp 198)⟩,
     ⟨(some 200), none, .pure, .mv (.tmp 8)⟩,
     ⟨(some 201), none, .pure, .indexAddr 3 (.tmp 199) (.tmp 200)⟩,
     ⟨(some 202), none, .read, .load true 3 (.tmp 201)⟩,
     ⟨(some 203), none, .pure, .eq true (.agg [(0, .str), (1, .int), (2, .bool)]) (.tmp 196) (.tmp 202)⟩])
   (.cond (.tmp 203)
    (.seq (.region [
      ⟨(some 4), none, .act, .mv (.const (.bool false))⟩])
    .ret)
    .skip))))
  (.region [
    ⟨(some 204), none, .act, .bin .add (.tmp 188) (.const (.int .i64 1))⟩,
    ⟨(some 188), none, .act, .mv (.tmp 204)⟩]))))
def r10l4 : RCode :=
  (.seq (.region [
    ⟨(some 210), none, .act, .bin .lss (.tmp 209) (.tmp 208)⟩])
  (.seq (.cond (.tmp 210)
   .skip
   (.exit 8))
  (.seq (.block 9
   (.seq (.region [
     ⟨(some 211), none, .act, .mv (.tmp 209)⟩,
     ⟨(some 9), none, .act, .mv (.tmp 211)⟩])
   (.seq (.region [
     ⟨(some 212), none, .pure, .fieldAddr 2 (.tmp 2)⟩,
     ⟨(some 213), none, .pure, .fieldAddr 4 (.tmp 212)⟩,
     ⟨(some 214), none, .read, .load false 1 (.tmp 213)⟩,
     ⟨(some 215), none, .pure, .mv (.tmp 9)⟩,
     ⟨(some 216), none, .pure, .indexAddr 1 (.tmp 214) (.tmp 215)⟩,
     ⟨(some 217), none, .read, .load false 1 (.tmp 216)⟩,
     ⟨(some 218), none, .pure, .fieldAddr 2 (.tmp 3)⟩,
     ⟨(some 219), none, .pure, .fieldAddr 4 (.tmp 218)⟩,
     ⟨(some 220), none, .read, .load false 1 (.tmp 219)⟩,
     ⟨(some 221), none, .pure, .mv (.tmp 9)⟩,
     ⟨(some 222), none, .pure, .indexAddr 1 (.tmp 220) (.tmp 221)⟩,
     ⟨(some 223), none, .read, .load false 1 (.tmp 222)⟩,
     ⟨(some 224), none, .pure, .eq true .int (.tmp 217) (.tmp 223)⟩])
   (.cond (.tmp 224)
    (.seq (.region [
      ⟨(some 4), none, .act, .mv (.const (.bool false))⟩])
    .ret)
    .skip))))
  (.region [
    ⟨(some 225), none, .act, .bin .add (.tmp 209) (.const (.int .i64 1))⟩,
    ⟨(some 209), none, .act, .mv (.tmp 225)⟩]))))
def r10 : RCode :=
  (.seq (.region [
    ⟨(some 2), none, .act, .box (.tmp 0)⟩,
    ⟨(some 3), none, .act, .box (.tmp 1)⟩,
    ⟨(some 4), none, .act, .mv (.const (.bool false))⟩])
  (.seq (.seq (.region [
    ⟨(some 10), none, .act, .fieldAddr 0 (.tmp 2)⟩,
    ⟨(some 11), none, .act, .load false 1 (.tmp 10)⟩,
    ⟨(some 12), none, .act, .fieldAddr 0 (.tmp 3)⟩,
    ⟨(some 13), none, .act, .load false 1 (.tmp 12)⟩,
    ⟨(some 14), none, .act, .eq true .int (.tmp 11) (.tmp 13)⟩,
    ⟨(some 15), none, .act, .mv (.tmp 14)⟩,
    ⟨(some 16), (some (15, false)), .act, .fieldAddr 1 (.tmp 2)⟩,
    ⟨(some 17), (some (15, false)), .act, .load false 1 (.tmp 16)⟩,
    ⟨(some 18), (some (15, false)), .act, .fieldAddr 1 (.tmp 3)⟩,
    ⟨(some 19), (some (15, false)), .act, .load false 1 (.tmp 18)⟩,
    ⟨(some 20), (some (15, false)), .act, .eq true .str (.tmp 17) (.tmp 19)⟩,
    ⟨(some 21), none, .act, .pick (.tmp 15) (.const (.bool true)) (.tmp 20)⟩,
    ⟨(some 22), none, .act, .mv (.tmp 21)⟩,
    ⟨(some 23), (some (22, false)), .act, .fieldAddr 9 (.tmp 2)⟩,
    ⟨(some 24), (some (22, false)), .act, .load false 1 (.tmp 23)⟩,
    ⟨(some 25), (some (22, false)), .act, .fieldAddr 9 (.tmp 3)⟩,
    ⟨(some 26), (some (22, false)), .act, .load false 1 (.tmp 25)⟩,
    ⟨(some 27), (some (22, false)), .act, .eq true .bool (.tmp 24) (.tmp 26)⟩,
    ⟨(some 28), none, .act, .pick (.tmp 22) (.const (.bool true)) (.tmp 27)⟩,
    ⟨(some 29), none, .act, .mv (.tmp 28)⟩,
    ⟨(some 30), (some (29, false)), .act, .fieldAddr 11 (.tmp 2)⟩,
    ⟨(some 31), (some (29, false)), .act, .load false 1 (.tmp 30)⟩,
    ⟨(some 32), (some (29, false)), .act, .fieldAddr 11 (.tmp 3)⟩,
    ⟨(some 33), (some (29, false)), .act, .load false 1 (.tmp 32)⟩,
    ⟨(some 34), (some (29, false)), .act, .eq true .str (.tmp 31) (.tmp 33)⟩,
    ⟨(some 35), none, .act, .pick (.tmp 29) (.const (.bool true)) (.tmp 34)⟩,
    ⟨(some 36), none, .act, .mv (.tmp 35)⟩,
    ⟨(some 37), (some (36, false)), .act, .fieldAddr 12 (.tmp 2)⟩,
    ⟨(some 38), (some (36, false)), .act, .load false 1 (.tmp 37)⟩,
    ⟨(some 39), (some (36, false)), .act, .fieldAddr 12 (.tmp 3)⟩,
    ⟨(some 40), (some (36, false)), .act, .load false 1 (.tmp 39)⟩,
    ⟨(some 41), (some (36, false)), .act, .eq true .str (.tmp 38) (.tmp 40)⟩,
    ⟨(some 42), none, .act, .pick (.tmp 36) (.const (.bool true)) (.tmp 41)⟩,
    ⟨(some 43), none, .act, .mv (.tmp 42)⟩,
    ⟨(some 44), (some (43, false)), .act, .fieldAddr 17 (.tmp 2)⟩,
    ⟨(some 45), (some (43, false)), .act, .load false 1 (.tmp 44)⟩,
    ⟨(some 46), (some (43, false)), .act, .fieldAddr 17 (.tmp 3)⟩,
    ⟨(some 47), (some (43, false)), .act, .load false 1 (.tmp 46)⟩,
    ⟨(some 48), (some (43, false)), .act, .eq true .int (.tmp 45) (.tmp 47)⟩,
    ⟨(some 49), none, .act, .pick (.tmp 43) (.const (.bool true)) (.tmp 48)⟩,
    ⟨(some 50), none, .act, .mv (.tmp 49)⟩,
    ⟨(some 51), (some (50, false)), .act, .fieldAddr 18 (.tmp 2)⟩,
    ⟨(some 52), (some (50, false)), .act, .load false 1 (.tmp 51)⟩,
    ⟨(some 53), (some (50, false)), .act, .fieldAddr 18 (.tmp 3)⟩,
    ⟨(some 54), (some (50, false)), .act, .load false 1 (.tmp 53)⟩,
    ⟨(some 55), (some (50, false)), .act, .eq true .bool (.tmp 52) (.tmp 54)⟩,
    ⟨(some 56), none, .act, .pick (.tmp 50) (.const (.bool true)) (.tmp 55)⟩,
    ⟨(some 57), none, .act, .mv (.tmp 56)⟩,
    ⟨(some 58), (some (57, false)), .act, .fieldAddr 19 (.tmp 2)⟩,
    ⟨(some 59), (some (57, false)), .act, .load false 1 (.tmp 58)⟩,
    ⟨(some 60), (some (57, false)), .act, .fieldAddr 19 (.tmp 3)⟩,
    ⟨(some 61), (some (57, false)), .act, .load false 1 (.tmp 60)⟩,
    ⟨(some 62), (some (57, false)), .act, .eq true .int (.tmp 59) (.tmp 61)⟩,
    ⟨(some 63), none, .act, .pick (.tmp 57) (.const (.bool true)) (.tmp 62)⟩])
  (.cond (.tmp 63)
   (.seq (.region [
     ⟨(some 4), none, .act, .mv (.const (.bool false))⟩])
   .ret)
   .skip))
  (.seq (.seq (.region [
    ⟨(some 64), none, .act, .fieldAddr 7 (.tmp 2)⟩,
    ⟨(some 65), none, .act, .load false 1 (.tmp 64)⟩,
    ⟨(some 66), none, .act, .len (.tmp 65)⟩,
    ⟨(some 67), none, .act, .fieldAddr 7 (.tmp 3)⟩,
    ⟨(some 68), none, .act, .load false 1 (.tmp 67)⟩,
    ⟨(some 69), none, .act, .len (.tmp 68)⟩,
    ⟨(some 70), none, .act, .eq true .int (.tmp 66) (.tmp 69)⟩,
    ⟨(some 71), none, .act, .mv (.tmp 70)⟩,
    ⟨(some 72), (some (71, false)), .act, .fieldAddr 8 (.tmp 2)⟩,
    ⟨(some 73), (some (71, false)), .act, .load false 1 (.tmp 72)⟩,
    ⟨(some 74), (some (71, false)), .act, .len (.tmp 73)⟩,
    ⟨(some 75), (some (71, false)), .act, .fieldAddr 8 (.tmp 3)⟩,
    ⟨(some 76), (some (71, false)), .act, .load false 1 (.tmp 75)⟩,
    ⟨(some 77), (some (71, false)), .act, .len (.tmp 76)⟩,
    ⟨(some 78), (some (71, false)), .act, .eq true .int (.tmp 74) (.tmp 77)⟩,
    ⟨(some 79), none, .act, .pick (.tmp 71) (.const (.bool true)) (.tmp 78)⟩,
    ⟨(some 80), none, .act, .mv (.tmp 79)⟩,
    ⟨(some 81), (some (80, false)), .act, .fieldAddr 16 (.tmp 2)⟩,
    ⟨(some 82), (some (80, false)), .act, .load false 1 (.tmp 81)⟩,
    ⟨(some 83), (some (80, false)), .act, .len (.tmp 82)⟩,
    ⟨(some 84), (some (80, false)), .act, .fieldAddr 16 (.tmp 3)⟩,
    ⟨(some 85), (some (80, false)), .act, .load false 1 (.tmp 84)⟩,
    ⟨(some 86), (some (80, false)), .act, .len (.tmp 85)⟩,
    ⟨(some 87), (some (80, false)), .act, .eq true .int (.tmp 83) (.tmp 86)⟩,
    ⟨(some 88), none, .act, .pick (.tmp 80) (.const (.bool true)) (.tmp 87)⟩,
    ⟨(some 89), none, .act, .mv (.tmp 88)⟩,
    ⟨(some 90), (some (89, false)), .act, .fieldAddr 2 (.tmp 2)⟩,
    ⟨(some 91), (some (89, false)), .act, .fieldAddr 2 (.tmp 90)⟩,
    ⟨(some 92), (some (89, false)), .act, .load false 1 (.tmp 91)⟩,
    ⟨(some 93), (some (89, false)), .act, .len (.tmp 92)⟩,
    ⟨(some 94), (some (89, false)), .act, .fieldAddr 2 (.tmp 3)⟩,
    ⟨(some 95), (some (89, false)), .act, .fieldAddr 2 (.tmp 94)⟩,
    ⟨(some 96), (some (89, false)), .act, .load false 1 (.tmp 95)⟩,
    ⟨(some 97), (some (89, false)), .act, .len (.tmp 96)⟩,
    ⟨(some 98), (some (89, false)), .act, .eq true .int (.tmp 93) (.tmp 97)⟩,
    ⟨(some 99), none, .act, .pick (.tmp 89) (.const (.bool true)) (.tmp 98)⟩,
    ⟨(some 100), none, .act, .mv (.tmp 99)⟩,
    ⟨(some 101), (some (100, false)), .act, .fieldAddr 2 (.tmp 2)⟩,
    ⟨(some 102), (some (100, false)), .act, .fieldAddr 4 (.tmp 101)⟩,
    ⟨(some 103), (some (100, false)), .act, .load false 1 (.tmp 102)⟩,
    ⟨(some 104), (some (100, false)), .act, .len (.tmp 103)⟩,
    ⟨(some 105), (some (100, false)), .act, .fieldAddr 2 (.tmp 3)⟩,
    ⟨(some 106), (some (100, false)), .act, .fieldAddr 4 (.tmp 105)⟩,
    ⟨(some 107), (some (100, false)), .act, .load false 1 (.tmp 106)⟩,
    ⟨(some 108), (some (100, false)), .act, .len (.tmp 107)⟩,
    ⟨(some 109), (some (100, false)), .act, .eq true .int (.tmp 104) (.tmp 108)⟩,
    ⟨(some 110), none, .act, .pick (.tmp 100) (.const (.bool true)) (.tmp 109)⟩])
  (.cond (.tmp 110)
   (.seq (.region [
     ⟨(some 4), none, .act, .mv (.const (.bool false))⟩])
   .ret)
   .skip))
  (.seq (.seq (.region [
    ⟨(some 111), none, .act, .fieldAddr 7 (.tmp 2)⟩,
    ⟨(some 112), none, .act, .load false 1 (.tmp 111)⟩,
    ⟨(some 113), none, .act, .len (.tmp 112)⟩,
    ⟨(some 114), none, .act, .mv (.const (.int .i64 0))⟩])
  (.block 0
   (.loop r10l0)))
  (.seq (.seq (.region [
    ⟨(some 130), none, .act, .fieldAddr 8 (.tmp 2)⟩,
    ⟨(some 131), none, .act, .load false 1 (.tmp 130)⟩,
    ⟨(some 132), none, .act, .len (.tmp 131)⟩,
    ⟨(some 133), none, .act, .mv (.const (.int .i64 0))⟩])
  (.block 2
   (.loop r10l1)))
  (.seq (.seq (.region [
    ⟨(some 166), none, .act, .fieldAddr 16 (.tmp 2)⟩,
    ⟨(some 167), none, .act, .load false 1 (.tmp 166)⟩,
    ⟨(some 168), none, .act, .len (.tmp 167)⟩,
    ⟨(some 169), none, .act, .mv (.const (.int .i64 0))⟩])
  (.block 4
   (.loop r10l2)))
  (.seq (.seq (.region [
    ⟨(some 184), none, .act, .fieldAddr 2 (.tmp 2)⟩,
    ⟨(some 185), none, .act, .fieldAddr 2 (.tmp 184)⟩,
    ⟨(some 186), none, .act, .load false 1 (.tmp 185)⟩,
    ⟨(some 187), none, .act, .len (.tmp 186)⟩,
    ⟨(some 188), none, .act, .mv (.const (.int .i64 0))⟩])
  (.block 6
   (.loop r10l3)))
  (.seq (.seq (.region [
    ⟨(some 205), none, .act, .fieldAddr 2 (.tmp 2)⟩,
    ⟨(some 206), none, .act, .fieldAddr 4 (.tmp 205)⟩,
    ⟨(some 207), none, .act, .load false 1 (.tmp 206)⟩,
    ⟨(some 208), none, .act, .len (.tmp 207)⟩,
    ⟨(some 209), none, .act, .mv (.const (.int .i64 0))⟩])
  (.block 8
   (.loop r10l4)))
  (.seq (.region [
    ⟨(some 226), none, .act, .fieldAddr 2 (.tmp 2)⟩,
    ⟨(some 227), none, .act, .fieldAddr 1 (.tmp 226)⟩,
    ⟨(some 228), none, .act, .load false 1 (.tmp 227)⟩,
    ⟨(some 229), none, .act, .fieldAddr 2 (.tmp 3)⟩,
    ⟨(some 230), none, .act, .fieldAddr 1 (.tmp 229)⟩,
    ⟨(some 231), none, .act, .load false 1 (.tmp 230)⟩,
    ⟨(some 232), none, .act, .eq false .str (.tmp 228) (.tmp 231)⟩,
    ⟨(some 233), none, .act, .mv (.tmp 232)⟩,
    ⟨(some 234), (some (233, true)), .act, .fieldAddr 2 (.tmp 2)⟩,
    ⟨(some 235), (some (233, true)), .act, .fieldAddr 3 (.tmp 234)⟩,
    ⟨(some 236), (some (233, true)), .act, .load false 1 (.tmp 235)⟩,
    ⟨(some 237), (some (233, true)), .act, .fieldAddr 2 (.tmp 3)⟩,
    ⟨(some 238), (some (233, true)), .act, .fieldAddr 3 (.tmp 237)⟩,
    ⟨(some 239), (some (233, true)), .act, .load false 1 (.tmp 238)⟩,
    ⟨(some 240), (some (233, true)), .act, .eq false .int (.tmp 236) (.tmp 239)⟩,
    ⟨(some 241), none, .act, .pick (.tmp 233) (.tmp 240) (.const (.bool false))⟩,
    ⟨(some 242), none, .act, .mv (.tmp 241)⟩,
    ⟨(some 243), (some (242, true)), .act, .fieldAddr 2 (.tmp 2)⟩,
    ⟨(some 244), (some (242, true)), .act, .fieldAddr 0 (.tmp 243)⟩,
    ⟨(some 245), (some (242, true)), .act, .load false 1 (.tmp 244)⟩,
    ⟨(some 246), (some (242, true)), .act, .fieldAddr 2 (.tmp 3)⟩,
    ⟨(some 247), (some (242, true)), .act, .fieldAddr 0 (.tmp 246)⟩,
    ⟨(some 248), (some (242, true)), .act, .load false 1 (.tmp 247)⟩,
    ⟨(some 249), (some (242, true)), .act, .eq false .int (.tmp 245) (.tmp 248)⟩,
    ⟨(some 250), none, .act, .pick (.tmp 242) (.tmp 249) (.const (.bool false))⟩,
    ⟨(some 251), none, .act, .mv (.tmp 250)⟩,
    ⟨(some 252), (some (251, true)), .act, .fieldAddr 10 (.tmp 2)⟩,
    ⟨(some 253), (some (251, true)), .act, .load false 1 (.tmp 252)⟩,
    ⟨(some 254), (some (251, true)), .act, .fieldAddr 10 (.tmp 3)⟩,
    ⟨(some 255), (some (251, true)), .act, .load false 1 (.tmp 254)⟩,
    ⟨(some 256), (some (251, true)), .act, .call 16 [(.tmp 253), (.tmp 255)]⟩,
    ⟨(some 257), none, .act, .pick (.tmp 251) (.tmp 256) (.const (.bool false))⟩,
    ⟨(some 258), none, .act, .mv (.tmp 257)⟩,
    ⟨(some 259), (some (258, true)), .act, .fieldAddr 13 (.tmp 2)⟩,
    ⟨(some 260), (some (258, true)), .act, .load false 1 (.tmp 259)⟩,
    ⟨(some 261), (some (258, true)), .act, .fieldAddr 13 (.tmp 3)⟩,
    ⟨(some 262), (some (258, true)), .act, .load false 1 (.tmp 261)⟩,
    ⟨(some 263), (some (258, true)), .act, .call 16 [(.tmp 260), (.tmp 262)]⟩,
    ⟨(some 264), none, .act, .pick (.tmp 258) (.tmp 263) (.const (.bool false))⟩,
    ⟨(some 265), none, .act, .mv (.tmp 264)⟩,
    ⟨(some 266), (some (265, true)), .act, .fieldAddr 14 (.tmp 2)⟩,
    ⟨(some 267), (some (265, true)), .act, .load false 1 (.tmp 266)⟩,
    ⟨(some 268), (some (265, true)), .act, .fieldAddr 14 (.tmp 3)⟩,
    ⟨(some 269), (some (265, true)), .act, .load false 1 (.tmp 268)⟩,
    ⟨(some 270), (some (265, true)), .act, .call 16 [(.tmp 267), (.tmp 269)]⟩,
    ⟨(some 271), none, .act, .pick (.tmp 265) (.tmp 270) (.const (.bool false))⟩,
    ⟨(some 272), none, .act, .mv (.tmp 271)⟩,
    ⟨(some 273), (some (272, true)), .act, .fieldAddr 15 (.tmp 2)⟩,
    ⟨(some 274), (some (272, true)), .act, .load false 1 (.tmp 273)⟩,
    ⟨(some 275), (some (272, true)), .act, .fieldAddr 15 (.tmp 3)⟩,
    ⟨(some 276), (some (272, true)), .act, .load false 1 (.tmp 275)⟩,
    ⟨(some 277), (some (272, true)), .act, .call 16 [(.tmp 274), (.tmp 276)]⟩,
    ⟨(some 278), none, .act, .pick (.tmp 272) (.tmp 277) (.const (.bool false))⟩,
    ⟨(some 4), none, .act, .mv (.tmp 278)⟩])
  .ret)))))))))
theorem res10 : ∃ c, Try.f10.body = some c ∧ resCode Try.prog 279 c = some r10 := ⟨_, rfl, by kernel_rfl⟩
theorem rr10 : resRes Try.prog Try.f10.results.toList = some [.tmp 4] := by kernel_rfl
section
variable (x : St) (b2 b3 : Nat) (h : AHeap) (h2 : h b2 = some (.box x.cells)) (h3 : h b3 = some (.box x.cells)) (k : List RT) (Q : AV → AHeap → Prop) (hk : RRun Try.prog Try.f10 279 k (Env.get [(2, ptr b2), (3, ptr b3)]) h Q)
include h2 h3 hk
theorem ss_vals (hl : x.vals.length ≤ 9223372036854775807) : ∀ (m i : Nat), i + m = x.vals.length →
    RRun Try.prog Try.f10 279 (.inLoop r10l0 :: .inBlock 0 :: k) (Env.get [(2, ptr b2), (3, ptr b3), (113, i64 x.vals.length), (114, i64 i)]) h Q := by
  intro m
  induction m with
  | zero =>
    intro i hi
    refine RRun.inLoop ?_
    repeat' (first | refine S.nilK ?_ | (refine S.op rfl ?_; first | ((first | refine S.lss rfl rfl ?_ ?_) <;> intro hlt <;> try (exfalso; omega))) | refine S.seq ?_ | refine S.region ?_ | refine S.condF rfl ?_ | refine RRun.exit rfl ?_)
    exact S.keep [2, 3] rfl hk
  | succ m ih =>
    intro i hi
    have hie : i < x.vals.length := by omega
    have h1 : (x.vals.map fun r => [exs r])[((i : Nat) : Int).toNat]? = some [exs x.vals[i]] := by simp [hie]
    have c16 := fun h => same_exs x.vals[i] (same_all _) h
    generalize x.vals[i] = r at h1 c16
    have ih := ih (i + 1) (by omega)
    unfold St.cells rowsA at h2 h3
    refine RRun.inLoop ?_
    repeat' (first | refine S.nilK ?_ | (refine S.op rfl ?_; first | refine R.indexAddr rfl rfl (by omega) h1 ?_ | (show ROpS _ _ (.call 16 _) _ _ _; refine callN rfl rfl (c16 _) rfl ?_) | refine R.mv rfl ?_ | refine R.fieldAddr rfl ?_ | refine R.loadR rfl rfl ?_ | refine R.load (by decide) rfl (by (repeat' (first | assumption)); first | done | fail) rfl ?_ | refine S.addI rfl rfl (by omega) ?_ | refine R.not rfl ?_ | ((first | refine S.lss rfl rfl ?_ ?_) <;> intro hlt <;> try (exfalso; omega))) | refine S.seq ?_ | refine S.region ?_ | refine S.condT rfl ?_ | refine S.condF rfl ?_ | refine RRun.skip ?_ | refine RRun.block ?_ | refine RRun.inBlock ?_)
    rw [show ((i : Int) + 1) = ((i + 1 : Nat) : Int) by omega]
    exact S.keep [2, 3, 113, 114] rfl ih
theorem ss_sets (hl : x.sets.length ≤ 9223372036854775807) : ∀ (m i : Nat), i + m = x.sets.length →
    RRun Try.prog Try.f10 279 (.inLoop r10l1 :: .inBlock 2 :: k) (Env.get [(2, ptr b2), (3, ptr b3), (132, i64 x.sets.length), (133, i64 i)]) h Q := by
  intro m
  induction m with
  | zero =>
    intro i hi
    refine RRun.inLoop ?_
    repeat' (first | refine S.nilK ?_ | (refine S.op rfl ?_; first | ((first | refine S.lss rfl rfl ?_ ?_) <;> intro hlt <;> try (exfalso; omega))) | refine S.seq ?_ | refine S.region ?_ | refine S.condF rfl ?_ | refine RRun.exit rfl ?_)
    exact S.keep [2, 3] rfl hk
  | succ m ih =>
    intro i hi
    have hie : i < x.sets.length := by omega
    have h1 : (x.sets.map setA)[((i : Nat) : Int).toNat]? = some (setA x.sets[i]) := by simp [hie]
    generalize x.sets[i] = r at h1
    have c8 := same_ex r.2
    obtain ⟨nm, op, t, xn, n, ⟨vk, vn, vs⟩, ars⟩ := r
    unfold SameE at c8
    unfold setA at h1
    dsimp only at h1 c8
    rw [Pa.Ex.cells_mk] at h1 c8
    have ih := ih (i + 1) (by omega)
    unfold St.cells setsA at h2 h3
    refine RRun.inLoop ?_
    repeat' (first | refine S.nilK ?_ | (refine S.op rfl ?_; first | refine R.indexAddr rfl rfl (by omega) h1 ?_ | refine S.eqStrSame rfl rfl ?_ | (show ROpS _ _ (.call 8 _) _ _ _; refine callN rfl rfl (c8 _) rfl ?_) | refine R.mv rfl ?_ | refine R.fieldAddr rfl ?_ | refine R.fieldAddrR rfl ?_ | refine R.loadR rfl rfl ?_ | refine R.load (by decide) rfl (by (repeat' (first | assumption)); first | done | fail) rfl ?_ | refine S.addI rfl rfl (by omega) ?_ | refine R.pickF rfl rfl ?_ | refine R.not rfl ?_ | ((first | refine S.lss rfl rfl ?_ ?_) <;> intro hlt <;> try (exfalso; omega))) | refine S.seq ?_ | refine S.region ?_ | refine S.condT rfl ?_ | refine S.condF rfl ?_ | refine RRun.skip ?_ | refine RRun.block ?_ | refine RRun.inBlock ?_)
    rw [show ((i : Int) + 1) = ((i + 1 : Nat) : Int) by omega]
    exact S.keep [2, 3, 132, 133] rfl ih
theorem ss_ord (hl : x.ord.length ≤ 9223372036854775807) : ∀ (m i : Nat), i + m = x.ord.length →
    RRun Try.prog Try.f10 279 (.inLoop r10l2 :: .inBlock 4 :: k) (Env.get [(2, ptr b2), (3, ptr b3), (168, i64 x.ord.length), (169, i64 i)]) h Q := by
  intro m
  induction m with
  | zero =>
    intro i hi
    refine RRun.inLoop ?_
    repeat' (first | refine S.nilK ?_ | (refine S.op rfl ?_; first | ((first | refine S.lss rfl rfl ?_ ?_) <;> intro hlt <;> try (exfalso; omega))) | refine S.seq ?_ | refine S.region ?_ | refine S.condF rfl ?_ | refine RRun.exit rfl ?_)
    exact S.keep [2, 3] rfl hk
  | succ m ih =>
    intro i hi
    have hie : i < x.ord.length := by omega
    have h1 : (x.ord.map byA)[((i : Nat) : Int).toNat]? = some (byA x.ord[i]) := by simp [hie]
    generalize x.ord[i] = r at h1
    obtain ⟨n, d⟩ := r
    have ha := by_agg n d
    unfold byA at h1
    dsimp only at h1
    have ih := ih (i + 1) (by omega)
    unfold St.cells bysA at h2 h3
    refine RRun.inLoop ?_
    repeat' (first | refine S.nilK ?_ | (refine S.op rfl ?_; first | refine R.indexAddr rfl rfl (by omega) h1 ?_ | refine R.eqAgg (xs := [.int .i64 n, .bool d]) (ys := [.int .i64 n, .bool d]) rfl rfl ha ?_ | refine R.mv rfl ?_ | refine R.fieldAddr rfl ?_ | refine R.loadR rfl rfl ?_ | refine R.load (by decide) rfl (by (repeat' (first | assumption)); first | done | fail) rfl ?_ | refine S.addI rfl rfl (by omega) ?_ | ((first | refine S.lss rfl rfl ?_ ?_) <;> intro hlt <;> try (exfalso; omega))) | refine S.seq ?_ | refine S.region ?_ | refine S.condT rfl ?_ | refine S.condF rfl ?_ | refine RRun.skip ?_ | refine RRun.block ?_ | refine RRun.inBlock ?_)
    rw [show ((i : Int) + 1) = ((i + 1 : Nat) : Int) by omega]
    exact S.keep [2, 3, 168, 169] rfl ih
theorem ss_cols (hl : x.cols.length ≤ 9223372036854775807) : ∀ (m i : Nat), i + m = x.cols.length →
    RRun Try.prog Try.f10 279 (.inLoop r10l3 :: .inBlock 6 :: k) (Env.get [(2, ptr b2), (3, ptr b3), (187, i64 x.cols.length), (188, i64 i)]) h Q := by
  intro m
  induction m with
  | zero =>
    intro i hi
    refine RRun.inLoop ?_
    repeat' (first | refine S.nilK ?_ | (refine S.op rfl ?_; first | ((first | refine S.lss rfl rfl ?_ ?_) <;> intro hlt <;> try (exfalso; omega))) | refine S.seq ?_ | refine S.region ?_ | refine S.condF rfl ?_ | refine RRun.exit rfl ?_)
    exact S.keep [2, 3] rfl hk
  | succ m ih =>
    intro i hi
    have hie : i < x.cols.length := by omega
    have h1 : (x.cols.map colA)[((i : Nat) : Int).toNat]? = some (colA x.cols[i]) := by simp [hie]
    generalize x.cols[i] = r at h1
    obtain ⟨nm, kd, nn⟩ := r
    have ha := col_agg nm kd nn
    unfold colA at h1
    dsimp only at h1
    have ih := ih (i + 1) (by omega)
    unfold St.cells colsA at h2 h3
    refine RRun.inLoop ?_
    repeat' (first | refine S.nilK ?_ | (refine S.op rfl ?_; first | refine R.indexAddr rfl rfl (by omega) h1 ?_ | refine R.eqAgg (xs := [.string ⟨nm.toArray⟩, .int .i64 kd, .bool nn]) (ys := [.string ⟨nm.toArray⟩, .int .i64 kd, .bool nn]) rfl rfl ha ?_ | refine R.mv rfl ?_ | refine R.fieldAddr rfl ?_ | refine R.loadR rfl rfl ?_ | refine R.load (by decide) rfl (by (repeat' (first | assumption)); first | done | fail) rfl ?_ | refine S.addI rfl rfl (by omega) ?_ | ((first | refine S.lss rfl rfl ?_ ?_) <;> intro hlt <;> try (exfalso; omega))) | refine S.seq ?_ | refine S.region ?_ | refine S.condT rfl ?_ | refine S.condF rfl ?_ | refine RRun.skip ?_ | refine RRun.block ?_ | refine RRun.inBlock ?_)
    rw [show ((i : Int) + 1) = ((i + 1 : Nat) : Int) by omega]
    exact S.keep [2, 3, 187, 188] rfl ih
theorem ss_idx (hl : x.idx.length ≤ 9223372036854775807) : ∀ (m i : Nat), i + m = x.idx.length →
    RRun Try.prog Try.f10 279 (.inLoop r10l4 :: .inBlock 8 :: k) (Env.get [(2, ptr b2), (3, ptr b3), (208, i64 x.idx.length), (209, i64 i)]) h Q := by
  intro m
  induction m with
  | zero =>
    intro i hi
    refine RRun.inLoop ?_
    repeat' (first | refine S.nilK ?_ | (refine S.op rfl ?_; first | ((first | refine S.lss rfl rfl ?_ ?_) <;> intro hlt <;> try (exfalso; omega))) | refine S.seq ?_ | refine S.region ?_ | refine S.condF rfl ?_ | refine RRun.exit rfl ?_)
    exact S.keep [2, 3] rfl hk
  | succ m ih =>
    intro i hi
    have hie : i < x.idx.length := by omega
    have h1 : (x.idx.map fun i => [i64 i])[((i : Nat) : Int).toNat]? = some [i64 x.idx[i]] := by simp [hie]
    generalize x.idx[i] = r at h1
    have ih := ih (i + 1) (by omega)
    unfold St.cells intsA at h2 h3
    refine RRun.inLoop ?_
    repeat' (first | refine S.nilK ?_ | (refine S.op rfl ?_; first | refine R.indexAddr rfl rfl (by omega) h1 ?_ | refine S.eqIntSame rfl rfl ?_ | refine R.mv rfl ?_ | refine R.fieldAddr rfl ?_ | refine R.loadR rfl rfl ?_ | refine R.load (by decide) rfl (by (repeat' (first | assumption)); first | done | fail) rfl ?_ | refine S.addI rfl rfl (by omega) ?_ | ((first | refine S.lss rfl rfl ?_ ?_) <;> intro hlt <;> try (exfalso; omega))) | refine S.seq ?_ | refine S.region ?_ | refine S.condT rfl ?_ | refine S.condF rfl ?_ | refine RRun.skip ?_ | refine RRun.block ?_ | refine RRun.inBlock ?_)
    rw [show ((i : Int) + 1) = ((i + 1 : Nat) : Int) by omega]
    exact S.keep [2, 3, 208, 209] rfl ih
end
end Go.Proofs.Ytdinnoejipmiiaa

namespace Go.Proofs.Ytdinnoejipmiiaa
open Go.Av
open Go.Av.Pa (PS)
theorem eqBoolS {P : Program} {c : Cls} {E : AEnv} {h : AHeap} {K : AV → AHeap → Prop} {neg : Bool} {x y : Operand} {a : Bool} (hx : aev E x = some (bl a)) (hy : aev E y = some (bl a)) (hk : K (.v (.bool (!neg))) h) : ROpS P c (.eq neg .bool x y) E h K :=
  R.eqBool hx hy (by cases neg <;> simpa using hk)
theorem same_stmt (x : St) (h : AHeap) : ACalls Try.prog 10 [.ag x.cells, .ag x.cells] h (fun y h' => y = bl true ∧ h' = h) := by
  obtain ⟨c', hc1, hc2⟩ := res10
  refine ACalls.weak (ACalls.enter Try.func10 hc1 Try.ntmps10 hc2 (Nat.le_of_ble_eq_true rfl) rfl ?_)
  have e1 : (x.vals.map fun r => [exs r]).length = x.vals.length := by simp
  have e2 : (x.sets.map setA).length = x.sets.length := by simp
  have e3 : (x.ord.map byA).length = x.ord.length := by simp
  have e4 : (x.cols.map colA).length = x.cols.length := by simp
  have e5 : (x.idx.map fun i => [i64 i]).length = x.idx.length := by simp
  have cl := fun h => same_exs x.lst (same_all _) h
  have cn := fun h => same_exs x.on (same_all _) h
  have cw := fun h => same_exs x.wh (same_all _) h
  have cg := fun h => same_exs x.grp (same_all _) h
  unfold St.cells
  repeat' (first | refine S.nilK ?_ | (refine S.op rfl ?_; first | refine S.eqIntSame rfl rfl ?_ | refine S.eqStrSame rfl rfl ?_ | refine eqBoolS rfl rfl ?_ | refine R.mv rfl ?_ | refine R.fieldAddr rfl ?_ | refine R.load (by decide) rfl (by (repeat' (first | exact AHeap.set_same _ _ _ | refine AHeap.get_fresh ‹_› ?_)); first | done | fail) rfl ?_ | refine R.pickF rfl rfl ?_ | refine R.len rfl ?_ | refine R.box rfl rfl rfl (fun b hb => ?_)) | refine S.seq ?_ | refine S.region ?_ | refine S.condF rfl ?_ | refine RRun.skip ?_ | refine RRun.block ?_)
  refine S.lenLe (t := 112) (es := x.vals.map fun r => [exs r]) rfl fun l1 => ?_
  rw [e1] at l1 ⊢
  refine RRun.loopIn (S.keep [2, 3, 113, 114] rfl (ss_vals x _ _ _ (by (repeat' (first | exact AHeap.set_same _ _ _ | refine AHeap.get_fresh ‹_› ?_)); first | done | fail) (by (repeat' (first | exact AHeap.set_same _ _ _)); first | done | fail) _ _ ?_ l1 x.vals.length 0 (by omega)))
  repeat' (first | refine S.nilK ?_ | (refine S.op rfl ?_; first | refine R.mv rfl ?_ | refine R.fieldAddr rfl ?_ | refine R.load (by decide) rfl (by (repeat' (first | exact AHeap.set_same _ _ _ | refine AHeap.get_fresh ‹_› ?_)); first | done | fail) rfl ?_ | refine R.len rfl ?_) | refine S.seq ?_ | refine S.region ?_ | refine RRun.block ?_)
  refine S.lenLe (t := 131) (es := x.sets.map setA) rfl fun l2 => ?_
  rw [e2] at l2 ⊢
  refine RRun.loopIn (S.keep [2, 3, 132, 133] rfl (ss_sets x _ _ _ (by (repeat' (first | exact AHeap.set_same _ _ _ | refine AHeap.get_fresh ‹_› ?_)); first | done | fail) (by (repeat' (first | exact AHeap.set_same _ _ _)); first | done | fail) _ _ ?_ l2 x.sets.length 0 (by omega)))
  repeat' (first | refine S.nilK ?_ | (refine S.op rfl ?_; first | refine R.mv rfl ?_ | refine R.fieldAddr rfl ?_ | refine R.load (by decide) rfl (by (repeat' (first | exact AHeap.set_same _ _ _ | refine AHeap.get_fresh ‹_› ?_)); first | done | fail) rfl ?_ | refine R.len rfl ?_) | refine S.seq ?_ | refine S.region ?_ | refine RRun.block ?_)
  refine S.lenLe (t := 167) (es := x.ord.map byA) rfl fun l3 => ?_
  rw [e3] at l3 ⊢
  refine RRun.loopIn (S.keep [2, 3, 168, 169] rfl (ss_ord x _ _ _ (by (repeat' (first | exact AHeap.set_same _ _ _ | refine AHeap.get_fresh ‹_› ?_)); first | done | fail) (by (repeat' (first | exact AHeap.set_same _ _ _)); first | done | fail) _ _ ?_ l3 x.ord.length 0 (by omega)))
  repeat' (first | refine S.nilK ?_ | (refine S.op rfl ?_; first | refine R.mv rfl ?_ | refine R.fieldAddr rfl ?_ | refine R.load (by decide) rfl (by (repeat' (first | exact AHeap.set_same _ _ _ | refine AHeap.get_fresh ‹_› ?_)); first | done | fail) rfl ?_ | refine R.len rfl ?_) | refine S.seq ?_ | refine S.region ?_ | refine RRun.block ?_)
  refine S.lenLe (t := 186) (es := x.cols.map colA) rfl fun l4 => ?_
  rw [e4] at l4 ⊢
  refine RRun.loopIn (S.keep [2, 3, 187, 188] rfl (ss_cols x _ _ _ (by (repeat' (first | exact AHeap.set_same _ _ _ | refine AHeap.get_fresh ‹_› ?_)); first | done | fail) (by (repeat' (first | exact AHeap.set_same _ _ _)); first | done | fail) _ _ ?_ l4 x.cols.length 0 (by omega)))
  repeat' (first | refine S.nilK ?_ | (refine S.op rfl ?_; first | refine R.mv rfl ?_ | refine R.fieldAddr rfl ?_ | refine R.load (by decide) rfl (by (repeat' (first | exact AHeap.set_same _ _ _ | refine AHeap.get_fresh ‹_› ?_)); first | done | fail) rfl ?_ | refine R.len rfl ?_) | refine S.seq ?_ | refine S.region ?_ | refine RRun.block ?_)
  refine S.lenLe (t := 207) (es := x.idx.map fun i => [i64 i]) rfl fun l5 => ?_
  rw [e5] at l5 ⊢
  refine RRun.loopIn (S.keep [2, 3, 208, 209] rfl (ss_idx x _ _ _ (by (repeat' (first | exact AHeap.set_same _ _ _ | refine AHeap.get_fresh ‹_› ?_)); first | done | fail) (by (repeat' (first | exact AHeap.set_same _ _ _)); first | done | fail) _ _ ?_ l5 x.idx.length 0 (by omega)))
  repeat' (first | refine S.nilK ?_ | (refine S.op rfl ?_; first | refine S.eqIntSame rfl rfl ?_ | refine S.eqStrSame rfl rfl ?_ | (show ROpS _ _ (.call 16 _) _ _ _; refine callN rfl rfl (cl _) rfl ?_) | (show ROpS _ _ (.call 16 _) _ _ _; refine callN rfl rfl (cn _) rfl ?_) | (show ROpS _ _ (.call 16 _) _ _ _; refine callN rfl rfl (cw _) rfl ?_) | (show ROpS _ _ (.call 16 _) _ _ _; refine callN rfl rfl (cg _) rfl ?_) | refine R.mv rfl ?_ | refine R.fieldAddr rfl ?_ | refine R.load (by decide) rfl (by (repeat' (first | exact AHeap.set_same _ _ _ | refine AHeap.get_fresh ‹_› ?_)); first | done | fail) rfl ?_ | refine R.pickT rfl rfl ?_) | refine S.seq ?_ | refine S.region ?_)
  apply S.ret rr10
  case hx => repeat (first | exact ResAt.nil | apply ResAt.tmp rfl)
  exact ⟨_, h, .refl _, (by repeat (first | exact AHeap.le.refl _ | refine AHeap.le.set ?_ _ (by (repeat' (first | assumption | exact AHeap.z1 ‹_›)); first | done | fail))), rfl, rfl⟩
end Go.Proofs.Ytdinnoejipmiiaa

namespace Go.Av.Pa
variable {l : List Tok} {fin : Int}
mutual
/-- How large an expression is. -/
def Ex.w : Ex → Nat
  | .mk op t nm n v args => 60 + t.length + nm.length + 2 * v.s.length + Ex.wL args
def Ex.wL : List Ex → Nat
  | [] => 0
  | e :: r => Ex.w e + Ex.wL r
end
mutual
/-- Its numbers fit. -/
def Ex.lim : Ex → Prop
  | .mk op t nm n v args => ((-9223372036854775808 ≤ v.n ∧ v.n ≤ 9223372036854775807) ∧ v.s.length ≤ 1000) ∧ Ex.limL args
def Ex.limL : List Ex → Prop
  | [] => True
  | e :: r => Ex.lim e ∧ Ex.limL r
end
theorem w_op1 (op : Int) (e : Ex) : (opE op [e]).w = 60 + e.w := by unfold opE; rw [Ex.w, Ex.wL, Ex.wL]; simp [vz]
theorem w_op0 (op : Int) : (opE op []).w = 60 := by unfold opE; rw [Ex.w, Ex.wL]; simp [vz]
theorem w_nil : Ex.nil.w = 60 := w_op0 0
theorem vz_fits : (-9223372036854775808 ≤ vz.n ∧ vz.n ≤ 9223372036854775807) ∧ vz.s.length ≤ 1000 := by decide
theorem lim_op1 (op : Int) {e : Ex} (h : e.lim) : (opE op [e]).lim := by unfold opE; rw [Ex.lim, Ex.limL, Ex.limL]; exact ⟨vz_fits, h, trivial⟩
theorem lim_mk (op : Int) (t nm : List UInt8) {v : Val} (h : (-9223372036854775808 ≤ v.n ∧ v.n ≤ 9223372036854775807) ∧ v.s.length ≤ 1000) : (Ex.mk op t nm 0 v []).lim := by rw [Ex.lim, Ex.limL]; exact ⟨h, trivial⟩
theorem lim_nil : Ex.nil.lim := lim_mk 0 [] [] vz_fits
structure Hs (l : List Tok) (i0 : Nat) (e : Ex) (s : PS) : Prop where
  w : e.w ≤ 4200 * (s.i - i0) + 60
  lim : e.lim
  up : i0 ≤ s.i
  le : s.i ≤ l.length
theorem Hs.nil {i0 : Nat} {s : PS} (up : i0 ≤ s.i) (le : s.i ≤ l.length) : Hs l i0 Ex.nil s := ⟨by rw [w_nil]; omega, lim_nil, up, le⟩
theorem Hs.from {i0 i1 : Nat} {e : Ex} {s : PS} (h : Hs l i1 e s) (up : i0 ≤ i1) : Hs l i0 e s := ⟨by have := h.w; omega, h.lim, by have := h.up; omega, h.le⟩
theorem Hs.op1 {i0 i1 : Nat} {e : Ex} {s : PS} (op : Int) (h : Hs l i1 e s) (up : i0 + 1 ≤ i1) : Hs l i0 (opE op [e]) s := ⟨by have := h.w; have := h.up; rw [w_op1]; omega, lim_op1 op h.lim, by have := h.up; omega, h.le⟩
end Go.Av.Pa

namespace Go.Proofs.Ytdinnoejipmiiaa
open Go.Av
def _root_.Go.Av.Pa.Tok.key (t : Tok) : Int × List UInt8 × Int := (t.kind, t.s, t.n)
def GoodWord (s : List UInt8) : Prop := (∃ c r, s = c :: r ∧ isLetter c = true) ∧ ∀ c ∈ s, isWord c = true ∧ isUpper c = false
inductive Good : Tok → Prop
  | word (s : List UInt8) (pos : Int) : GoodWord s → Good ⟨1, s, 0, pos⟩
  | number (m : Nat) (pos : Int) : m ≤ 9223372036854775807 → Good ⟨2, [], m, pos⟩
  | quoted (s : List UInt8) (pos : Int) : s.length ≤ 1000 → Good ⟨3, s, 0, pos⟩
  | mark (c : UInt8) (pos : Int) : marksL.contains c = true → Good ⟨4, [c], 0, pos⟩
  | pair (c d : UInt8) (pos : Int) : pair c d = true → Good ⟨4, [c, d], 0, pos⟩
theorem isWord_small {c : UInt8} (h : isWord c = true) : isWord (small c) = true ∧ isUpper (small c) = false := by
  by_cases hu : 65 ≤ c.toNat ∧ c.toNat ≤ 90
  · have := small_up hu.1 hu.2
    simp only [isWord, isLetter, isDigit, isUpper, this, Bool.or_eq_true, decide_eq_true_eq, decide_eq_false_iff_not]
    omega
  · rw [small_not hu]
    refine ⟨h, ?_⟩
    simp only [isUpper, decide_eq_false_iff_not]
    exact hu
theorem isLetter_small {c : UInt8} (h : isLetter c = true) : isLetter (small c) = true := by
  by_cases hu : 65 ≤ c.toNat ∧ c.toNat ≤ 90
  · have := small_up hu.1 hu.2
    simp only [isLetter, this, decide_eq_true_eq]
    omega
  · rw [small_not hu]; exact h
theorem goodWord_of {t : List UInt8} {c : UInt8} {r : List UInt8} (ht : t = c :: r) (hc : isLetter c = true) : GoodWord ((wordOf t).map small) := by
  subst ht
  have hw : isWord c = true := by simp [isWord, hc]
  constructor
  · refine ⟨small c, (wordOf r).map small, ?_, isLetter_small hc⟩
    simp [wordOf, hw]
  · intro x hx
    simp only [List.mem_map] at hx
    obtain ⟨y, hy, rfl⟩ := hx
    exact isWord_small (List.all_eq_true.1 List.all_takeWhile y hy)
theorem numStep_good {a : Int} {c : UInt8} (hc : isDigit c = true) (h0 : 0 ≤ a) : ∀ b, numStep (some a) c = some b → 0 ≤ b ∧ b ≤ 9223372036854775807 := by
  intro b hb
  have := isDigit_spec hc
  simp only [numStep] at hb
  split at hb
  · split at hb
    · simp only [Option.some.injEq] at hb
      omega
    · cases hb
  · cases hb
theorem num_none : ∀ (l : List UInt8), l.foldl numStep none = none
  | [] => rfl
  | c :: l => num_none l
theorem num_good : ∀ (l : List UInt8) (a : Int), (∀ c ∈ l, isDigit c = true) → 0 ≤ a ∧ a ≤ 9223372036854775807 → ∀ b, l.foldl numStep (some a) = some b → 0 ≤ b ∧ b ≤ 9223372036854775807
  | [], a, _, ha, b, hb => by simp at hb; omega
  | c :: l, a, hl, ha, b, hb => by
    rw [List.foldl_cons] at hb
    cases hs : numStep (some a) c with
    | none => rw [hs, num_none] at hb; cases hb
    | some a' =>
      rw [hs] at hb
      exact num_good l a' (fun x hx => hl x (List.mem_cons_of_mem _ hx)) (numStep_good (hl c (by simp)) ha.1 a' hs) b hb
theorem nextR_good (t : List UInt8) (ht : t ≠ []) (hb : (nextR t).2.1 = true) (pos : Int) : Good { (nextR t).1 with pos := pos } := by
  match t, ht with
  | c :: r, _ =>
    unfold nextR at hb ⊢
    simp only at hb ⊢
    split at hb
    · rename_i hc
      rw [if_pos hc]
      exact .word _ _ (goodWord_of rfl hc)
    · rename_i hc
      rw [if_neg hc]
      split at hb
      · rename_i hd
        rw [if_pos hd]
        simp only at hb ⊢
        cases hn : numO (c :: r) with
        | none => rw [hn] at hb; cases hb
        | some n =>
          have := num_good (digits (c :: r)) 0 (fun x hx => List.all_eq_true.1 List.all_takeWhile x hx) (by omega) n hn
          obtain ⟨m, rfl⟩ : ∃ m : Nat, n = (m : Int) := ⟨n.natAbs, by omega⟩
          exact .number m _ (by omega)
      · rename_i hd
        rw [if_neg hd]
        split at hb
        · rename_i hq
          rw [if_pos hq]
          cases hqr : quo r with
          | none => rw [hqr] at hb; cases hb
          | some ln =>
            obtain ⟨l, n⟩ := ln
            rw [hqr] at hb
            simp only [decide_eq_true_eq] at hb
            exact .quoted l _ hb
        · rename_i hq
          rw [if_neg hq]
          simp only at hb ⊢
          match r with
          | [] =>
            simp only [markP] at hb ⊢
            exact .mark c _ hb
          | d :: r' =>
            simp only [markP] at hb ⊢
            split at hb
            · rename_i hp
              rw [if_pos hp]
              exact .pair c d _ hp
            · rename_i hp
              rw [if_neg hp]
              exact .mark c _ hb
theorem cutF_good : ∀ (f : Nat) (t : List UInt8) (i n : Nat), ∀ x ∈ (cutF f t i n).1, Good x ∧ x.s.length ≤ t.length := by
  intro f
  induction f with
  | zero => intro t i n x hx; simp [cutF] at hx
  | succ f ih =>
    intro t i n x hx
    by_cases h1 : t.drop (blanks t) = []
    · rw [cutF_end h1] at hx; simp at hx
    · by_cases h2 : n = 400
      · rw [cutF_long h1 h2] at hx; simp at hx
      · cases h3 : (nextR (t.drop (blanks t))).2.1 with
        | false => rw [cutF_bad h1 h2 h3] at hx; simp at hx
        | true =>
          rw [cutF_tok h1 h2 h3] at hx
          simp only [List.mem_cons] at hx
          rcases hx with rfl | hx
          · refine ⟨nextR_good _ h1 h3 _, ?_⟩
            have hd : (t.drop (blanks t)).length ≤ t.length := by simp
            refine Nat.le_trans ?_ hd
            generalize t.drop (blanks t) = u at h1 h3
            match u, h1 with
            | c :: r, _ =>
              simp only [nextR] at h3 ⊢
              split
              · simp only [List.length_map]; exact takeWhile_le _
              · rename_i hc
                rw [if_neg hc] at h3
                split
                · simp
                · rename_i hd
                  rw [if_neg hd] at h3
                  split
                  · rename_i hq
                    rw [if_pos hq] at h3
                    cases hqr : quo r with
                    | none => rw [hqr] at h3; cases h3
                    | some ln =>
                      obtain ⟨l, m⟩ := ln
                      have := quo_len _ r (Nat.le_refl _) l m hqr
                      simp only [List.length_cons]; omega
                  · match r with
                    | [] => simp [markP]
                    | d :: r' => simp only [markP]; split <;> simp
          · have := ih _ _ _ x hx
            refine ⟨this.1, Nat.le_trans this.2 ?_⟩
            simp
def Behind (r : List UInt8) : Prop := r = [] ∨ ∃ r', r = 32 :: r'
end Go.Proofs.Ytdinnoejipmiiaa

namespace Go.Proofs.Ytdinnoejipmiiaa
open Go.Av
open Go.Av.Pa (Told Pc betw)
def r7 : RCode :=
  (.seq (.region [
    ⟨(some 1), none, .act, .box (.tmp 0)⟩,
    ⟨(some 2), none, .act, .mv (.const (.string ⟨#[]⟩))⟩])
  (.seq (.region [
    ⟨(some 4), none, .act, .build [(.slice none 0 0)] []⟩,
    ⟨(some 5), none, .act, .box (.tmp 4)⟩,
    ⟨(some 3), none, .act, .mv (.tmp 5)⟩])
  (.seq (.region [
    ⟨(some 6), none, .act, .mv (.tmp 3)⟩,
    ⟨(some 7), none, .act, .load true 8 (.tmp 1)⟩,
    ⟨(some 8), none, .act, .call 15 [(.tmp 6), (.tmp 7)]⟩])
  (.seq (.region [
    ⟨(some 9), none, .act, .mv (.tmp 3)⟩,
    ⟨(some 10), none, .act, .nilCheck (.tmp 9)⟩,
    ⟨(some 11), none, .act, .fieldAddr 0 (.tmp 10)⟩,
    ⟨(some 12), none, .act, .load false 1 (.tmp 11)⟩,
    ⟨(some 13), none, .act, .toStr (.tmp 12)⟩,
    ⟨(some 2), none, .act, .mv (.tmp 13)⟩])
  .ret))))
end Go.Proofs.Ytdinnoejipmiiaa

namespace Go.Proofs.Ytdinnoejipmiiaa
open Go.Av
open Go.Av.Pa (Pc betw)
def Lx (x : List UInt8) (k : Int × List UInt8 × Int) : Prop := ∀ r, Behind r → (∃ c u, x = c :: u ∧ isBlank c = false) ∧ (nextR (x ++ r)).1.key = k ∧ (nextR (x ++ r)).2.1 = true ∧ (nextR (x ++ r)).2.2 = x.length
def goodMark (s : List UInt8) : Bool := match s with
  | [c] => marksL.contains c
  | [c, d] => pair c d
  | _ => false
def PcOk : Pc → Prop
  | .word s => Pa.goodName s = true
  | .mark s => goodMark s = true
  | .num n => 0 ≤ n ∧ n ≤ 9223372036854775807
  | .quo s => s.length ≤ 1000
inductive Lxs : List (List UInt8) → List (Int × List UInt8 × Int) → Prop
  | nil : Lxs [] []
  | cons {x : List UInt8} {k : Int × List UInt8 × Int} {xs : List (List UInt8)} {ks : List (Int × List UInt8 × Int)} : Lx x k → Lxs xs ks → Lxs (x :: xs) (k :: ks)
theorem Lxs.len : ∀ {xs : List (List UInt8)} {ks : List (Int × List UInt8 × Int)}, Lxs xs ks → ks.length = xs.length
  | _, _, .nil => rfl
  | _, _, .cons _ h => by rw [List.length_cons, List.length_cons, h.len]
def PcsOk (ps : List Pc) : Prop := ∀ p ∈ ps, PcOk p
theorem PcsOk.cons {p : Pc} {ps : List Pc} (h : PcOk p) (h' : PcsOk ps) : PcsOk (p :: ps) := fun q hq => by
  rcases List.mem_cons.1 hq with rfl | hq
  · exact h
  · exact h' q hq
theorem PcsOk.app {a b : List Pc} (h : PcsOk a) (h' : PcsOk b) : PcsOk (a ++ b) := fun q hq => (List.mem_append.1 hq).elim (h q) (h' q)
theorem PcsOk.nil : PcsOk [] := fun q hq => by cases hq
end Go.Proofs.Ytdinnoejipmiiaa

namespace Go.Proofs.Ytdinnoejipmiiaa
open Go.Av
open Go.Av.Pa (Pc betw exprP expressionP)
theorem lexed_mem {s : List UInt8} {t : Tok} (h : t ∈ (lexed s).1) : Good t ∧ t.s.length ≤ s.length := by
  unfold lexed at h
  cases hc : (cutS s).2 with
  | none => rw [hc] at h; exact cutF_good _ _ _ _ t h
  | some p => rw [hc] at h; cases h
theorem lexed_len (s : List UInt8) : (lexed s).1.length ≤ 400 := by
  unfold lexed
  cases hc : (cutS s).2 with
  | none =>
    have := cutF_len (s.length + 1) s 0 0 (by decide)
    simpa [cutS] using this
  | some p => simp
theorem lexed_ok {s : List UInt8} (hs : s.length ≤ 2000000) : TOk (lexed s).1 := ⟨lexed_len s, fun t ht => Nat.le_trans (lexed_mem ht).2 (Nat.le_trans hs (by decide))⟩
def r3 : RCode :=
  (.seq (.region [
    ⟨(some 2), none, .act, .mv (.const (.bool false))⟩])
  (.seq (.seq (.region [
    ⟨(some 9), none, .act, .call 5 []⟩,
    ⟨(some 10), none, .act, .un .not (.tmp 9)⟩])
  (.cond (.tmp 10)
   (.seq (.region [
     ⟨(some 2), none, .act, .mv (.const (.bool false))⟩])
   .ret)
   .skip))
  (.seq (.seq (.region [
    ⟨(some 11), none, .act, .mv (.tmp 0)⟩,
    ⟨(some 12), none, .act, .lenStr (.tmp 11)⟩,
    ⟨(some 13), none, .act, .bin .gtr (.tmp 12) (.const (.int .i64 2000))⟩])
  (.cond (.tmp 13)
   (.seq (.region [
     ⟨(some 2), none, .act, .mv (.const (.bool true))⟩])
   .ret)
   .skip))
  (.seq (.region [
    ⟨(some 15), none, .act, .mv (.tmp 0)⟩,
    ⟨(some 16), none, .act, .call 6 [(.tmp 15)]⟩,
    ⟨(some 14), none, .act, .mv (.tmp 16)⟩,
    ⟨(some 17), none, .act, .extract (.tmp 14) 0⟩,
    ⟨(some 18), none, .act, .extract (.tmp 14) 1⟩,
    ⟨(some 19), none, .act, .extract (.tmp 14) 2⟩,
    ⟨(some 3), none, .act, .alloc [(.int .i64 0), (.string ⟨#[]⟩), (.string ⟨#[]⟩), (.int .i64 0), (.int .i64 0), (.int .i64 0), (.string ⟨#[]⟩), (.slice none 0 0)]⟩,
    ⟨none, none, .act, .store 8 (.tmp 3) (.tmp 17)⟩,
    ⟨(some 4), none, .act, .mv (.tmp 18)⟩,
    ⟨(some 5), none, .act, .mv (.tmp 19)⟩])
  (.seq (.seq (.region [
    ⟨(some 20), none, .act, .mv (.tmp 5)⟩,
    ⟨(some 21), none, .act, .eq true .int (.tmp 20) (.const (.int .i64 0))⟩])
  (.cond (.tmp 21)
   (.seq (.region [
     ⟨(some 2), none, .act, .mv (.const (.bool true))⟩])
   .ret)
   .skip))
  (.seq (.region [
    ⟨(some 23), none, .act, .load true 8 (.tmp 3)⟩,
    ⟨(some 24), none, .act, .call 7 [(.tmp 23)]⟩,
    ⟨(some 25), none, .act, .call 6 [(.tmp 24)]⟩,
    ⟨(some 22), none, .act, .mv (.tmp 25)⟩,
    ⟨(some 26), none, .act, .extract (.tmp 22) 0⟩,
    ⟨(some 27), none, .act, .extract (.tmp 22) 1⟩,
    ⟨(some 28), none, .act, .extract (.tmp 22) 2⟩,
    ⟨(some 6), none, .act, .alloc [(.int .i64 0), (.string ⟨#[]⟩), (.string ⟨#[]⟩), (.int .i64 0), (.int .i64 0), (.int .i64 0), (.string ⟨#[]⟩), (.slice none 0 0)]⟩,
    ⟨none, none, .act, .store 8 (.tmp 6) (.tmp 26)⟩,
    ⟨(some 7), none, .act, .mv (.tmp 27)⟩,
    ⟨(some 8), none, .act, .mv (.tmp 28)⟩])
  (.seq (.region [
    ⟨(some 29), none, .act, .mv (.tmp 8)⟩,
    ⟨(some 30), none, .act, .eq false .int (.tmp 29) (.const (.int .i64 201))⟩,
    ⟨(some 31), none, .act, .mv (.tmp 30)⟩,
    ⟨(some 32), (some (31, false)), .act, .mv (.tmp 8)⟩,
    ⟨(some 33), (some (31, false)), .act, .eq false .int (.tmp 32) (.const (.int .i64 2))⟩,
    ⟨(some 34), none, .act, .pick (.tmp 31) (.const (.bool true)) (.tmp 33)⟩,
    ⟨(some 35), none, .act, .mv (.tmp 34)⟩,
    ⟨(some 36), (some (35, false)), .act, .mv (.tmp 8)⟩,
    ⟨(some 37), (some (35, false)), .act, .eq false .int (.tmp 36) (.const (.int .i64 0))⟩,
    ⟨(some 38), (some (35, false)), .act, .mv (.tmp 37)⟩,
    ⟨(some 39), (some (38, true)), .act, .load true 8 (.tmp 3)⟩,
    ⟨(some 40), (some (38, true)), .act, .load true 8 (.tmp 6)⟩,
    ⟨(some 41), (some (38, true)), .act, .call 8 [(.tmp 39), (.tmp 40)]⟩,
    ⟨(some 42), (some (35, false)), .act, .pick (.tmp 38) (.tmp 41) (.const (.bool false))⟩,
    ⟨(some 43), none, .act, .pick (.tmp 35) (.const (.bool true)) (.tmp 42)⟩,
    ⟨(some 2), none, .act, .mv (.tmp 43)⟩])
  .ret)))))))
end Go.Proofs.Ytdinnoejipmiiaa

namespace Go.Proofs.Ytdinnoejipmiiaa
open Go.Av
theorem parseCases_spec (s : List UInt8) (h : AHeap) (hg : Glob h) : ACalls Try.prog 4 [str s] h (fun x h' => x = bl true ∧ h' = h) := by
  obtain ⟨c', hc1, hc2⟩ := res4
  refine ACalls.weak (ACalls.enter Try.func4 hc1 Try.ntmps4 hc2 (Nat.le_of_ble_eq_true rfl) rfl ?_)
  have ca := awake_spec
  by_cases hs : s.length ≤ 2000
  · repeat' (first | refine S.nilK ?_ | (refine S.op rfl ?_; first | (show ROpS _ _ (.call 5 _) _ _ _; refine callG rfl rfl ca (by repeat' (first | assumption)) ?_) | refine S.lenS rfl ?_ | refine R.mv rfl ?_ | refine R.not rfl ?_ | ((first | refine S.gtr rfl rfl ?_ ?_) <;> intro hlt <;> try (exfalso; omega))) | refine S.seq ?_ | refine S.region ?_ | refine S.condF rfl ?_ | refine RRun.skip ?_)
    refine S.op rfl (R.toBytesO (l := s) rfl rfl (fun r1 q1 hr1 hq1 => ?_))
    repeat' (first | (refine S.op rfl ?_; first | refine R.mv rfl ?_))
    refine S.op rfl (R.toBytesO (l := s) rfl rfl (fun r2 q2 hr2 hq2 => ?_))
    have hne : r1 ≠ r2 := AHeap.n2 hr2
    have hr2' : h r2 = none := AHeap.z1 hr2
    have hgH := fun A B => (hg.setF (o := A) hr1).setF (b := r2) (o := B)
    repeat' (first | refine S.nilK ?_ | (refine S.op rfl ?_; first | refine R.mv rfl ?_ | refine R.lenA rfl ?_) | refine S.seq ?_ | refine S.region ?_ | refine RRun.block ?_)
    refine RRun.loopIn (S.keep [3, 4, 23, 24] rfl ?_)
    rw [show s.map u8 ++ List.replicate (q1 - s.length) AV.any = rowJ small s 0 (List.replicate (q1 - s.length) AV.any) from rowJ_zero.symm, show s.map u8 ++ List.replicate (q2 - s.length) AV.any = rowJ big s 0 (List.replicate (q2 - s.length) AV.any) from rowJ_zero.symm]
    refine law_loop s (by omega) r1 r2 q1 q2 _ _ h hne _ _ ?_ ?_ s.length 0 (by omega) (by simp)
    · intro A B
      exact ⟨_, h, .refl _, ((AHeap.le.refl h).set _ hr1).set _ hr2', rfl, rfl⟩
    · intro hq
      obtain ⟨x, n, e, H1, H2⟩ := parse_two (s.map small) (s.map big) (by simp; omega) (lexed_big s hq) (by simp) (lexed_ok (by simp; omega))
      have c10 := same_stmt x
      have hle : h.le ((h.set r1 (.row (rowJ small s s.length (List.replicate (q1 - s.length) AV.any)))).set r2 (.row (rowJ big s s.length (List.replicate (q2 - s.length) AV.any)))) := ((AHeap.le.refl h).set _ hr1).set _ hr2'
      have hA : ((h.set r1 (.row (rowJ small s s.length (List.replicate (q1 - s.length) AV.any)))).set r2 (.row (rowJ big s s.length (List.replicate (q2 - s.length) AV.any)))) r1 = some (.row (rowJ small s s.length (List.replicate (q1 - s.length) AV.any))) := (AHeap.set_other _ _ hne).trans (AHeap.set_same _ _ _)
      have hB : ((h.set r1 (.row (rowJ small s s.length (List.replicate (q1 - s.length) AV.any)))).set r2 (.row (rowJ big s s.length (List.replicate (q2 - s.length) AV.any)))) r2 = some (.row (rowJ big s s.length (List.replicate (q2 - s.length) AV.any))) := AHeap.set_same _ _ _
      have hg2 := hgH (.row (rowJ small s s.length (List.replicate (q1 - s.length) AV.any))) (.row (rowJ big s s.length (List.replicate (q2 - s.length) AV.any))) ((AHeap.set_other _ _ (Ne.symm hne)).trans hr2')
      generalize ((h.set r1 (.row (rowJ small s s.length (List.replicate (q1 - s.length) AV.any)))).set r2 (.row (rowJ big s s.length (List.replicate (q2 - s.length) AV.any)))) = H at *
      have t1 : (rowJ small s s.length (List.replicate (q1 - s.length) AV.any)).take s.length = (s.map small).map u8 := by
        rw [rowJ_end, List.take_append_of_le_length (by simp), List.take_of_length_le (by simp), List.map_map]; rfl
      have t2 : (rowJ big s s.length (List.replicate (q2 - s.length) AV.any)).take s.length = (s.map big).map u8 := by
        rw [rowJ_end, List.take_append_of_le_length (by simp), List.take_of_length_le (by simp), List.map_map]; rfl
      generalize rowJ small s s.length (List.replicate (q1 - s.length) AV.any) = R1 at *
      generalize rowJ big s s.length (List.replicate (q2 - s.length) AV.any) = R2 at *
      have l1 : (s.map small).length = s.length := by simp
      have l2 : (s.map big).length = s.length := by simp
      generalize s.map small = w1 at *
      generalize s.map big = w2 at *
      clear hgH hr1 hr2 hr2' hg hq hq1 hq2
      unfold St.cells at H1 H2 c10
      repeat' (first | refine S.nilK ?_ | (refine S.op rfl ?_; first | (show ROpS _ _ (.toStr (.tmp 62)) _ _ _; refine R.toStrRow (l := w1) (by decide) rfl (by (repeat' (first | assumption)); first | done | fail) t1 l1 ?_) | (show ROpS _ _ (.toStr (.tmp 69)) _ _ _; refine R.toStrRow (l := w2) (by decide) rfl (by (repeat' (first | assumption | refine AHeap.get_fresh ‹_› ?_)); first | done | fail) t2 l2 ?_) | (show ROpS _ _ (.call 9 [.tmp 63]) _ _ _; refine callG rfl rfl H1 (by repeat' (first | assumption)) ?_) | (show ROpS _ _ (.call 9 [.tmp 70]) _ _ _; refine callG rfl rfl H2 (by repeat' (first | assumption | refine Glob.setF ?_ (by (repeat' (first | assumption)); first | done | fail))) ?_) | (show ROpS _ _ (.call 10 _) _ _ _; refine callN rfl rfl (c10 _) rfl ?_) | refine S.eqIntSame rfl rfl ?_ | refine R.mv rfl ?_ | refine R.load (by decide) rfl (by (repeat' (first | exact AHeap.set_same _ _ _ | refine AHeap.get_fresh ‹_› ?_)); first | done | fail) rfl ?_ | refine R.pickT rfl rfl ?_ | refine R.extract rfl rfl ?_ | refine R.alloc rfl (fun b hb => ?_)) | (refine S.op0 rfl ?_; first | refine S.storeS rfl rfl rfl (by rfl) rfl (by first | decide | exact Nat.le_refl _ | exact Nat.le_of_ble_eq_true rfl) ?_) | refine S.seq ?_ | refine S.region ?_)
      apply S.ret rr4
      case hx => repeat (first | exact ResAt.nil | apply ResAt.tmp rfl)
      exact ⟨_, h, .refl _, AHeap.le.trans hle (by repeat (first | exact AHeap.le.refl _ | refine AHeap.le.set ?_ _ (by (repeat' (first | assumption | exact AHeap.z1 ‹_›)); first | done | fail))), rfl, rfl⟩
  · repeat' (first | refine S.nilK ?_ | (refine S.op rfl ?_; first | (show ROpS _ _ (.call 5 _) _ _ _; refine callG rfl rfl ca (by repeat' (first | assumption)) ?_) | refine S.lenS rfl ?_ | refine R.mv rfl ?_ | refine R.not rfl ?_ | ((first | refine S.gtr rfl rfl ?_ ?_) <;> intro hlt <;> try (exfalso; omega))) | refine S.seq ?_ | refine S.region ?_ | refine S.condT rfl ?_ | refine S.condF rfl ?_ | refine RRun.skip ?_)
    apply S.ret rr4
    case hx => repeat (first | exact ResAt.nil | apply ResAt.tmp rfl)
    exact ⟨_, h, .refl _, (by repeat (first | exact AHeap.le.refl _)), rfl, rfl⟩
end Go.Proofs.Ytdinnoejipmiiaa
