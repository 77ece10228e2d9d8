import Derived.Test.YtcjcmegkfplnkaaL15
set_option linter.unusedVariables false
set_option linter.unusedSimpArgs false
namespace Go.Proofs.Ytcjcmegkfplnkaa
open Go.Av

def r3b0 : RCode :=
  (.block 1
   (.seq (.seq (.region [
     ⟨(some 66), none, .act, .load false 1 (.tmp 11)⟩,
     ⟨(some 67), none, .act, .load false 1 (.tmp 3)⟩,
     ⟨(some 68), none, .act, .eq false .int (.tmp 66) (.tmp 67)⟩])
   (.cond (.tmp 68)
    (.seq (.region [
      ⟨none, none, .act, .store 1 (.tmp 4) (.const (.bool true))⟩])
    .ret)
    .skip))
   (.seq (.seq (.region [
     ⟨(some 69), none, .act, .load false 1 (.tmp 11)⟩,
     ⟨(some 70), none, .act, .load false 1 (.tmp 5)⟩,
     ⟨(some 71), none, .act, .len (.tmp 70)⟩,
     ⟨(some 72), none, .act, .eq false .int (.tmp 69) (.tmp 71)⟩])
   (.cond (.tmp 72)
    (.seq (.region [
      ⟨(some 73), none, .act, .load false 1 (.tmp 11)⟩,
      ⟨(some 74), none, .act, .bin .add (.tmp 73) (.const (.int .i64 1))⟩,
      ⟨none, none, .act, .store 1 (.tmp 11) (.tmp 74)⟩])
    (.seq (.seq (.region [
      ⟨(some 75), none, .act, .mv (.tmp 13)⟩,
      ⟨(some 76), none, .act, .load false 1 (.tmp 7)⟩,
      ⟨(some 77), none, .act, .eq true .int (.tmp 75) (.tmp 76)⟩,
      ⟨(some 78), none, .act, .mv (.tmp 77)⟩,
      ⟨(some 79), (some (78, false)), .act, .load false 1 (.tmp 7)⟩,
      ⟨(some 80), (some (78, false)), .act, .eq false .int (.tmp 79) (.const (.int .i64 0))⟩,
      ⟨(some 81), none, .act, .pick (.tmp 78) (.const (.bool true)) (.tmp 80)⟩,
      ⟨(some 82), none, .act, .mv (.tmp 81)⟩,
      ⟨(some 83), (some (82, false)), .act, .load true 4 (.tmp 12)⟩,
      ⟨(some 84), (some (82, false)), .act, .load false 1 (.tmp 6)⟩,
      ⟨(some 85), (some (82, false)), .act, .build [(.int .i64 0), (.string ⟨#[]⟩), (.int .i64 0), (.int .i64 0)] [(3, 1, (.tmp 84))]⟩,
      ⟨(some 86), (some (82, false)), .act, .eq true (.agg [(0, .int), (1, .str), (2, .int), (3, .int)]) (.tmp 83) (.tmp 85)⟩,
      ⟨(some 87), none, .act, .pick (.tmp 82) (.const (.bool true)) (.tmp 86)⟩])
    (.cond (.tmp 87)
     (.seq (.region [
       ⟨none, none, .act, .store 1 (.tmp 4) (.const (.bool false))⟩])
     .ret)
     .skip))
    (.exit 1)))
    .skip))
   (.seq (.seq (.region [
     ⟨(some 88), none, .read, .load false 1 (.tmp 11)⟩,
     ⟨(some 89), none, .read, .load false 1 (.tmp 5)⟩,
     ⟨(some 90), none, .pure, .len (.tmp 89)⟩,
     ⟨(some 91), none, .pure, .bin .gtr (.tmp 88) (.tmp 90)⟩,
     ⟨(some 92), none, .pure, .mv (.tmp 91)⟩,
     ⟨(some 93), (some (92, false)), .pure, .mv (.tmp 13)⟩,
     ⟨(some 94), (some (92, false)), .pure, .eq true .int (.tmp 93) (.const (.int .i64 0))⟩,
     ⟨(some 95), none, .pure, .pick (.tmp 92) (.const (.bool true)) (.tmp 94)⟩,
     ⟨(some 96), none, .pure, .mv (.tmp 95)⟩,
     ⟨(some 97), (some (96, false)), .read, .load true 4 (.tmp 12)⟩,
     ⟨(some 98), (some (96, false)), .read, .load false 1 (.tmp 5)⟩,
     ⟨(some 99), (some (96, false)), .read, .load false 1 (.tmp 11)⟩,
     ⟨(some 100), (some (96, false)), .pure, .indexAddr 4 (.tmp 98) (.tmp 99)⟩,
     ⟨(some 101), (some (96, false)), .read, .load true 4 (.tmp 100)⟩,
     ⟨(some 102), (some (96, false)), .pure, .eq true (.agg [(0, .int), (1, .str), (2, .int), (3, .int)]) (.tmp 97) (.tmp 101)⟩,
     ⟨(some 103), none, .pure, .pick (.tmp 96) (.const (.bool true)) (.tmp 102)⟩])
   (.cond (.tmp 103)
    (.seq (.region [
      ⟨none, none, .act, .store 1 (.tmp 4) (.const (.bool false))⟩])
    .ret)
    .skip))
   (.region [
     ⟨(some 104), none, .act, .load false 1 (.tmp 11)⟩,
     ⟨(some 105), none, .act, .bin .add (.tmp 104) (.const (.int .i64 1))⟩,
     ⟨none, none, .act, .store 1 (.tmp 11) (.tmp 105)⟩])))))
/-- plenum/plenumlaw19.LexTokens -/
def r3 : RCode :=
  (.seq (.region [
    ⟨(some 3), none, .act, .box (.tmp 1)⟩,
    ⟨(some 4), none, .act, .alloc [(.bool false)]⟩])
  (.seq (.seq (.region [
    ⟨(some 14), none, .act, .call 6 []⟩,
    ⟨(some 15), none, .act, .un .not (.tmp 14)⟩])
  (.cond (.tmp 15)
   (.seq (.region [
     ⟨none, none, .act, .store 1 (.tmp 4) (.const (.bool false))⟩])
   .ret)
   .skip))
  (.seq (.seq (.region [
    ⟨(some 16), none, .act, .mv (.tmp 0)⟩,
    ⟨(some 17), none, .act, .lenStr (.tmp 16)⟩,
    ⟨(some 18), none, .act, .bin .gtr (.tmp 17) (.const (.int .i64 2000))⟩,
    ⟨(some 19), none, .act, .mv (.tmp 18)⟩,
    ⟨(some 20), (some (19, false)), .act, .load false 1 (.tmp 3)⟩,
    ⟨(some 21), (some (19, false)), .act, .bin .lss (.tmp 20) (.const (.int .i64 0))⟩,
    ⟨(some 22), none, .act, .pick (.tmp 19) (.const (.bool true)) (.tmp 21)⟩])
  (.cond (.tmp 22)
   (.seq (.region [
     ⟨none, none, .act, .store 1 (.tmp 4) (.const (.bool true))⟩])
   .ret)
   .skip))
  (.seq (.region [
    ⟨(some 24), none, .act, .mv (.tmp 0)⟩,
    ⟨(some 25), none, .act, .call 7 [(.tmp 24)]⟩,
    ⟨(some 23), none, .act, .mv (.tmp 25)⟩,
    ⟨(some 26), none, .act, .extract (.tmp 23) 0⟩,
    ⟨(some 27), none, .act, .extract (.tmp 23) 1⟩,
    ⟨(some 28), none, .act, .extract (.tmp 23) 2⟩,
    ⟨(some 5), none, .act, .alloc [(.slice none 0 0)]⟩,
    ⟨(some 6), none, .act, .alloc [(.int .i64 0)]⟩,
    ⟨(some 7), none, .act, .alloc [(.int .i64 0)]⟩,
    ⟨none, none, .act, .store 1 (.tmp 5) (.tmp 26)⟩,
    ⟨none, none, .act, .store 1 (.tmp 6) (.tmp 27)⟩,
    ⟨none, none, .act, .store 1 (.tmp 7) (.tmp 28)⟩])
  (.seq (.region [
    ⟨(some 30), none, .act, .mv (.tmp 0)⟩,
    ⟨(some 31), none, .act, .call 8 [(.tmp 30)]⟩,
    ⟨(some 29), none, .act, .mv (.tmp 31)⟩,
    ⟨(some 32), none, .act, .extract (.tmp 29) 0⟩,
    ⟨(some 33), none, .act, .extract (.tmp 29) 1⟩,
    ⟨(some 34), none, .act, .extract (.tmp 29) 2⟩,
    ⟨(some 8), none, .act, .mv (.tmp 32)⟩,
    ⟨(some 9), none, .act, .mv (.tmp 33)⟩,
    ⟨(some 10), none, .act, .mv (.tmp 34)⟩])
  (.seq (.seq (.region [
    ⟨(some 35), none, .act, .mv (.tmp 10)⟩,
    ⟨(some 36), none, .act, .load false 1 (.tmp 7)⟩,
    ⟨(some 37), none, .act, .eq true .int (.tmp 35) (.tmp 36)⟩,
    ⟨(some 38), none, .act, .mv (.tmp 37)⟩,
    ⟨(some 39), (some (38, false)), .act, .mv (.tmp 9)⟩,
    ⟨(some 40), (some (38, false)), .act, .load false 1 (.tmp 6)⟩,
    ⟨(some 41), (some (38, false)), .act, .eq true .int (.tmp 39) (.tmp 40)⟩,
    ⟨(some 42), none, .act, .pick (.tmp 38) (.const (.bool true)) (.tmp 41)⟩,
    ⟨(some 43), none, .act, .mv (.tmp 42)⟩,
    ⟨(some 44), (some (43, false)), .act, .load false 1 (.tmp 7)⟩,
    ⟨(some 45), (some (43, false)), .act, .eq false .int (.tmp 44) (.const (.int .i64 0))⟩,
    ⟨(some 46), (some (43, false)), .act, .mv (.tmp 45)⟩,
    ⟨(some 47), (some (46, true)), .act, .mv (.tmp 8)⟩,
    ⟨(some 48), (some (46, true)), .act, .load false 1 (.tmp 5)⟩,
    ⟨(some 49), (some (46, true)), .act, .call 9 [(.tmp 47), (.tmp 48)]⟩,
    ⟨(some 50), (some (46, true)), .act, .un .not (.tmp 49)⟩,
    ⟨(some 51), (some (43, false)), .act, .pick (.tmp 46) (.tmp 50) (.const (.bool false))⟩,
    ⟨(some 52), none, .act, .pick (.tmp 43) (.const (.bool true)) (.tmp 51)⟩,
    ⟨(some 53), none, .act, .mv (.tmp 52)⟩,
    ⟨(some 54), (some (53, false)), .act, .load false 1 (.tmp 7)⟩,
    ⟨(some 55), (some (53, false)), .act, .eq true .int (.tmp 54) (.const (.int .i64 0))⟩,
    ⟨(some 56), (some (53, false)), .act, .mv (.tmp 55)⟩,
    ⟨(some 57), (some (56, true)), .act, .mv (.tmp 8)⟩,
    ⟨(some 58), (some (56, true)), .act, .len (.tmp 57)⟩,
    ⟨(some 59), (some (56, true)), .act, .eq true .int (.tmp 58) (.const (.int .i64 0))⟩,
    ⟨(some 60), (some (53, false)), .act, .pick (.tmp 56) (.tmp 59) (.const (.bool false))⟩,
    ⟨(some 61), none, .act, .pick (.tmp 53) (.const (.bool true)) (.tmp 60)⟩])
  (.cond (.tmp 61)
   (.seq (.region [
     ⟨none, none, .act, .store 1 (.tmp 4) (.const (.bool false))⟩])
   .ret)
   .skip))
  (.seq (.region [
    ⟨(some 11), none, .act, .alloc [(.int .i64 0)]⟩,
    ⟨none, none, .act, .store 1 (.tmp 11) (.const (.int .i64 0))⟩])
  (.seq (.seq (.region [
    ⟨(some 62), none, .act, .mv (.tmp 0)⟩,
    ⟨(some 63), none, .act, .call 10 [(.tmp 62)]⟩])
  (.block 0
   (.rangeFunc (.tmp 63) #[64, 65] (.seq (.region [
    ⟨(some 12), none, .act, .alloc [(.int .i64 0), (.string ⟨#[]⟩), (.int .i64 0), (.int .i64 0)]⟩,
    ⟨none, none, .act, .store 4 (.tmp 12) (.tmp 64)⟩])
  (.region [
    ⟨(some 13), none, .act, .mv (.tmp 65)⟩])) r3b0)))
  (.seq (.region [
    ⟨(some 106), none, .act, .load false 1 (.tmp 7)⟩,
    ⟨(some 107), none, .act, .eq false .int (.tmp 106) (.const (.int .i64 0))⟩,
    ⟨(some 108), none, .act, .mv (.tmp 107)⟩,
    ⟨(some 109), (some (108, true)), .act, .load false 1 (.tmp 11)⟩,
    ⟨(some 110), (some (108, true)), .act, .load false 1 (.tmp 5)⟩,
    ⟨(some 111), (some (108, true)), .act, .len (.tmp 110)⟩,
    ⟨(some 112), (some (108, true)), .act, .eq false .int (.tmp 109) (.tmp 111)⟩,
    ⟨(some 113), none, .act, .pick (.tmp 108) (.tmp 112) (.const (.bool false))⟩,
    ⟨(some 114), none, .act, .mv (.tmp 113)⟩,
    ⟨(some 115), (some (114, false)), .act, .load false 1 (.tmp 7)⟩,
    ⟨(some 116), (some (114, false)), .act, .eq true .int (.tmp 115) (.const (.int .i64 0))⟩,
    ⟨(some 117), (some (114, false)), .act, .mv (.tmp 116)⟩,
    ⟨(some 118), (some (117, true)), .act, .load false 1 (.tmp 11)⟩,
    ⟨(some 119), (some (117, true)), .act, .load false 1 (.tmp 5)⟩,
    ⟨(some 120), (some (117, true)), .act, .len (.tmp 119)⟩,
    ⟨(some 121), (some (117, true)), .act, .bin .add (.tmp 120) (.const (.int .i64 1))⟩,
    ⟨(some 122), (some (117, true)), .act, .eq false .int (.tmp 118) (.tmp 121)⟩,
    ⟨(some 123), (some (114, false)), .act, .pick (.tmp 117) (.tmp 122) (.const (.bool false))⟩,
    ⟨(some 124), none, .act, .pick (.tmp 114) (.const (.bool true)) (.tmp 123)⟩,
    ⟨none, none, .act, .store 1 (.tmp 4) (.tmp 124)⟩])
  .ret)))))))))
theorem res3 : ∃ c, Try.f3.body = some c ∧ resCode Try.prog 125 c = some r3 := ⟨_, rfl, by kernel_rfl⟩
theorem rr3 : resRes Try.prog Try.f3.results.toList = some [.cell 4 false 1] := by kernel_rfl

def tokV (t : Tok) : List Value := [.int .i64 t.kind, .string ⟨t.s.toArray⟩, .int .i64 t.n, .int .i64 t.pos]
theorem aggEq_self (t : Tok) : aggEq [(0, .int), (1, .str), (2, .int), (3, .int)] (tokV t) (tokV t) = some true := by
  simp [aggEq, tokV, atomEq]

def ltL (clo : AV) (b3 b4 b5 b6 b7 b11 : Nat) : List (Nat × AV) := [(63, clo), (3, ptr b3), (4, ptr b4), (5, ptr b5), (6, ptr b6), (7, ptr b7), (11, ptr b11)]

structure LtHeap (ts : List Tok) (most : Int) (e : Int) (pos : Nat) (b3 b4 b5 b6 b7 b11 : Nat) (k : Nat) (h : AHeap) : Prop where
  h3 : h b3 = some (.box [i64 most])
  h4 : h b4 = some (.box [bl false])
  h5 : h b5 = some (.box [toksA ts .ro])
  h6 : h b6 = some (.box [i64 pos])
  h7 : h b7 = some (.box [i64 e])
  h11 : h b11 = some (.box [i64 k])

def LtI (L : List (Nat × AV)) (cx cy : Code) (ts : List Tok) (most e : Int) (pos : Nat) (l b3 b4 b5 b6 b7 b11 : Nat) (k : Nat) (C : Nat → Prop) (h : AHeap) : Prop :=
  h l = some (.loop (loop0 L 125 #[64, 65] cx cy)) ∧ LtHeap ts most e pos b3 b4 b5 b6 b7 b11 k h ∧ ∀ x, C x ↔ (x = l ∨ x = b3 ∨ x = b4 ∨ x = b5 ∨ x = b6 ∨ x = b7 ∨ x = b11)
/-- Left early. -/
def LtZ (L : List (Nat × AV)) (cx cy : Code) (l b4 : Nat) (C : Nat → Prop) (h : AHeap) : Prop :=
  h l = some (.loop { loop0 L 125 #[64, 65] cx cy with state := .done, pending := some .ret }) ∧ h b4 = some (.box [bl true])

theorem ltI_client (L : List (Nat × AV)) (cx cy : Code) (ts : List Tok) (most e : Int) (pos : Nat) (l b3 b4 b5 b6 b7 b11 : Nat) (k : Nat) : Client (LtI L cx cy ts most e pos l b3 b4 b5 b6 b7 b11 k) where
  own := by
    rintro C h ⟨h1, h2, h7⟩ x hx
    rcases (h7 x).1 hx with rfl | rfl | rfl | rfl | rfl | rfl | rfl
    · rw [h1]; simp
    · rw [h2.h3]; simp
    · rw [h2.h4]; simp
    · rw [h2.h5]; simp
    · rw [h2.h6]; simp
    · rw [h2.h7]; simp
    · rw [h2.h11]; simp
  loc := by
    rintro C h h' ⟨h1, h2, h7⟩ hl
    refine ⟨(hl l ((h7 l).2 (.inl rfl))).trans h1, ⟨?_, ?_, ?_, ?_, ?_, ?_⟩, h7⟩
    · exact (hl b3 ((h7 b3).2 (by simp))).trans h2.h3
    · exact (hl b4 ((h7 b4).2 (by simp))).trans h2.h4
    · exact (hl b5 ((h7 b5).2 (by simp))).trans h2.h5
    · exact (hl b6 ((h7 b6).2 (by simp))).trans h2.h6
    · exact (hl b7 ((h7 b7).2 (by simp))).trans h2.h7
    · exact (hl b11 ((h7 b11).2 (by simp))).trans h2.h11

/-- A difference that omega does not look at. -/
def NeN (a b : Nat) : Prop := a ≠ b

def asgLt : RCode := .seq (.region [⟨(some 12), none, .act, .alloc [(.int .i64 0), (.string ⟨#[]⟩), (.int .i64 0), (.int .i64 0)]⟩, ⟨none, none, .act, .store 4 (.tmp 12) (.tmp 64)⟩]) (.region [⟨(some 13), none, .act, .mv (.tmp 65)⟩])

section
variable (clo : AV) (cx cy : Code) (ts : List Tok) (hts : ts.length ≤ 400) (most e : Int) (pos : Nat) (l b3 b4 b5 b6 b7 b11 : Nat) (hd : [b11, b7, b6, b5, b4, b3, l].Nodup)
    (hx : Resd Try.prog 125 cx asgLt) (hy : Resd Try.prog 125 cy r3b0) (k : Nat) (C : Nat → Prop) (h : AHeap) (hI : LtI (ltL clo b3 b4 b5 b6 b7 b11) cx cy ts most e pos l b3 b4 b5 b6 b7 b11 k C h)

/-- What a round must come to. -/
def LtEnd (j : Option Code) (h' : AHeap) : Prop := ∃ r', h' l = some (.loop r') ∧ (fun bb h' => ∃ C', (∀ x, C' x → C x ∨ h x = none) ∧ Foot C h h' ∧ (if bb then LtI (ltL clo b3 b4 b5 b6 b7 b11) cx cy ts most e pos l b3 b4 b5 b6 b7 b11 (k + 1) C' h' else LtZ (ltL clo b3 b4 b5 b6 b7 b11) cx cy l b4 C' h')) j.isNone (h'.set l (.loop { r' with state := if j.isNone then .ready else .done, pending := j }))

include hd hI in
theorem lt_ret (b : Nat) (hb : h b = none) (X : ABlk) : LtEnd clo cx cy ts most e pos l b3 b4 b5 b6 b7 b11 k C h (some .ret) (((h.set b X).set l (.loop { loop0 (ltL clo b3 b4 b5 b6 b7 b11) 125 #[64, 65] cx cy with state := .busy })).set b4 (.box [bl true])) := by
  obtain ⟨h1, ⟨h3, h4, h5, h6, h7, h11⟩, hC⟩ := hI
  simp only [List.nodup_cons, List.mem_cons, List.not_mem_nil, or_false, not_or, List.nodup_nil, not_false_eq_true, and_true] at hd
  obtain ⟨⟨d1, d2, d3, d4, d5, d6⟩, ⟨d7, d8, d9, d10, d11⟩, ⟨d12, d13, d14, d15⟩, ⟨d16, d17, d18⟩, ⟨d19, d20⟩, d21⟩ := hd
  have q4 : b4 ≠ b := AHeap.ne_of hb h4
  have ql : l ≠ b := AHeap.ne_of hb h1
  have d20' : l ≠ b4 := fun e => d20 e.symm
  refine ⟨_, (AHeap.set_other _ _ d20').trans (AHeap.set_same _ _ _), C, fun x hx => .inl hx, ?_, ?_⟩
  · intro x o ex hn
    have hn' := fun q => hn ((hC x).2 q)
    have x1 : x ≠ l := fun e => hn' (.inl e)
    have x2 : x ≠ b4 := fun e => hn' (by simp [e])
    have xb : x ≠ b := AHeap.ne_of hb ex
    simp only [AHeap.set, x1, x2, xb, if_false]
    exact ex
  · show LtZ _ _ _ _ _ C _
    exact ⟨AHeap.set_same _ _ _, (AHeap.set_other _ _ d20).trans (AHeap.set_same _ _ _)⟩

include hd hI in
theorem lt_done (b : Nat) (hb : h b = none) (X : ABlk) : LtEnd clo cx cy ts most e pos l b3 b4 b5 b6 b7 b11 k C h none (((h.set b X).set l (.loop { loop0 (ltL clo b3 b4 b5 b6 b7 b11) 125 #[64, 65] cx cy with state := .busy })).set b11 (.box [i64 ((k : Int) + 1)])) := by
  obtain ⟨h1, ⟨h3, h4, h5, h6, h7, h11⟩, hC⟩ := hI
  simp only [List.nodup_cons, List.mem_cons, List.not_mem_nil, or_false, not_or, List.nodup_nil, not_false_eq_true, and_true] at hd
  obtain ⟨⟨d1, d2, d3, d4, d5, d6⟩, ⟨d7, d8, d9, d10, d11⟩, ⟨d12, d13, d14, d15⟩, ⟨d16, d17, d18⟩, ⟨d19, d20⟩, d21⟩ := hd
  have q3 : b3 ≠ b := AHeap.ne_of hb h3
  have q4 : b4 ≠ b := AHeap.ne_of hb h4
  have q5 : b5 ≠ b := AHeap.ne_of hb h5
  have q6 : b6 ≠ b := AHeap.ne_of hb h6
  have q7 : b7 ≠ b := AHeap.ne_of hb h7
  have q11 : b11 ≠ b := AHeap.ne_of hb h11
  have ql : l ≠ b := AHeap.ne_of hb h1
  have d6' : l ≠ b11 := fun e => d6 e.symm
  refine ⟨_, (AHeap.set_other _ _ d6').trans (AHeap.set_same _ _ _), C, fun x hx => .inl hx, ?_, ?_⟩
  · intro x o ex hn
    have hn' := fun q => hn ((hC x).2 q)
    have x1 : x ≠ l := fun e => hn' (.inl e)
    have x2 : x ≠ b11 := fun e => hn' (by simp [e])
    have xb : x ≠ b := AHeap.ne_of hb ex
    simp only [AHeap.set, x1, x2, xb, if_false]
    exact ex
  · show LtI _ _ _ _ _ _ _ _ _ _ _ _ _ _ _ C _
    refine ⟨AHeap.set_same _ _ _, ⟨?_, ?_, ?_, ?_, ?_, ?_⟩, hC⟩
    · simp only [AHeap.set, d21, q3, Ne.symm d5, if_false]; exact h3
    · simp only [AHeap.set, d20, q4, Ne.symm d4, if_false]; exact h4
    · simp only [AHeap.set, d18, q5, Ne.symm d3, if_false]; exact h5
    · simp only [AHeap.set, d15, q6, Ne.symm d2, if_false]; exact h6
    · simp only [AHeap.set, d11, q7, Ne.symm d1, if_false]; exact h7
    · refine (AHeap.set_other _ _ d6).trans ((AHeap.set_same _ _ _).trans ?_)
      rw [show ((k + 1 : Nat) : Int) = (k : Int) + 1 by omega]

include hts hd hx hy hI
theorem lt_round (t : Tok) (ht : ts[k]? = some t) : YStep Try.prog l [.ag t.cells, i64 0] C h (LtI (ltL clo b3 b4 b5 b6 b7 b11) cx cy ts most e pos l b3 b4 b5 b6 b7 b11 (k + 1)) (LtZ (ltL clo b3 b4 b5 b6 b7 b11) cx cy l b4) := by
  have f1 := fun b hb X => lt_ret clo cx cy ts most e pos l b3 b4 b5 b6 b7 b11 hd k C h hI b hb X
  have f2 := fun b hb X => lt_done clo cx cy ts most e pos l b3 b4 b5 b6 b7 b11 hd k C h hI b hb X
  obtain ⟨h1, ⟨h3, h4, h5, h6, h7, h11⟩, hC⟩ := hI
  simp only [List.nodup_cons, List.mem_cons, List.not_mem_nil, or_false, not_or, List.nodup_nil, not_false_eq_true, and_true] at hd
  obtain ⟨⟨d1, d2, d3, d4, d5, d6⟩, ⟨d7, d8, d9, d10, d11⟩, ⟨d12, d13, d14, d15⟩, ⟨d16, d17, d18⟩, ⟨d19, d20⟩, d21⟩ := hd
  have n3 : NeN b3 l := d21
  have n4 : NeN b4 l := d20
  have n5 : NeN b5 l := d18
  have n6 : NeN b6 l := d15
  have n7 : NeN b7 l := d11
  have n11 : NeN b11 l := d6
  have c7 : NeN b7 b11 := fun e => d1 e.symm
  have c6 : NeN b6 b11 := fun e => d2 e.symm
  have c5 : NeN b5 b11 := fun e => d3 e.symm
  clear d1 d2 d3 d4 d5 d6 d7 d8 d9 d10 d11 d12 d13 d14 d15 d16 d17 d18 d19 d20 d21
  have hkl : k < ts.length := (List.getElem?_eq_some_iff.1 ht).1
  have hlt : (ts.map Tok.cells).length = ts.length := by simp
  have hg : (ts.map Tok.cells)[((k : Nat) : Int).toNat]? = some t.cells := by rw [show ((k : Nat) : Int).toNat = k by omega, List.getElem?_map, ht]; rfl
  have hagg := aggEq_self t
  refine AYield.mk h1 hx hy rfl rfl rfl ?_
  unfold asgLt
  unfold toksA at h5
  repeat' (first
    | (refine S.begin (by (repeat' (first | assumption | exact AHeap.set_same _ _ _ | refine AHeap.get_fresh (by assumption) ?_ | refine AHeap.so ?_ ?_ | exact AHeap.n1 (by assumption) | exact AHeap.n2 (by assumption) | exact AHeap.ne_of (by assumption) (by assumption) | exact AHeap.n4 (by assumption) (by assumption) | exact AHeap.n5 (by assumption) | exact AHeap.n6 (by assumption) | exact AHeap.n7 (by assumption) (by assumption) | exact AHeap.n8 (by assumption) (by assumption))); first | done | fail) rfl ?_)
    | refine S.nilK ?_
    | (refine S.op rfl ?_; first
      | refine S.eqIntSame rfl rfl ?_
      | refine R.indexAddr (cc := .ro) (es := ts.map Tok.cells) rfl rfl (by omega) hg ?_
      | refine R.eqAgg (xs := tokV t) (ys := tokV t) rfl rfl hagg ?_
      | refine R.mv rfl ?_
      | refine R.fieldAddr rfl ?_
      | refine R.fieldAddrR rfl ?_
      | refine R.nilCheck rfl ?_
      | refine R.nilCheckR rfl ?_
      | refine R.loadR rfl rfl ?_
      | refine R.load (by decide) rfl (by (repeat' (first | assumption | exact AHeap.set_same _ _ _ | refine AHeap.get_fresh (by assumption) ?_ | refine AHeap.so ?_ ?_ | exact AHeap.n1 (by assumption) | exact AHeap.n2 (by assumption) | exact AHeap.ne_of (by assumption) (by assumption) | exact AHeap.n4 (by assumption) (by assumption) | exact AHeap.n5 (by assumption) | exact AHeap.n6 (by assumption) | exact AHeap.n7 (by assumption) (by assumption) | exact AHeap.n8 (by assumption) (by assumption))); first | done | fail) rfl ?_
      | refine S.addI rfl rfl (by omega) ?_
      | refine S.subI rfl rfl (by omega) ?_
      | refine S.addU rfl rfl ?_
      | refine S.subU rfl rfl ?_
      | refine S.addUc rfl (by decide) ?_
      | refine S.subUc rfl (by decide) ?_
      | refine S.arith rfl rfl rfl ?_
      | refine R.pickT rfl rfl ?_
      | refine R.pickF rfl rfl ?_
      | refine R.len rfl ?_
      | refine R.lenA rfl ?_
      | refine R.lenStr rfl ?_
      | refine S.convIU rfl (by omega) ?_
      | refine S.convUI rfl (by omega) ?_
      | refine R.convInt rfl ?_
      | refine R.not rfl ?_
      | refine R.eqPtrNil rfl rfl ?_
      | refine R.extract rfl rfl ?_
      | refine R.field rfl rfl ?_
      | refine R.alloc rfl (fun b hb => ?_)
      | refine R.box rfl rfl rfl (fun b hb => ?_)
      | refine R.build rfl rfl ?_
      | refine R.buildSl rfl rfl rfl (by decide) ?_
      | refine R.toStr rfl ?_
      | refine R.convStr rfl ?_
      | refine R.minmax rfl ?_
      | refine R.makeFunc rfl rfl ?_
      | (first | refine S.lss rfl rfl (fun hlt => ?_) (fun hlt => by exfalso; omega) | refine S.lss rfl rfl (fun hlt => by exfalso; omega) (fun hlt => ?_) | refine S.lss rfl rfl (fun hlt => ?_) (fun hlt => ?_))
      | (first | refine S.gtr rfl rfl (fun hlt => ?_) (fun hlt => by exfalso; omega) | refine S.gtr rfl rfl (fun hlt => by exfalso; omega) (fun hlt => ?_) | refine S.gtr rfl rfl (fun hlt => ?_) (fun hlt => ?_))
      | (first | refine S.leq rfl rfl (fun hlt => ?_) (fun hlt => by exfalso; omega) | refine S.leq rfl rfl (fun hlt => by exfalso; omega) (fun hlt => ?_) | refine S.leq rfl rfl (fun hlt => ?_) (fun hlt => ?_))
      | (first | refine S.geq rfl rfl (fun hlt => ?_) (fun hlt => by exfalso; omega) | refine S.geq rfl rfl (fun hlt => by exfalso; omega) (fun hlt => ?_) | refine S.geq rfl rfl (fun hlt => ?_) (fun hlt => ?_))
      | (first | refine S.eqInt rfl rfl (fun hlt => ?_) (fun hlt => by exfalso; omega) | refine S.eqInt rfl rfl (fun hlt => by exfalso; omega) (fun hlt => ?_) | refine S.eqInt rfl rfl (fun hlt => ?_) (fun hlt => ?_)))
    | (refine S.op0 rfl ?_; first | refine S.storeS rfl rfl rfl (by rfl) rfl (by first | decide | exact Nat.le_refl _ | exact Nat.le_of_ble_eq_true rfl) ?_ | refine S.store rfl rfl (by (repeat' (first | assumption | exact AHeap.set_same _ _ _ | refine AHeap.get_fresh (by assumption) ?_ | refine AHeap.so ?_ ?_ | exact AHeap.n1 (by assumption) | exact AHeap.n2 (by assumption) | exact AHeap.ne_of (by assumption) (by assumption) | exact AHeap.n4 (by assumption) (by assumption) | exact AHeap.n5 (by assumption) | exact AHeap.n6 (by assumption) | exact AHeap.n7 (by assumption) (by assumption) | exact AHeap.n8 (by assumption) (by assumption))); first | done | fail) rfl rfl rfl (by rfl) rfl ?_)
    | refine S.skip rfl ?_
    | refine S.skip0 rfl ?_
    | refine S.seq ?_
    | refine S.region ?_
    | refine S.regionT ?_
    | refine S.tstep ?_
    | refine S.talt ?_ ?_
    | exact S.tstop
    | refine S.tdone ?_
    | refine S.condT rfl ?_
    | refine S.condF rfl ?_
    | refine RRun.skip ?_
    | refine RRun.block ?_
    | refine RRun.inBlock ?_
    | refine RRun.exit rfl ?_)
  · exact RRunG.ret (f1 b hb _)
  · exact RRunG.done (f2 b hb _)

theorem lt_round_err (he : ¬ e = 0) (hk : k = ts.length) : YStep Try.prog l [.ag (errTok pos).cells, i64 e] C h (LtI (ltL clo b3 b4 b5 b6 b7 b11) cx cy ts most e pos l b3 b4 b5 b6 b7 b11 (k + 1)) (LtZ (ltL clo b3 b4 b5 b6 b7 b11) cx cy l b4) := by
  have f1 := fun b hb X => lt_ret clo cx cy ts most e pos l b3 b4 b5 b6 b7 b11 hd k C h hI b hb X
  have f2 := fun b hb X => lt_done clo cx cy ts most e pos l b3 b4 b5 b6 b7 b11 hd k C h hI b hb X
  obtain ⟨h1, ⟨h3, h4, h5, h6, h7, h11⟩, hC⟩ := hI
  simp only [List.nodup_cons, List.mem_cons, List.not_mem_nil, or_false, not_or, List.nodup_nil, not_false_eq_true, and_true] at hd
  obtain ⟨⟨d1, d2, d3, d4, d5, d6⟩, ⟨d7, d8, d9, d10, d11⟩, ⟨d12, d13, d14, d15⟩, ⟨d16, d17, d18⟩, ⟨d19, d20⟩, d21⟩ := hd
  have n3 : NeN b3 l := d21
  have n4 : NeN b4 l := d20
  have n5 : NeN b5 l := d18
  have n6 : NeN b6 l := d15
  have n7 : NeN b7 l := d11
  have n11 : NeN b11 l := d6
  have c7 : NeN b7 b11 := fun e => d1 e.symm
  have c6 : NeN b6 b11 := fun e => d2 e.symm
  have c5 : NeN b5 b11 := fun e => d3 e.symm
  clear d1 d2 d3 d4 d5 d6 d7 d8 d9 d10 d11 d12 d13 d14 d15 d16 d17 d18 d19 d20 d21
  have hlt : (ts.map Tok.cells).length = ts.length := by simp
  have hagg := aggEq_self (errTok pos)
  refine AYield.mk h1 hx hy rfl rfl rfl ?_
  unfold asgLt
  unfold toksA at h5
  repeat' (first
    | (refine S.begin (by (repeat' (first | assumption | exact AHeap.set_same _ _ _ | refine AHeap.get_fresh (by assumption) ?_ | refine AHeap.so ?_ ?_ | exact AHeap.n1 (by assumption) | exact AHeap.n2 (by assumption) | exact AHeap.ne_of (by assumption) (by assumption) | exact AHeap.n4 (by assumption) (by assumption) | exact AHeap.n5 (by assumption) | exact AHeap.n6 (by assumption) | exact AHeap.n7 (by assumption) (by assumption) | exact AHeap.n8 (by assumption) (by assumption))); first | done | fail) rfl ?_)
    | refine S.nilK ?_
    | (refine S.op rfl ?_; first
      | refine S.eqIntSame rfl rfl ?_
      | refine R.eqAgg (xs := tokV (errTok pos)) (ys := tokV (errTok pos)) rfl rfl hagg ?_
      | refine R.mv rfl ?_
      | refine R.fieldAddr rfl ?_
      | refine R.fieldAddrR rfl ?_
      | refine R.nilCheck rfl ?_
      | refine R.nilCheckR rfl ?_
      | refine R.loadR rfl rfl ?_
      | refine R.load (by decide) rfl (by (repeat' (first | assumption | exact AHeap.set_same _ _ _ | refine AHeap.get_fresh (by assumption) ?_ | refine AHeap.so ?_ ?_ | exact AHeap.n1 (by assumption) | exact AHeap.n2 (by assumption) | exact AHeap.ne_of (by assumption) (by assumption) | exact AHeap.n4 (by assumption) (by assumption) | exact AHeap.n5 (by assumption) | exact AHeap.n6 (by assumption) | exact AHeap.n7 (by assumption) (by assumption) | exact AHeap.n8 (by assumption) (by assumption))); first | done | fail) rfl ?_
      | refine S.addI rfl rfl (by omega) ?_
      | refine S.subI rfl rfl (by omega) ?_
      | refine S.addU rfl rfl ?_
      | refine S.subU rfl rfl ?_
      | refine S.addUc rfl (by decide) ?_
      | refine S.subUc rfl (by decide) ?_
      | refine S.arith rfl rfl rfl ?_
      | refine R.pickT rfl rfl ?_
      | refine R.pickF rfl rfl ?_
      | refine R.len rfl ?_
      | refine R.lenA rfl ?_
      | refine R.lenStr rfl ?_
      | refine S.convIU rfl (by omega) ?_
      | refine S.convUI rfl (by omega) ?_
      | refine R.convInt rfl ?_
      | refine R.not rfl ?_
      | refine R.eqPtrNil rfl rfl ?_
      | refine R.extract rfl rfl ?_
      | refine R.field rfl rfl ?_
      | refine R.alloc rfl (fun b hb => ?_)
      | refine R.box rfl rfl rfl (fun b hb => ?_)
      | refine R.build rfl rfl ?_
      | refine R.buildSl rfl rfl rfl (by decide) ?_
      | refine R.toStr rfl ?_
      | refine R.convStr rfl ?_
      | refine R.minmax rfl ?_
      | refine R.makeFunc rfl rfl ?_
      | (first | refine S.lss rfl rfl (fun hlt => ?_) (fun hlt => by exfalso; omega) | refine S.lss rfl rfl (fun hlt => by exfalso; omega) (fun hlt => ?_) | refine S.lss rfl rfl (fun hlt => ?_) (fun hlt => ?_))
      | (first | refine S.gtr rfl rfl (fun hlt => ?_) (fun hlt => by exfalso; omega) | refine S.gtr rfl rfl (fun hlt => by exfalso; omega) (fun hlt => ?_) | refine S.gtr rfl rfl (fun hlt => ?_) (fun hlt => ?_))
      | (first | refine S.leq rfl rfl (fun hlt => ?_) (fun hlt => by exfalso; omega) | refine S.leq rfl rfl (fun hlt => by exfalso; omega) (fun hlt => ?_) | refine S.leq rfl rfl (fun hlt => ?_) (fun hlt => ?_))
      | (first | refine S.geq rfl rfl (fun hlt => ?_) (fun hlt => by exfalso; omega) | refine S.geq rfl rfl (fun hlt => by exfalso; omega) (fun hlt => ?_) | refine S.geq rfl rfl (fun hlt => ?_) (fun hlt => ?_))
      | (first | refine S.eqInt rfl rfl (fun hlt => ?_) (fun hlt => by exfalso; omega) | refine S.eqInt rfl rfl (fun hlt => by exfalso; omega) (fun hlt => ?_) | refine S.eqInt rfl rfl (fun hlt => ?_) (fun hlt => ?_)))
    | (refine S.op0 rfl ?_; first | refine S.storeS rfl rfl rfl (by rfl) rfl (by first | decide | exact Nat.le_refl _ | exact Nat.le_of_ble_eq_true rfl) ?_ | refine S.store rfl rfl (by (repeat' (first | assumption | exact AHeap.set_same _ _ _ | refine AHeap.get_fresh (by assumption) ?_ | refine AHeap.so ?_ ?_ | exact AHeap.n1 (by assumption) | exact AHeap.n2 (by assumption) | exact AHeap.ne_of (by assumption) (by assumption) | exact AHeap.n4 (by assumption) (by assumption) | exact AHeap.n5 (by assumption) | exact AHeap.n6 (by assumption) | exact AHeap.n7 (by assumption) (by assumption) | exact AHeap.n8 (by assumption) (by assumption))); first | done | fail) rfl rfl rfl (by rfl) rfl ?_)
    | refine S.skip rfl ?_
    | refine S.skip0 rfl ?_
    | refine S.seq ?_
    | refine S.region ?_
    | refine S.regionT ?_
    | refine S.tstep ?_
    | refine S.talt ?_ ?_
    | exact S.tstop
    | refine S.tdone ?_
    | refine S.condT rfl ?_
    | refine S.condF rfl ?_
    | refine RRun.skip ?_
    | refine RRun.block ?_
    | refine RRun.inBlock ?_
    | refine RRun.exit rfl ?_)
  · exact RRunG.ret (f1 b hb _)
  · exact RRunG.done (f2 b hb _)

end
end Go.Proofs.Ytcjcmegkfplnkaa
