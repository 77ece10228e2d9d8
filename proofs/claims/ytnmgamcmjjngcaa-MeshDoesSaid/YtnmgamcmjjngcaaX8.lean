import Derived.Test.YtnmgamcmjjngcaaX7
set_option linter.unusedVariables false
set_option linter.unusedSimpArgs false
namespace Go.Proofs.Ytnmgamcmjjngcaa
open Go.Av

structure Deed where
  kind : Int
  m : Msg
def Deed.cells (d : Deed) : List AV := [i64 d.kind] ++ d.m.cells
def deeds (l : List Deed) : AV := .sl 15 (l.map Deed.cells) .ro

structure Inv (n : Nat) (M : Mesh) (Z : RMesh) : Prop where
  alike : Alike M Z
  fates : Z.fates.length ≤ 30
  sent : Z.sent ≤ n
  now : Z.now ≤ n
  wait : Z.wait.length ≤ 3 * n
  cut : Z.cut.length ≤ n
  fits : ∀ f ∈ Z.wait, f.m.fits2

theorem Inv.up {n : Nat} {M : Mesh} {Z : RMesh} (I : Inv n M Z) : Inv (n + 1) M Z := ⟨I.alike, I.fates, by have := I.sent; omega, by have := I.now; omega, by have := I.wait; omega, by have := I.cut; omega, I.fits⟩
theorem Inv.send {n : Nat} {M : Mesh} {Z : RMesh} (I : Inv n M Z) (x : Msg) (hx : x.fits) : Inv (n + 1) (M.send [x]) (Z.send1 x) := by
  have hk : Z.kk x ≤ 3 := by unfold RMesh.kk; split; exact Nat.zero_le _; exact clampT_le _
  refine ⟨I.alike.send x, I.fates, Nat.succ_le_succ I.sent, by have := I.now; show Z.now ≤ _; omega, ?_, by have := I.cut; show Z.cut.length ≤ _; omega, fun f hf => ?_⟩
  · show (Z.wait ++ List.replicate _ _).length ≤ _
    rw [List.length_append, List.length_replicate]
    have := I.wait; omega
  · have hf' : f ∈ Z.wait ++ List.replicate (Z.kk x) (⟨x, (Z.now : Int) + clampD (fateAt Z.fates Z.sent).delay⟩ : Fly) := hf
    rcases List.mem_append.1 hf' with h | h
    · exact I.fits f h
    · rw [List.eq_of_mem_replicate h]; exact fits_two hx
theorem Inv.tick {n : Nat} {M : Mesh} {Z : RMesh} (I : Inv n M Z) : Inv (n + 1) { M with now := M.now + 1 } { Z with now := Z.now + 1 } :=
  ⟨I.alike.tick, I.fates, by have := I.sent; show Z.sent ≤ _; omega, Nat.succ_le_succ I.now, by have := I.wait; show Z.wait.length ≤ _; omega, by have := I.cut; show Z.cut.length ≤ _; omega, I.fits⟩
theorem Inv.cutOff {n : Nat} {M : Mesh} {Z : RMesh} (I : Inv n M Z) (a b : UInt64) (c : Bool) : Inv (n + 1) { M with cut := setCut M.cut (min a b, max a b) c } (Z.cutOff a b c) := by
  refine ⟨I.alike.cutOff a b c, I.fates, by have := I.sent; show Z.sent ≤ _; omega, by have := I.now; show Z.now ≤ _; omega, by have := I.wait; show Z.wait.length ≤ _; omega, ?_, I.fits⟩
  show (Z.cut.filter (keepPair a b) ++ (if c then [(a, b)] else [])).length ≤ _
  have h1 := List.length_filter_le (keepPair a b) Z.cut
  have := I.cut
  rw [List.length_append]
  cases c <;> simp <;> omega
theorem Inv.next {n : Nat} {M : Mesh} {Z : RMesh} (I : Inv n M Z) : Inv (n + 1) M.rest Z.rest ∧ M.got = Z.asM.got ∧ M.is = Z.asM.is ∧ Z.asM.got.fits2 := by
  obtain ⟨h1, h2, h3⟩ := I.alike.next
  have hsub : ∀ f ∈ Z.rest.wait, f ∈ Z.wait := fun f hf => by
    have hf' : f ∈ Z.asM.rest.wait := hf
    unfold Mesh.rest at hf'
    split at hf'
    · exact hf'
    · exact List.mem_of_mem_eraseIdx hf'
  have hlen : Z.rest.wait.length ≤ Z.wait.length := by
    show Z.asM.rest.wait.length ≤ _
    unfold Mesh.rest
    split
    · exact Nat.le_refl _
    · exact List.length_eraseIdx_le _ _
  refine ⟨⟨h3, I.fates, by have := I.sent; show Z.sent ≤ _; omega, by have := I.now; show Z.now ≤ _; omega, by have := I.wait; omega, by have := I.cut; show Z.cut.length ≤ _; omega, fun f hf => I.fits f (hsub f hf)⟩, h1, h2, ?_⟩
  unfold Mesh.got
  split
  · exact fits_two (fits_zero 0)
  · split
    · rename_i f hf
      exact I.fits f (List.mem_of_getElem? hf)
    · exact fits_two (fits_zero 0)

def r5l0 : RCode :=
  (.seq (.region [
    ⟨(some 31), none, .act, .bin .lss (.tmp 30) (.tmp 29)⟩])
  (.seq (.cond (.tmp 31)
   .skip
   (.exit 0))
  (.seq (.block 1
   (.seq (.region [
     ⟨(some 32), none, .act, .indexAddr 15 (.tmp 28) (.tmp 30)⟩,
     ⟨(some 33), none, .act, .load true 15 (.tmp 32)⟩,
     ⟨(some 8), none, .act, .alloc [(.int .i64 0), (.int .i64 0), (.int .u64 0), (.int .u64 0), (.int .u64 0), (.int .u64 0), (.int .u64 0), (.int .u64 0), (.int .u64 0), (.bool false), (.slice none 0 0), (.int .u64 0), (.int .u64 0), (.slice none 0 0), (.slice none 0 0)]⟩,
     ⟨none, none, .act, .store 15 (.tmp 8) (.tmp 33)⟩])
   (.seq (.seq (.region [
     ⟨(some 34), none, .act, .fieldAddr 1 (.tmp 8)⟩,
     ⟨(some 35), none, .act, .fieldAddr 9 (.tmp 34)⟩,
     ⟨(some 36), none, .act, .load false 1 (.tmp 35)⟩,
     ⟨(some 37), none, .act, .call 12 [(.tmp 36)]⟩,
     ⟨(some 38), none, .act, .un .not (.tmp 37)⟩,
     ⟨(some 39), none, .act, .mv (.tmp 38)⟩,
     ⟨(some 40), (some (39, false)), .act, .fieldAddr 1 (.tmp 8)⟩,
     ⟨(some 41), (some (39, false)), .act, .fieldAddr 10 (.tmp 40)⟩,
     ⟨(some 42), (some (39, false)), .act, .load true 4 (.tmp 41)⟩,
     ⟨(some 43), (some (39, false)), .act, .call 11 [(.tmp 42)]⟩,
     ⟨(some 44), (some (39, false)), .act, .un .not (.tmp 43)⟩,
     ⟨(some 45), none, .act, .pick (.tmp 39) (.const (.bool true)) (.tmp 44)⟩])
   (.cond (.tmp 45)
    (.seq (.region [
      ⟨(some 4), none, .act, .mv (.const (.bool true))⟩])
    .ret)
    .skip))
   (.seq (.seq (.region [
     ⟨(some 46), none, .act, .fieldAddr 0 (.tmp 8)⟩,
     ⟨(some 47), none, .act, .load false 1 (.tmp 46)⟩])
   (.block 2
    (.seq (.region [
      ⟨(some 71), none, .act, .eq false .int (.tmp 47) (.const (.int .i64 0))⟩,
      ⟨(some 70), none, .act, .mv (.tmp 71)⟩])
    (.cond (.tmp 70)
     (.seq (.region [
       ⟨(some 72), none, .act, .mv (.tmp 5)⟩,
       ⟨(some 73), none, .act, .fieldAddr 1 (.tmp 8)⟩,
       ⟨(some 74), none, .act, .load true 14 (.tmp 73)⟩,
       ⟨(some 75), none, .act, .buildSl 14 [(.int .i64 0), (.int .u64 0), (.int .u64 0), (.int .u64 0), (.int .u64 0), (.int .u64 0), (.int .u64 0), (.int .u64 0), (.bool false), (.slice none 0 0), (.int .u64 0), (.int .u64 0), (.slice none 0 0), (.slice none 0 0)] 1 [(0, (.tmp 74))]⟩,
       ⟨(some 76), none, .act, .call 21 [(.tmp 72), (.tmp 75)]⟩])
     (.region [
       ⟨(some 77), none, .act, .mv (.tmp 6)⟩,
       ⟨(some 78), none, .act, .fieldAddr 1 (.tmp 8)⟩,
       ⟨(some 79), none, .act, .load true 14 (.tmp 78)⟩,
       ⟨(some 80), none, .act, .buildSl 14 [(.int .i64 0), (.int .u64 0), (.int .u64 0), (.int .u64 0), (.int .u64 0), (.int .u64 0), (.int .u64 0), (.int .u64 0), (.bool false), (.slice none 0 0), (.int .u64 0), (.int .u64 0), (.slice none 0 0), (.slice none 0 0)] 1 [(0, (.tmp 79))]⟩,
       ⟨(some 81), none, .act, .call 24 [(.tmp 77), (.tmp 80)]⟩]))
     (.seq (.region [
       ⟨(some 83), none, .act, .eq false .int (.tmp 47) (.const (.int .i64 1))⟩,
       ⟨(some 82), none, .act, .mv (.tmp 83)⟩])
     (.cond (.tmp 82)
      (.seq (.region [
        ⟨(some 85), none, .act, .mv (.tmp 5)⟩,
        ⟨(some 86), none, .act, .call 22 [(.tmp 85)]⟩,
        ⟨(some 84), none, .act, .mv (.tmp 86)⟩,
        ⟨(some 87), none, .act, .extract (.tmp 84) 0⟩,
        ⟨(some 88), none, .act, .extract (.tmp 84) 1⟩,
        ⟨(some 9), none, .act, .alloc [(.int .i64 0), (.int .u64 0), (.int .u64 0), (.int .u64 0), (.int .u64 0), (.int .u64 0), (.int .u64 0), (.int .u64 0), (.bool false), (.slice none 0 0), (.int .u64 0), (.int .u64 0), (.slice none 0 0), (.slice none 0 0)]⟩,
        ⟨none, none, .act, .store 14 (.tmp 9) (.tmp 87)⟩,
        ⟨(some 10), none, .act, .mv (.tmp 88)⟩])
      (.seq (.region [
        ⟨(some 90), none, .act, .mv (.tmp 6)⟩,
        ⟨(some 91), none, .act, .call 25 [(.tmp 90)]⟩,
        ⟨(some 89), none, .act, .mv (.tmp 91)⟩,
        ⟨(some 92), none, .act, .extract (.tmp 89) 0⟩,
        ⟨(some 93), none, .act, .extract (.tmp 89) 1⟩,
        ⟨(some 11), none, .act, .alloc [(.int .i64 0), (.int .u64 0), (.int .u64 0), (.int .u64 0), (.int .u64 0), (.int .u64 0), (.int .u64 0), (.int .u64 0), (.bool false), (.slice none 0 0), (.int .u64 0), (.int .u64 0), (.slice none 0 0), (.slice none 0 0)]⟩,
        ⟨none, none, .act, .store 14 (.tmp 11) (.tmp 92)⟩,
        ⟨(some 12), none, .act, .mv (.tmp 93)⟩])
      (.seq (.region [
        ⟨(some 94), none, .act, .mv (.tmp 10)⟩,
        ⟨(some 95), none, .act, .mv (.tmp 12)⟩,
        ⟨(some 96), none, .act, .eq true .bool (.tmp 94) (.tmp 95)⟩,
        ⟨(some 97), none, .act, .mv (.tmp 96)⟩,
        ⟨(some 98), (some (97, false)), .act, .load true 14 (.tmp 9)⟩,
        ⟨(some 99), (some (97, false)), .act, .buildSl 14 [(.int .i64 0), (.int .u64 0), (.int .u64 0), (.int .u64 0), (.int .u64 0), (.int .u64 0), (.int .u64 0), (.int .u64 0), (.bool false), (.slice none 0 0), (.int .u64 0), (.int .u64 0), (.slice none 0 0), (.slice none 0 0)] 1 [(0, (.tmp 98))]⟩,
        ⟨(some 100), (some (97, false)), .act, .load true 14 (.tmp 11)⟩,
        ⟨(some 101), (some (97, false)), .act, .buildSl 14 [(.int .i64 0), (.int .u64 0), (.int .u64 0), (.int .u64 0), (.int .u64 0), (.int .u64 0), (.int .u64 0), (.int .u64 0), (.bool false), (.slice none 0 0), (.int .u64 0), (.int .u64 0), (.slice none 0 0), (.slice none 0 0)] 1 [(0, (.tmp 100))]⟩,
        ⟨(some 102), (some (97, false)), .act, .call 23 [(.tmp 99), (.tmp 101)]⟩,
        ⟨(some 103), (some (97, false)), .act, .un .not (.tmp 102)⟩,
        ⟨(some 104), none, .act, .pick (.tmp 97) (.const (.bool true)) (.tmp 103)⟩])
      (.cond (.tmp 104)
       (.seq (.region [
         ⟨(some 4), none, .act, .mv (.const (.bool false))⟩])
       .ret)
       .skip))))
      (.seq (.region [
        ⟨(some 106), none, .act, .eq false .int (.tmp 47) (.const (.int .i64 2))⟩,
        ⟨(some 105), none, .act, .mv (.tmp 106)⟩])
      (.cond (.tmp 105)
       (.seq (.region [
         ⟨(some 107), none, .act, .mv (.tmp 5)⟩,
         ⟨(some 108), none, .act, .call 26 [(.tmp 107)]⟩])
       (.region [
         ⟨(some 109), none, .act, .mv (.tmp 6)⟩,
         ⟨(some 110), none, .act, .call 27 [(.tmp 109)]⟩]))
       (.seq (.region [
         ⟨(some 48), none, .act, .mv (.tmp 5)⟩,
         ⟨(some 49), none, .act, .fieldAddr 1 (.tmp 8)⟩,
         ⟨(some 50), none, .act, .fieldAddr 1 (.tmp 49)⟩,
         ⟨(some 51), none, .act, .load false 1 (.tmp 50)⟩,
         ⟨(some 52), none, .act, .fieldAddr 1 (.tmp 8)⟩,
         ⟨(some 53), none, .act, .fieldAddr 2 (.tmp 52)⟩,
         ⟨(some 54), none, .act, .load false 1 (.tmp 53)⟩,
         ⟨(some 55), none, .act, .fieldAddr 0 (.tmp 8)⟩,
         ⟨(some 56), none, .act, .load false 1 (.tmp 55)⟩,
         ⟨(some 57), none, .act, .eq false .int (.tmp 56) (.const (.int .i64 3))⟩,
         ⟨(some 58), none, .act, .call 20 [(.tmp 48), (.tmp 51), (.tmp 54), (.tmp 57)]⟩])
       (.region [
         ⟨(some 59), none, .act, .mv (.tmp 6)⟩,
         ⟨(some 60), none, .act, .fieldAddr 1 (.tmp 8)⟩,
         ⟨(some 61), none, .act, .fieldAddr 1 (.tmp 60)⟩,
         ⟨(some 62), none, .act, .load false 1 (.tmp 61)⟩,
         ⟨(some 63), none, .act, .fieldAddr 1 (.tmp 8)⟩,
         ⟨(some 64), none, .act, .fieldAddr 2 (.tmp 63)⟩,
         ⟨(some 65), none, .act, .load false 1 (.tmp 64)⟩,
         ⟨(some 66), none, .act, .fieldAddr 0 (.tmp 8)⟩,
         ⟨(some 67), none, .act, .load false 1 (.tmp 66)⟩,
         ⟨(some 68), none, .act, .eq false .int (.tmp 67) (.const (.int .i64 3))⟩,
         ⟨(some 69), none, .act, .call 28 [(.tmp 59), (.tmp 62), (.tmp 65), (.tmp 68)]⟩]))))))))))
   (.seq (.region [
     ⟨(some 111), none, .act, .mv (.tmp 5)⟩,
     ⟨(some 112), none, .act, .call 29 [(.tmp 111)]⟩,
     ⟨(some 113), none, .act, .mv (.tmp 6)⟩,
     ⟨(some 114), none, .act, .call 30 [(.tmp 113)]⟩,
     ⟨(some 115), none, .act, .eq true .int (.tmp 112) (.tmp 114)⟩])
   (.cond (.tmp 115)
    (.seq (.region [
      ⟨(some 4), none, .act, .mv (.const (.bool false))⟩])
    .ret)
    .skip))))))
  (.region [
    ⟨(some 116), none, .act, .bin .add (.tmp 30) (.const (.int .i64 1))⟩,
    ⟨(some 30), none, .act, .mv (.tmp 116)⟩]))))
/-- plenum/plenumlaw10.MeshDoes -/
def r5 : RCode :=
  (.seq (.region [
    ⟨(some 4), none, .act, .mv (.const (.bool false))⟩])
  (.seq (.seq (.region [
    ⟨(some 13), none, .act, .call 18 []⟩,
    ⟨(some 14), none, .act, .un .not (.tmp 13)⟩])
  (.cond (.tmp 14)
   (.seq (.region [
     ⟨(some 4), none, .act, .mv (.const (.bool false))⟩])
   .ret)
   .skip))
  (.seq (.seq (.region [
    ⟨(some 15), none, .act, .mv (.tmp 0)⟩,
    ⟨(some 16), none, .act, .len (.tmp 15)⟩,
    ⟨(some 17), none, .act, .bin .gtr (.tmp 16) (.const (.int .i64 30))⟩,
    ⟨(some 18), none, .act, .mv (.tmp 17)⟩,
    ⟨(some 19), (some (18, false)), .act, .mv (.tmp 1)⟩,
    ⟨(some 20), (some (18, false)), .act, .len (.tmp 19)⟩,
    ⟨(some 21), (some (18, false)), .act, .bin .gtr (.tmp 20) (.const (.int .i64 60))⟩,
    ⟨(some 22), none, .act, .pick (.tmp 18) (.const (.bool true)) (.tmp 21)⟩])
  (.cond (.tmp 22)
   (.seq (.region [
     ⟨(some 4), none, .act, .mv (.const (.bool true))⟩])
   .ret)
   .skip))
  (.seq (.region [
    ⟨(some 23), none, .act, .mv (.tmp 0)⟩,
    ⟨(some 24), none, .act, .call 19 [(.tmp 23)]⟩,
    ⟨(some 25), none, .act, .mv (.tmp 0)⟩,
    ⟨(some 26), none, .act, .build [(.slice none 0 0), (.int .i64 0), (.int .i64 0), (.slice none 0 0), (.slice none 0 0)] [(0, 1, (.tmp 25))]⟩,
    ⟨(some 27), none, .act, .box (.tmp 26)⟩,
    ⟨(some 5), none, .act, .mv (.tmp 24)⟩,
    ⟨(some 6), none, .act, .mv (.tmp 27)⟩])
  (.seq (.seq (.region [
    ⟨(some 28), none, .act, .mv (.tmp 1)⟩,
    ⟨(some 29), none, .act, .len (.tmp 28)⟩,
    ⟨(some 30), none, .act, .mv (.const (.int .i64 0))⟩])
  (.block 0
   (.loop r5l0)))
  (.seq (.region [
    ⟨(some 4), none, .act, .mv (.const (.bool true))⟩])
  .ret))))))
theorem res5 : ∃ c, Try.f5.body = some c ∧ resCode Try.prog 117 c = some r5 := ⟨_, rfl, by kernel_rfl⟩
theorem rr5 : resRes Try.prog Try.f5.results.toList = some [.tmp 4] := by kernel_rfl
def r5v : RCode :=
  (.seq (.region [
     ⟨(some 111), none, .act, .mv (.tmp 5)⟩,
     ⟨(some 112), none, .act, .call 29 [(.tmp 111)]⟩,
     ⟨(some 113), none, .act, .mv (.tmp 6)⟩,
     ⟨(some 114), none, .act, .call 30 [(.tmp 113)]⟩,
     ⟨(some 115), none, .act, .eq true .int (.tmp 112) (.tmp 114)⟩])
   (.cond (.tmp 115)
    (.seq (.region [
      ⟨(some 4), none, .act, .mv (.const (.bool false))⟩])
    .ret)
    .skip))
def r5w : RCode :=
  (.seq (.seq (.region [
     ⟨(some 46), none, .act, .fieldAddr 0 (.tmp 8)⟩,
     ⟨(some 47), none, .act, .load false 1 (.tmp 46)⟩])
   (.block 2
    (.seq (.region [
      ⟨(some 71), none, .act, .eq false .int (.tmp 47) (.const (.int .i64 0))⟩,
      ⟨(some 70), none, .act, .mv (.tmp 71)⟩])
    (.cond (.tmp 70)
     (.seq (.region [
       ⟨(some 72), none, .act, .mv (.tmp 5)⟩,
       ⟨(some 73), none, .act, .fieldAddr 1 (.tmp 8)⟩,
       ⟨(some 74), none, .act, .load true 14 (.tmp 73)⟩,
       ⟨(some 75), none, .act, .buildSl 14 [(.int .i64 0), (.int .u64 0), (.int .u64 0), (.int .u64 0), (.int .u64 0), (.int .u64 0), (.int .u64 0), (.int .u64 0), (.bool false), (.slice none 0 0), (.int .u64 0), (.int .u64 0), (.slice none 0 0), (.slice none 0 0)] 1 [(0, (.tmp 74))]⟩,
       ⟨(some 76), none, .act, .call 21 [(.tmp 72), (.tmp 75)]⟩])
     (.region [
       ⟨(some 77), none, .act, .mv (.tmp 6)⟩,
       ⟨(some 78), none, .act, .fieldAddr 1 (.tmp 8)⟩,
       ⟨(some 79), none, .act, .load true 14 (.tmp 78)⟩,
       ⟨(some 80), none, .act, .buildSl 14 [(.int .i64 0), (.int .u64 0), (.int .u64 0), (.int .u64 0), (.int .u64 0), (.int .u64 0), (.int .u64 0), (.int .u64 0), (.bool false), (.slice none 0 0), (.int .u64 0), (.int .u64 0), (.slice none 0 0), (.slice none 0 0)] 1 [(0, (.tmp 79))]⟩,
       ⟨(some 81), none, .act, .call 24 [(.tmp 77), (.tmp 80)]⟩]))
     (.seq (.region [
       ⟨(some 83), none, .act, .eq false .int (.tmp 47) (.const (.int .i64 1))⟩,
       ⟨(some 82), none, .act, .mv (.tmp 83)⟩])
     (.cond (.tmp 82)
      (.seq (.region [
        ⟨(some 85), none, .act, .mv (.tmp 5)⟩,
        ⟨(some 86), none, .act, .call 22 [(.tmp 85)]⟩,
        ⟨(some 84), none, .act, .mv (.tmp 86)⟩,
        ⟨(some 87), none, .act, .extract (.tmp 84) 0⟩,
        ⟨(some 88), none, .act, .extract (.tmp 84) 1⟩,
        ⟨(some 9), none, .act, .alloc [(.int .i64 0), (.int .u64 0), (.int .u64 0), (.int .u64 0), (.int .u64 0), (.int .u64 0), (.int .u64 0), (.int .u64 0), (.bool false), (.slice none 0 0), (.int .u64 0), (.int .u64 0), (.slice none 0 0), (.slice none 0 0)]⟩,
        ⟨none, none, .act, .store 14 (.tmp 9) (.tmp 87)⟩,
        ⟨(some 10), none, .act, .mv (.tmp 88)⟩])
      (.seq (.region [
        ⟨(some 90), none, .act, .mv (.tmp 6)⟩,
        ⟨(some 91), none, .act, .call 25 [(.tmp 90)]⟩,
        ⟨(some 89), none, .act, .mv (.tmp 91)⟩,
        ⟨(some 92), none, .act, .extract (.tmp 89) 0⟩,
        ⟨(some 93), none, .act, .extract (.tmp 89) 1⟩,
        ⟨(some 11), none, .act, .alloc [(.int .i64 0), (.int .u64 0), (.int .u64 0), (.int .u64 0), (.int .u64 0), (.int .u64 0), (.int .u64 0), (.int .u64 0), (.bool false), (.slice none 0 0), (.int .u64 0), (.int .u64 0), (.slice none 0 0), (.slice none 0 0)]⟩,
        ⟨none, none, .act, .store 14 (.tmp 11) (.tmp 92)⟩,
        ⟨(some 12), none, .act, .mv (.tmp 93)⟩])
      (.seq (.region [
        ⟨(some 94), none, .act, .mv (.tmp 10)⟩,
        ⟨(some 95), none, .act, .mv (.tmp 12)⟩,
        ⟨(some 96), none, .act, .eq true .bool (.tmp 94) (.tmp 95)⟩,
        ⟨(some 97), none, .act, .mv (.tmp 96)⟩,
        ⟨(some 98), (some (97, false)), .act, .load true 14 (.tmp 9)⟩,
        ⟨(some 99), (some (97, false)), .act, .buildSl 14 [(.int .i64 0), (.int .u64 0), (.int .u64 0), (.int .u64 0), (.int .u64 0), (.int .u64 0), (.int .u64 0), (.int .u64 0), (.bool false), (.slice none 0 0), (.int .u64 0), (.int .u64 0), (.slice none 0 0), (.slice none 0 0)] 1 [(0, (.tmp 98))]⟩,
        ⟨(some 100), (some (97, false)), .act, .load true 14 (.tmp 11)⟩,
        ⟨(some 101), (some (97, false)), .act, .buildSl 14 [(.int .i64 0), (.int .u64 0), (.int .u64 0), (.int .u64 0), (.int .u64 0), (.int .u64 0), (.int .u64 0), (.int .u64 0), (.bool false), (.slice none 0 0), (.int .u64 0), (.int .u64 0), (.slice none 0 0), (.slice none 0 0)] 1 [(0, (.tmp 100))]⟩,
        ⟨(some 102), (some (97, false)), .act, .call 23 [(.tmp 99), (.tmp 101)]⟩,
        ⟨(some 103), (some (97, false)), .act, .un .not (.tmp 102)⟩,
        ⟨(some 104), none, .act, .pick (.tmp 97) (.const (.bool true)) (.tmp 103)⟩])
      (.cond (.tmp 104)
       (.seq (.region [
         ⟨(some 4), none, .act, .mv (.const (.bool false))⟩])
       .ret)
       .skip))))
      (.seq (.region [
        ⟨(some 106), none, .act, .eq false .int (.tmp 47) (.const (.int .i64 2))⟩,
        ⟨(some 105), none, .act, .mv (.tmp 106)⟩])
      (.cond (.tmp 105)
       (.seq (.region [
         ⟨(some 107), none, .act, .mv (.tmp 5)⟩,
         ⟨(some 108), none, .act, .call 26 [(.tmp 107)]⟩])
       (.region [
         ⟨(some 109), none, .act, .mv (.tmp 6)⟩,
         ⟨(some 110), none, .act, .call 27 [(.tmp 109)]⟩]))
       (.seq (.region [
         ⟨(some 48), none, .act, .mv (.tmp 5)⟩,
         ⟨(some 49), none, .act, .fieldAddr 1 (.tmp 8)⟩,
         ⟨(some 50), none, .act, .fieldAddr 1 (.tmp 49)⟩,
         ⟨(some 51), none, .act, .load false 1 (.tmp 50)⟩,
         ⟨(some 52), none, .act, .fieldAddr 1 (.tmp 8)⟩,
         ⟨(some 53), none, .act, .fieldAddr 2 (.tmp 52)⟩,
         ⟨(some 54), none, .act, .load false 1 (.tmp 53)⟩,
         ⟨(some 55), none, .act, .fieldAddr 0 (.tmp 8)⟩,
         ⟨(some 56), none, .act, .load false 1 (.tmp 55)⟩,
         ⟨(some 57), none, .act, .eq false .int (.tmp 56) (.const (.int .i64 3))⟩,
         ⟨(some 58), none, .act, .call 20 [(.tmp 48), (.tmp 51), (.tmp 54), (.tmp 57)]⟩])
       (.region [
         ⟨(some 59), none, .act, .mv (.tmp 6)⟩,
         ⟨(some 60), none, .act, .fieldAddr 1 (.tmp 8)⟩,
         ⟨(some 61), none, .act, .fieldAddr 1 (.tmp 60)⟩,
         ⟨(some 62), none, .act, .load false 1 (.tmp 61)⟩,
         ⟨(some 63), none, .act, .fieldAddr 1 (.tmp 8)⟩,
         ⟨(some 64), none, .act, .fieldAddr 2 (.tmp 63)⟩,
         ⟨(some 65), none, .act, .load false 1 (.tmp 64)⟩,
         ⟨(some 66), none, .act, .fieldAddr 0 (.tmp 8)⟩,
         ⟨(some 67), none, .act, .load false 1 (.tmp 66)⟩,
         ⟨(some 68), none, .act, .eq false .int (.tmp 67) (.const (.int .i64 3))⟩,
         ⟨(some 69), none, .act, .call 28 [(.tmp 59), (.tmp 62), (.tmp 65), (.tmp 68)]⟩]))))))))))
   (.seq (.region [
     ⟨(some 111), none, .act, .mv (.tmp 5)⟩,
     ⟨(some 112), none, .act, .call 29 [(.tmp 111)]⟩,
     ⟨(some 113), none, .act, .mv (.tmp 6)⟩,
     ⟨(some 114), none, .act, .call 30 [(.tmp 113)]⟩,
     ⟨(some 115), none, .act, .eq true .int (.tmp 112) (.tmp 114)⟩])
   (.cond (.tmp 115)
    (.seq (.region [
      ⟨(some 4), none, .act, .mv (.const (.bool false))⟩])
    .ret)
    .skip)))

theorem does_tail {M : Mesh} {Z : RMesh} {p bm q n : Nat} {h : AHeap} (B : Both M p bm Z q h) (I : Inv n M Z) (hn : n ≤ 1000) (e28 e29 e30 : AV) (k : List RT) (Q : AV → AHeap → Prop)
    (hk : RRun Try.prog Try.f5 117 k (Env.get [(5, ptr p), (6, ptr q), (28, e28), (29, e29), (30, e30)]) h Q) :
    RRun Try.prog Try.f5 117 (.code r5v :: .inBlock 1 :: k) (Env.get [(5, ptr p), (6, ptr q), (28, e28), (29, e29), (30, e30)]) h Q := by
  obtain ⟨hb, c, H, R0, R1⟩ := B.rat
  have c29 := waiting_spec H
  have c30 := rwaiting_spec R1 (by have := I.wait; omega)
  rw [I.alike.wait] at c29
  unfold r5v
  repeat' (first
    | refine S.nilK ?_
    | (refine S.op rfl ?_; first
      | refine S.eqIntSame rfl rfl ?_
      | refine R.callQ (by decide) rfl c29 ?_
      | refine R.callQ (by decide) rfl c30 ?_
      | refine R.mv rfl ?_
      | refine R.fieldAddr rfl ?_
      | refine R.fieldAddrR rfl ?_
      | refine R.nilCheck rfl ?_
      | refine R.nilCheckR rfl ?_
      | refine R.loadR rfl rfl ?_
      | refine R.load (by decide) rfl (by (repeat' (first | assumption | exact AHeap.set_same _ _ _ | refine AHeap.get_fresh (by assumption) ?_ | refine AHeap.so ?_ ?_ | exact AHeap.n1 (by assumption) | exact AHeap.n2 (by assumption) | exact AHeap.ne_of (by assumption) (by assumption) | exact AHeap.n4 (by assumption) (by assumption) | exact AHeap.n5 (by assumption) | exact AHeap.n6 (by assumption) | exact AHeap.n7 (by assumption) (by assumption) | exact AHeap.n8 (by assumption) (by assumption))); first | done | fail) rfl ?_
      | refine S.addI rfl rfl (by omega) ?_
      | refine S.subI rfl rfl (by omega) ?_
      | refine S.addU rfl rfl ?_
      | refine S.subU rfl rfl ?_
      | refine S.addUc rfl (by decide) ?_
      | refine S.subUc rfl (by decide) ?_
      | refine S.arith rfl rfl rfl ?_
      | refine R.pickT rfl rfl ?_
      | refine R.pickF rfl rfl ?_
      | refine R.len rfl ?_
      | refine R.lenA rfl ?_
      | refine R.lenStr rfl ?_
      | refine S.convIU rfl (by omega) ?_
      | refine S.convUI rfl (by omega) ?_
      | refine R.convInt rfl ?_
      | refine R.not rfl ?_
      | refine R.eqPtrNil rfl rfl ?_
      | refine R.extract rfl rfl ?_
      | refine R.field rfl rfl ?_
      | refine R.alloc rfl (fun b hb => ?_)
      | refine R.box rfl rfl rfl (fun b hb => ?_)
      | refine R.build rfl rfl ?_
      | refine R.buildSl rfl rfl rfl (by decide) ?_
      | refine R.toStr rfl ?_
      | refine R.convStr rfl ?_
      | refine R.minmax rfl ?_
      | refine R.makeFunc rfl rfl ?_
      | (first | refine S.lss rfl rfl (fun hlt => ?_) (fun hlt => by exfalso; omega) | refine S.lss rfl rfl (fun hlt => by exfalso; omega) (fun hlt => ?_) | refine S.lss rfl rfl (fun hlt => ?_) (fun hlt => ?_))
      | (first | refine S.gtr rfl rfl (fun hlt => ?_) (fun hlt => by exfalso; omega) | refine S.gtr rfl rfl (fun hlt => by exfalso; omega) (fun hlt => ?_) | refine S.gtr rfl rfl (fun hlt => ?_) (fun hlt => ?_))
      | (first | refine S.leq rfl rfl (fun hlt => ?_) (fun hlt => by exfalso; omega) | refine S.leq rfl rfl (fun hlt => by exfalso; omega) (fun hlt => ?_) | refine S.leq rfl rfl (fun hlt => ?_) (fun hlt => ?_))
      | (first | refine S.geq rfl rfl (fun hlt => ?_) (fun hlt => by exfalso; omega) | refine S.geq rfl rfl (fun hlt => by exfalso; omega) (fun hlt => ?_) | refine S.geq rfl rfl (fun hlt => ?_) (fun hlt => ?_))
      | (first | refine S.eqInt rfl rfl (fun hlt => ?_) (fun hlt => by exfalso; omega) | refine S.eqInt rfl rfl (fun hlt => by exfalso; omega) (fun hlt => ?_) | refine S.eqInt rfl rfl (fun hlt => ?_) (fun hlt => ?_)))
    | (refine S.op0 rfl ?_; first | refine S.storeS rfl rfl rfl (by rfl) rfl (by first | decide | exact Nat.le_refl _ | exact Nat.le_of_ble_eq_true rfl) ?_ | refine S.store rfl rfl (by (repeat' (first | assumption | exact AHeap.set_same _ _ _ | refine AHeap.get_fresh (by assumption) ?_ | refine AHeap.so ?_ ?_ | exact AHeap.n1 (by assumption) | exact AHeap.n2 (by assumption) | exact AHeap.ne_of (by assumption) (by assumption) | exact AHeap.n4 (by assumption) (by assumption) | exact AHeap.n5 (by assumption) | exact AHeap.n6 (by assumption) | exact AHeap.n7 (by assumption) (by assumption) | exact AHeap.n8 (by assumption) (by assumption))); first | done | fail) rfl rfl rfl (by rfl) rfl ?_)
    | refine S.skip rfl ?_
    | refine S.skip0 rfl ?_
    | refine S.seq ?_
    | refine S.region ?_
    | refine S.regionT ?_
    | refine S.tstep ?_
    | refine S.talt ?_ ?_
    | exact S.tstop
    | refine S.tdone ?_
    | refine S.condT rfl ?_
    | refine S.condF rfl ?_
    | refine RRun.skip ?_
    | refine RRun.block ?_
    | refine RRun.inBlock ?_
    | refine RRun.exit rfl ?_)
  exact S.keep [5, 6, 28, 29, 30] rfl hk

end Go.Proofs.Ytnmgamcmjjngcaa
