import Derived.Test.YtnmgamcmjjngcaaM10
set_option linter.unusedVariables false
set_option linter.unusedSimpArgs false
namespace Go.Proofs.Ytnmgamcmjjngcaa
open Go.Av
open Go.Sort (swp PermIn SortedIn Below SWO)

/-! ### Sort, Sorted -/
theorem ins_nil (h : AHeap) : ACalls Try.prog 107 [.v (.slice none 0 0), i64 (0 : Nat), i64 (0 : Nat)] h (fun _ h' => h' = h) := by
  obtain ⟨c, hc1, hc2⟩ := res107
  refine ACalls.enter Try.func107 hc1 Try.ntmps107 hc2 (Nat.le_of_ble_eq_true rfl) rfl ?_
  repeat' (first | refine S.nilK ?_ | (refine S.op rfl ?_; first | refine R.mv rfl ?_ | refine R.loadR rfl rfl ?_ | refine R.load (by decide) rfl (by first | assumption | exact AHeap.set_same _ _ _) rfl ?_ | refine S.addI rfl rfl (by omega) ?_ | refine S.subI rfl rfl (by omega) ?_ | refine S.addU rfl rfl ?_ | refine S.subU rfl rfl ?_ | refine S.addUc rfl (by decide) ?_ | refine S.subUc rfl (by decide) ?_ | refine R.pickT rfl rfl ?_ | refine R.pickF rfl rfl ?_ | ((first | refine S.lss rfl rfl ?_ ?_ | refine S.gtr rfl rfl ?_ ?_) <;> intro hlt <;> try (exfalso; omega))) | (refine S.op0 rfl ?_; first | refine S.storeS rfl rfl rfl (by rfl) rfl (by first | decide | exact Nat.le_refl _ | exact Nat.le_of_ble_eq_true rfl) ?_ | refine S.store rfl rfl (by first | assumption | exact AHeap.set_same _ _ _) rfl rfl rfl (by rfl) rfl ?_) | refine S.skip rfl ?_ | refine S.skip0 rfl ?_ | refine S.seq ?_ | refine S.region ?_ | refine S.condT rfl ?_ | refine S.condF rfl ?_ | refine RRun.skip ?_ | refine RRun.block ?_ | refine RRun.inBlock ?_ | refine RRun.exit rfl ?_)
  refine RRun.loopIn (RRun.inLoop ?_)
  repeat' (first | refine S.nilK ?_ | (refine S.op rfl ?_; first | refine R.mv rfl ?_ | refine R.loadR rfl rfl ?_ | refine R.load (by decide) rfl (by first | assumption | exact AHeap.set_same _ _ _) rfl ?_ | refine S.addI rfl rfl (by omega) ?_ | refine S.subI rfl rfl (by omega) ?_ | refine S.addU rfl rfl ?_ | refine S.subU rfl rfl ?_ | refine S.addUc rfl (by decide) ?_ | refine S.subUc rfl (by decide) ?_ | refine R.pickT rfl rfl ?_ | refine R.pickF rfl rfl ?_ | ((first | refine S.lss rfl rfl ?_ ?_ | refine S.gtr rfl rfl ?_ ?_) <;> intro hlt <;> try (exfalso; omega))) | (refine S.op0 rfl ?_; first | refine S.storeS rfl rfl rfl (by rfl) rfl (by first | decide | exact Nat.le_refl _ | exact Nat.le_of_ble_eq_true rfl) ?_ | refine S.store rfl rfl (by first | assumption | exact AHeap.set_same _ _ _) rfl rfl rfl (by rfl) rfl ?_) | refine S.skip rfl ?_ | refine S.skip0 rfl ?_ | refine S.seq ?_ | refine S.region ?_ | refine S.condT rfl ?_ | refine S.condF rfl ?_ | refine RRun.skip ?_ | refine RRun.block ?_ | refine RRun.inBlock ?_ | refine RRun.exit rfl ?_)
  apply S.done rr107
  case hx => repeat (first | exact ResAt.nil | apply ResAt.tmp rfl | apply ResAt.cellA rfl (by first | assumption | exact AHeap.set_same _ _ _) (by rfl) | apply ResAt.cell1 rfl (by first | assumption | exact AHeap.set_same _ _ _) (by rfl))
  rfl

theorem pdq_nil (lim : Nat) (h : AHeap) : ACalls Try.prog 103 [.v (.slice none 0 0), i64 (0 : Nat), i64 (0 : Nat), i64 lim] h (fun _ h' => h' = h) := by
  obtain ⟨c, hc1, hc2⟩ := res103
  refine ACalls.enter Try.func103 hc1 Try.ntmps103 hc2 (Nat.le_of_ble_eq_true rfl) rfl ?_
  repeat' (first | refine S.nilK ?_ | (refine S.op rfl ?_; first | refine R.mv rfl ?_ | refine R.loadR rfl rfl ?_ | refine R.load (by decide) rfl (by first | assumption | exact AHeap.set_same _ _ _) rfl ?_ | refine S.addI rfl rfl (by omega) ?_ | refine S.subI rfl rfl (by omega) ?_ | refine S.addU rfl rfl ?_ | refine S.subU rfl rfl ?_ | refine S.addUc rfl (by decide) ?_ | refine S.subUc rfl (by decide) ?_ | refine S.arith rfl rfl rfl ?_ | refine R.pickT rfl rfl ?_ | refine R.pickF rfl rfl ?_ | refine R.not rfl ?_ | refine R.eqPtrNil rfl rfl ?_ | refine R.extract rfl rfl ?_ | ((first | refine S.lss rfl rfl ?_ ?_ | refine S.gtr rfl rfl ?_ ?_ | refine S.leq rfl rfl ?_ ?_ | refine S.geq rfl rfl ?_ ?_ | refine S.eqInt rfl rfl ?_ ?_) <;> intro hlt <;> try (exfalso; omega))) | refine S.skip rfl ?_ | refine S.skip0 rfl ?_ | refine S.seq ?_ | refine S.region ?_ | refine S.condT rfl ?_ | refine S.condF rfl ?_ | refine RRun.skip ?_ | refine RRun.block ?_ | refine RRun.inBlock ?_ | refine RRun.exit rfl ?_)
  refine RRun.loopIn (RRun.inLoop ?_)
  repeat' (first | refine S.nilK ?_ | (refine S.op rfl ?_; first | refine S.subNN (m := 0) (n := 0) rfl rfl (by omega) (by omega) ?_ | refine callU rfl rfl (ins_nil _) (fun x => ?_) | refine R.mv rfl ?_ | refine R.loadR rfl rfl ?_ | refine R.load (by decide) rfl (by first | assumption | exact AHeap.set_same _ _ _) rfl ?_ | refine S.addI rfl rfl (by omega) ?_ | refine S.subI rfl rfl (by omega) ?_ | refine S.addU rfl rfl ?_ | refine S.subU rfl rfl ?_ | refine S.addUc rfl (by decide) ?_ | refine S.subUc rfl (by decide) ?_ | refine S.arith rfl rfl rfl ?_ | refine R.pickT rfl rfl ?_ | refine R.pickF rfl rfl ?_ | refine R.not rfl ?_ | refine R.eqPtrNil rfl rfl ?_ | refine R.extract rfl rfl ?_ | ((first | refine S.lss rfl rfl ?_ ?_ | refine S.gtr rfl rfl ?_ ?_ | refine S.leq rfl rfl ?_ ?_ | refine S.geq rfl rfl ?_ ?_ | refine S.eqInt rfl rfl ?_ ?_) <;> intro hlt <;> try (exfalso; omega))) | refine S.skip rfl ?_ | refine S.skip0 rfl ?_ | refine S.seq ?_ | refine S.region ?_ | refine S.condT rfl ?_ | refine S.condF rfl ?_ | refine RRun.skip ?_ | refine RRun.block ?_ | refine RRun.inBlock ?_ | refine RRun.exit rfl ?_)
  apply S.ret rr103
  case hx => repeat (first | exact ResAt.nil | apply ResAt.tmp rfl | apply ResAt.cellA rfl (by first | assumption | exact AHeap.set_same _ _ _) (by rfl) | apply ResAt.cell1 rfl (by first | assumption | exact AHeap.set_same _ _ _) (by rfl))
  rfl

def srt (l : List SE) : List SE := l.mergeSort (fun x y => !ltE y x)
theorem srt_len (l : List SE) : (srt l).length = l.length := List.length_mergeSort l
theorem srt_perm (l : List SE) : (srt l).Perm l := List.mergeSort_perm l _

theorem sorted_srt {d d' : Array SE} {n : Nat} (hd : d.size = n) (hp : PermIn 0 n d d') (hs : SortedIn ltE 0 n d') : d'.toList = srt d.toList := by
  subst hd
  exact Go.Sort.sorted_unique_holds swo_ltE (fun x y h1 h2 => by
    simp only [ltE, decide_eq_false_iff_not, UInt64.lt_iff_toNat_lt] at h1 h2
    exact UInt64.toNat_inj.1 (by omega)) d d' hp hs

theorem lenTab_all : ∀ n, n < 50 → ∃ tb, lenTab[n]? = some tb ∧ tb.toNat ≤ 8 := by decide

/-- slices.Sort[[]uint64,uint64] -/
def r97 : RCode :=
  (.seq (.region [
    ⟨(some 3), none, .act, .mv (.tmp 0)⟩,
    ⟨(some 4), none, .act, .len (.tmp 3)⟩,
    ⟨(some 2), none, .act, .mv (.tmp 4)⟩])
  (.region [
    ⟨(some 5), none, .act, .mv (.tmp 0)⟩,
    ⟨(some 6), none, .act, .mv (.tmp 2)⟩,
    ⟨(some 7), none, .act, .mv (.tmp 2)⟩,
    ⟨(some 8), none, .act, .convInt .u64 (.tmp 7)⟩,
    ⟨(some 9), none, .act, .call 104 [(.tmp 8)]⟩,
    ⟨(some 10), none, .act, .call 103 [(.tmp 5), (.const (.int .i64 0)), (.tmp 6), (.tmp 9)]⟩]))
theorem res97 : ∃ c, Try.f97.body = some c ∧ resCode Try.prog 11 c = some r97 := ⟨_, rfl, by kernel_rfl⟩
theorem rr97 : resRes Try.prog Try.f97.results.toList = some [] := by kernel_rfl
theorem sort_spec (l : List SE) (hl : l.length ≤ 49) (d : AV) (B : Nat → Prop) (g : AHeap) (hr : RowG l d B g) :
    ACalls Try.prog 97 [d] g (fun _ h' => RowG (srt l) d B h' ∧ ∀ x, ¬ B x → h' x = g x) := by
  obtain ⟨c, hc1, hc2⟩ := res97
  refine ACalls.enter Try.func97 hc1 Try.ntmps97 hc2 (Nat.le_of_ble_eq_true rfl) rfl ?_
  obtain ⟨tb, ht, htb⟩ := lenTab_all l.length (by omega)
  rcases hr with ⟨rfl, rfl, h1⟩ | ⟨b, cap, sp, rfl, h2, h3, h4, h5, h6⟩
  ·
    repeat' (first | refine S.nilK ?_ | (refine S.op rfl ?_; first | refine S.convU (m := 0) (by omega) rfl ?_ | refine callS rfl rfl (len_spec 0 _ (by omega) tb ht rfl _) ?_ | refine callU rfl rfl (pdq_nil _ _) (fun x => ?_) | refine R.mv rfl ?_ | refine R.len rfl ?_ | refine R.lenA rfl ?_ | refine R.lenStr rfl ?_ | refine S.convIU rfl (by omega) ?_ | refine S.convUI rfl (by omega) ?_ | refine R.convInt rfl ?_) | refine S.skip rfl ?_ | refine S.skip0 rfl ?_ | refine S.seq ?_ | refine S.region ?_ | refine S.condT rfl ?_ | refine S.condF rfl ?_ | refine RRun.skip ?_ | refine RRun.block ?_ | refine RRun.inBlock ?_ | refine RRun.exit rfl ?_)
    apply S.done rr97
    case hx => repeat (first | exact ResAt.nil | apply ResAt.tmp rfl | apply ResAt.cellA rfl (by first | assumption | exact AHeap.set_same _ _ _) (by rfl) | apply ResAt.cell1 rfl (by first | assumption | exact AHeap.set_same _ _ _) (by rfl))
    exact ⟨.inl ⟨List.eq_nil_of_length_eq_zero (by rw [srt_len]; rfl), rfl, h1⟩, fun _ _ => rfl⟩
  · have e : HL g b l sp = g := AHeap.set_eq g h2
    have hs := pdqsort_spec b cap l.length tb.toNat sp g (by omega) (by omega) l.toArray (by simp)
    rw [show l.toArray.toList = l from rfl, e] at hs
    repeat' (first | refine S.nilK ?_ | (refine S.op rfl ?_; first | refine S.convU (by omega) rfl ?_ | refine callS rfl rfl (len_spec l.length _ (by omega) tb ht rfl _) ?_ | refine R.mv rfl ?_ | refine R.len rfl ?_ | refine R.lenA rfl ?_ | refine R.lenStr rfl ?_ | refine S.convIU rfl (by omega) ?_ | refine S.convUI rfl (by omega) ?_ | refine R.convInt rfl ?_) | refine S.skip rfl ?_ | refine S.skip0 rfl ?_ | refine S.seq ?_ | refine S.region ?_ | refine S.condT rfl ?_ | refine S.condF rfl ?_ | refine RRun.skip ?_ | refine RRun.block ?_ | refine RRun.inBlock ?_ | refine RRun.exit rfl ?_)
    refine S.op rfl (R.call rfl rfl (hs.mono ?_))
    rintro x h' ⟨d', ⟨s1, s2, s3⟩, rfl⟩
    repeat' (first | refine S.nilK ?_ | (refine S.op rfl ?_; first | refine R.mv rfl ?_ | refine R.len rfl ?_ | refine R.lenA rfl ?_ | refine R.lenStr rfl ?_ | refine S.convIU rfl (by omega) ?_ | refine S.convUI rfl (by omega) ?_ | refine R.convInt rfl ?_) | refine S.skip rfl ?_ | refine S.skip0 rfl ?_ | refine S.seq ?_ | refine S.region ?_ | refine S.condT rfl ?_ | refine S.condF rfl ?_ | refine RRun.skip ?_ | refine RRun.block ?_ | refine RRun.inBlock ?_ | refine RRun.exit rfl ?_)
    apply S.done rr97
    case hx => repeat (first | exact ResAt.nil | apply ResAt.tmp rfl | apply ResAt.cellA rfl (by first | assumption | exact AHeap.set_same _ _ _) (by rfl) | apply ResAt.cell1 rfl (by first | assumption | exact AHeap.set_same _ _ _) (by rfl))
    have hq := sorted_srt (by simp) s2 s3
    rw [hq]
    refine ⟨.inr ⟨b, cap, sp, by rw [srt_len], HL_at _ _ _ _, by rw [srt_len]; exact h3, h4, fun q => h5 ?_, h6⟩, fun x hx => AHeap.set_other _ _ fun q => hx ((h6 x).2 q)⟩
    have := srt_len l
    rw [q] at this
    exact List.eq_nil_of_length_eq_zero this.symm

/-- slices.Sorted[uint64] -/
def r86 : RCode :=
  (.seq (.region [
    ⟨(some 2), none, .act, .mv (.const (.slice none 0 0))⟩])
  (.seq (.region [
    ⟨(some 4), none, .act, .mv (.tmp 0)⟩,
    ⟨(some 5), none, .act, .call 96 [(.tmp 4)]⟩,
    ⟨(some 3), none, .act, .mv (.tmp 5)⟩])
  (.seq (.region [
    ⟨(some 6), none, .act, .mv (.tmp 3)⟩,
    ⟨(some 7), none, .act, .call 97 [(.tmp 6)]⟩])
  (.seq (.region [
    ⟨(some 8), none, .act, .mv (.tmp 3)⟩,
    ⟨(some 2), none, .act, .mv (.tmp 8)⟩])
  .ret))))
theorem res86 : ∃ c, Try.f86.body = some c ∧ resCode Try.prog 9 c = some r86 := ⟨_, rfl, by kernel_rfl⟩
theorem rr86 : resRes Try.prog Try.f86.results.toList = some [.tmp 2] := by kernel_rfl
theorem sorted_spec (lst : List UInt64) (hlen : lst.length ≤ 49) (q : Nat) (h : AHeap) (hq : h q = some (.box [u64s lst])) :
    ACalls Try.prog 86 [.v (.func (.func 98) #[] #[.pointer (some ⟨q, 0, none⟩)])] h (fun x h' => ∃ B, RowG (srt lst) x B h' ∧ (∀ y o, h y = some o → h' y = some o) ∧ (∀ y, B y → h y = none)) := by
  obtain ⟨c, hc1, hc2⟩ := res86
  refine ACalls.enter Try.func86 hc1 Try.ntmps86 hc2 (Nat.le_of_ble_eq_true rfl) rfl ?_
  repeat' (first | refine S.nilK ?_ | (refine S.op rfl ?_; first | refine R.mv rfl ?_) | refine S.skip rfl ?_ | refine S.skip0 rfl ?_ | refine S.seq ?_ | refine S.region ?_ | refine S.condT rfl ?_ | refine S.condF rfl ?_ | refine RRun.skip ?_ | refine RRun.block ?_ | refine RRun.inBlock ?_ | refine RRun.exit rfl ?_)
  refine S.op rfl (R.call rfl rfl ((collect_spec lst (by omega) q h hq).mono ?_))
  rintro x h1 ⟨B, g1, g2, g3⟩
  repeat' (first | refine S.nilK ?_ | (refine S.op rfl ?_; first | refine R.mv rfl ?_) | refine S.skip rfl ?_ | refine S.skip0 rfl ?_ | refine S.seq ?_ | refine S.region ?_ | refine S.condT rfl ?_ | refine S.condF rfl ?_ | refine RRun.skip ?_ | refine RRun.block ?_ | refine RRun.inBlock ?_ | refine RRun.exit rfl ?_)
  refine S.op rfl (R.call rfl rfl ((sort_spec lst hlen x B h1 g1).mono ?_))
  rintro y h2 ⟨k1, k2⟩
  repeat' (first | refine S.nilK ?_ | (refine S.op rfl ?_; first | refine R.mv rfl ?_) | refine S.skip rfl ?_ | refine S.skip0 rfl ?_ | refine S.seq ?_ | refine S.region ?_ | refine S.condT rfl ?_ | refine S.condF rfl ?_ | refine RRun.skip ?_ | refine RRun.block ?_ | refine RRun.inBlock ?_ | refine RRun.exit rfl ?_)
  apply S.ret rr86
  case hx => repeat (first | exact ResAt.nil | apply ResAt.tmp rfl | apply ResAt.cellA rfl (by first | assumption | exact AHeap.set_same _ _ _) (by rfl) | apply ResAt.cell1 rfl (by first | assumption | exact AHeap.set_same _ _ _) (by rfl))
  exact ⟨B, k1, fun y o e => by rw [k2 y (fun hb => by rw [g3 y hb] at e; cases e)]; exact g2 y o e, g3⟩

/-! ### Compact -/

def dd : List SE → List SE
  | [] => []
  | [x] => [x]
  | x :: y :: r => if x = y then dd (y :: r) else x :: dd (y :: r)

theorem dd_snoc (x y : SE) : ∀ (a : List SE), dd (a ++ [x, y]) = dd (a ++ [x]) ++ (if x = y then [] else [y])
  | [] => by
    show dd [x, y] = dd [x] ++ _
    simp only [dd]
    split
    · rename_i h; subst h; simp
    · simp
  | [z] => by
    show dd (z :: x :: [y]) = dd (z :: [x]) ++ _
    have ih := dd_snoc x y []
    simp only [List.nil_append] at ih
    simp only [dd] at ih ⊢
    split
    · exact ih
    · rw [ih]; simp
  | z :: w :: a => by
    have ih := dd_snoc x y (w :: a)
    simp only [List.cons_append] at ih ⊢
    have e1 : dd (z :: w :: (a ++ [x, y])) = if z = w then dd (w :: (a ++ [x, y])) else z :: dd (w :: (a ++ [x, y])) := by simp only [dd]
    have e2 : dd (z :: w :: (a ++ [x])) = if z = w then dd (w :: (a ++ [x])) else z :: dd (w :: (a ++ [x])) := by simp only [dd]
    rw [e1, e2]
    split
    · exact ih
    · rw [ih]; simp

theorem dd_take {l : List SE} {j : Nat} {x y : SE} (hx : l[j]? = some x) (hy : l[j + 1]? = some y) : dd (l.take (j + 2)) = dd (l.take (j + 1)) ++ (if x = y then [] else [y]) := by
  have h1 : l.take (j + 1) = l.take j ++ [x] := by rw [List.take_add_one, hx]; rfl
  have h2 : l.take (j + 2) = l.take j ++ [x, y] := by rw [List.take_add_one, hy, h1]; simp
  rw [h2, h1]; exact dd_snoc x y _

theorem dd_len : ∀ (l : List SE), (dd l).length ≤ l.length
  | [] => Nat.le_refl _
  | [x] => Nat.le_refl _
  | x :: y :: r => by
    have := dd_len (y :: r)
    simp only [dd]
    split
    · simp at this ⊢; omega
    · simp at this ⊢; omega

theorem dd_one {l : List SE} (h : l.length < 2) : dd l = l := by
  match l, h with
  | [], _ => rfl
  | [x], _ => rfl


theorem S.ldL {P : Program} {c : Cls} {E : AEnv} {h : AHeap} {K : AV → AHeap → Prop} {b : Nat} {sp : List AV} {x : Operand} {l : List SE} {n : Nat} {v : SE} (hc : c ≠ .pure) (hx : aev E x = some (ptrAt b n)) (hv : l[n]? = some v) (hk : K (enc v) (HL h b l sp)) : ROpS P c (.load false 1 x) E (HL h b l sp) K := by
  have hn : n < l.length := (List.getElem?_eq_some_iff.1 hv).1
  have e : l.toArray[n]! = v := by
    rw [getElem!_pos l.toArray n (by simpa using hn)]
    simpa [List.getElem?_eq_getElem hn] using hv
  have := S.ldE (P := P) (c := c) (E := E) (h := h) (K := K) (b := b) (sp := sp) (x := x) (d := l.toArray) (n := n) hc hx (by simpa using hn)
  rw [e] at this
  exact this hk
theorem S.ixO {P : Program} {c : Cls} {E : AEnv} {h : AHeap} {K : AV → AHeap → Prop} {x i : Operand} {b off len cap n : Nat} (hx : aev E x = some (slAt b off len cap)) (hi : aev E i = some (i64 ((n : Nat) : Int))) (hn : n < len) (hk : K (ptrAt b (off + n)) h) : ROpS P c (.indexAddr 1 x i) E h K :=
  R.indexAddrV hx hi (by omega) (by omega) (by
    have e : off + ((n : Nat) : Int).toNat * 1 = off + n := by omega
    rw [e]; exact hk)

def r85l1 : RCode :=
  (.seq (.seq (.region [
    ⟨(some 29), none, .act, .mv (.tmp 5)⟩,
    ⟨(some 30), none, .act, .mv (.tmp 4)⟩,
    ⟨(some 31), none, .act, .len (.tmp 30)⟩,
    ⟨(some 32), none, .act, .bin .lss (.tmp 29) (.tmp 31)⟩])
  (.cond (.tmp 32)
   .skip
   (.exit 2)))
  (.seq (.block 3
   (.seq (.region [
     ⟨(some 35), none, .pure, .mv (.tmp 4)⟩,
     ⟨(some 36), none, .pure, .mv (.tmp 5)⟩,
     ⟨(some 37), none, .pure, .indexAddr 1 (.tmp 35) (.tmp 36)⟩,
     ⟨(some 38), none, .read, .load false 1 (.tmp 37)⟩,
     ⟨(some 39), none, .pure, .mv (.tmp 4)⟩,
     ⟨(some 40), none, .pure, .mv (.tmp 5)⟩,
     ⟨(some 41), none, .pure, .bin .sub (.tmp 40) (.const (.int .i64 1))⟩,
     ⟨(some 42), none, .pure, .indexAddr 1 (.tmp 39) (.tmp 41)⟩,
     ⟨(some 43), none, .read, .load false 1 (.tmp 42)⟩,
     ⟨(some 44), none, .pure, .eq true .int (.tmp 38) (.tmp 43)⟩])
   (.cond (.tmp 44)
    (.seq (.region [
      ⟨(some 45), none, .act, .mv (.tmp 0)⟩,
      ⟨(some 46), none, .act, .mv (.tmp 3)⟩,
      ⟨(some 47), none, .act, .mv (.tmp 4)⟩,
      ⟨(some 48), none, .act, .mv (.tmp 5)⟩,
      ⟨(some 49), none, .act, .indexAddr 1 (.tmp 47) (.tmp 48)⟩,
      ⟨(some 50), none, .act, .load false 1 (.tmp 49)⟩,
      ⟨(some 51), none, .act, .indexAddr 1 (.tmp 45) (.tmp 46)⟩,
      ⟨none, none, .act, .store 1 (.tmp 51) (.tmp 50)⟩])
    (.region [
      ⟨(some 52), none, .act, .mv (.tmp 3)⟩,
      ⟨(some 53), none, .act, .bin .add (.tmp 52) (.const (.int .i64 1))⟩,
      ⟨(some 3), none, .act, .mv (.tmp 53)⟩]))
    .skip)))
  (.region [
    ⟨(some 33), none, .act, .mv (.tmp 5)⟩,
    ⟨(some 34), none, .act, .bin .add (.tmp 33) (.const (.int .i64 1))⟩,
    ⟨(some 5), none, .act, .mv (.tmp 34)⟩])))
def r85l0 : RCode :=
  (.seq (.seq (.region [
    ⟨(some 10), none, .act, .mv (.tmp 3)⟩,
    ⟨(some 11), none, .act, .mv (.tmp 0)⟩,
    ⟨(some 12), none, .act, .len (.tmp 11)⟩,
    ⟨(some 13), none, .act, .bin .lss (.tmp 10) (.tmp 12)⟩])
  (.cond (.tmp 13)
   .skip
   (.exit 0)))
  (.seq (.block 1
   (.seq (.region [
     ⟨(some 16), none, .pure, .mv (.tmp 0)⟩,
     ⟨(some 17), none, .pure, .mv (.tmp 3)⟩,
     ⟨(some 18), none, .pure, .indexAddr 1 (.tmp 16) (.tmp 17)⟩,
     ⟨(some 19), none, .read, .load false 1 (.tmp 18)⟩,
     ⟨(some 20), none, .pure, .mv (.tmp 0)⟩,
     ⟨(some 21), none, .pure, .mv (.tmp 3)⟩,
     ⟨(some 22), none, .pure, .bin .sub (.tmp 21) (.const (.int .i64 1))⟩,
     ⟨(some 23), none, .pure, .indexAddr 1 (.tmp 20) (.tmp 22)⟩,
     ⟨(some 24), none, .read, .load false 1 (.tmp 23)⟩,
     ⟨(some 25), none, .pure, .eq false .int (.tmp 19) (.tmp 24)⟩])
   (.cond (.tmp 25)
    (.seq (.region [
      ⟨(some 26), none, .act, .mv (.tmp 0)⟩,
      ⟨(some 27), none, .act, .mv (.tmp 3)⟩,
      ⟨(some 28), none, .act, .sliceSl 1 (.tmp 26) (some (.tmp 27)) none none⟩,
      ⟨(some 4), none, .act, .mv (.tmp 28)⟩])
    (.seq (.seq (.region [
      ⟨(some 5), none, .act, .mv (.const (.int .i64 1))⟩])
    (.block 2
     (.loop r85l1)))
    (.seq (.region [
      ⟨(some 54), none, .act, .mv (.tmp 0)⟩,
      ⟨(some 55), none, .act, .mv (.tmp 3)⟩,
      ⟨(some 56), none, .act, .sliceSl 1 (.tmp 54) (some (.tmp 55)) none none⟩,
      ⟨none, none, .act, .clearSl 1 [(.int .u64 0)] (.tmp 56)⟩])
    (.seq (.region [
      ⟨(some 57), none, .act, .mv (.tmp 0)⟩,
      ⟨(some 58), none, .act, .mv (.tmp 3)⟩,
      ⟨(some 59), none, .act, .sliceSl 1 (.tmp 57) none (some (.tmp 58)) none⟩,
      ⟨(some 2), none, .act, .mv (.tmp 59)⟩])
    .ret))))
    .skip)))
  (.region [
    ⟨(some 14), none, .act, .mv (.tmp 3)⟩,
    ⟨(some 15), none, .act, .bin .add (.tmp 14) (.const (.int .i64 1))⟩,
    ⟨(some 3), none, .act, .mv (.tmp 15)⟩])))
/-- slices.Compact[[]uint64,uint64] -/
def r85 : RCode :=
  (.seq (.region [
    ⟨(some 2), none, .act, .mv (.const (.slice none 0 0))⟩])
  (.seq (.seq (.region [
    ⟨(some 6), none, .act, .mv (.tmp 0)⟩,
    ⟨(some 7), none, .act, .len (.tmp 6)⟩,
    ⟨(some 8), none, .act, .bin .lss (.tmp 7) (.const (.int .i64 2))⟩])
  (.cond (.tmp 8)
   (.seq (.region [
     ⟨(some 9), none, .act, .mv (.tmp 0)⟩,
     ⟨(some 2), none, .act, .mv (.tmp 9)⟩])
   .ret)
   .skip))
  (.seq (.seq (.region [
    ⟨(some 3), none, .act, .mv (.const (.int .i64 1))⟩])
  (.block 0
   (.loop r85l0)))
  (.seq (.region [
    ⟨(some 60), none, .act, .mv (.tmp 0)⟩,
    ⟨(some 2), none, .act, .mv (.tmp 60)⟩])
  .ret))))
theorem res85 : ∃ c, Try.f85.body = some c ∧ resCode Try.prog 61 c = some r85 := ⟨_, rfl, by kernel_rfl⟩
theorem rr85 : resRes Try.prog Try.f85.results.toList = some [.tmp 2] := by kernel_rfl

theorem compact_inner (b cap n i0 : Nat) (l : List SE) (hln : l.length = n) (hn : n ≤ 1000000) (hi0 : 1 ≤ i0) (hi1 : i0 < n) (sp : List AV) (h : AHeap) (k : List RT) (Q : AV → AHeap → Prop)
    (hk : ∀ c : List SE, c.length = n → (dd l).length ≤ n → c.take (dd l).length = dd l → RRun Try.prog Try.f85 61 k (Env.get [(0, slAt b 0 n cap), (3, i64 ((dd l).length : Nat))]) (HL h b c sp) Q) : ∀ (m k2 i : Nat) (c : List SE), i0 + k2 + m = n → 1 ≤ k2 → c.length = n → i + 1 ≤ i0 + k2 → i = (dd (l.take (i0 + k2))).length → c.take i = dd (l.take (i0 + k2)) → (∀ j, i0 + k2 ≤ j + 1 → c[j]? = l[j]?) →
    RRun Try.prog Try.f85 61 (.inLoop r85l1 :: .inBlock 2 :: k) (Env.get [(0, slAt b 0 n cap), (3, i64 i), (4, slAt b i0 (n - i0) (cap - i0)), (5, i64 k2)]) (HL h b c sp) Q := by
  intro m
  induction m with
  | zero =>
    intro k2 i c hm h1 hc hik hi ht hj
    have e : l.take (i0 + k2) = l := List.take_of_length_le (by omega)
    rw [e] at hi ht
    refine RRun.inLoop ?_
    repeat' (first | refine S.nilK ?_ | (refine S.op rfl ?_; first | refine S.addNN (n := 1) rfl rfl (by omega) ?_ | refine S.addNN rfl rfl (by omega) ?_ | refine S.subNN (n := 1) rfl rfl (by omega) (by omega) ?_ | refine S.subNN rfl rfl (by omega) (by omega) ?_ | refine S.ix rfl rfl (by omega) ?_ | refine R.mv rfl ?_ | refine R.loadR rfl rfl ?_ | refine R.load (by decide) rfl (by first | assumption | exact AHeap.set_same _ _ _) rfl ?_ | refine S.addI rfl rfl (by omega) ?_ | refine S.subI rfl rfl (by omega) ?_ | refine S.addU rfl rfl ?_ | refine S.subU rfl rfl ?_ | refine S.addUc rfl (by decide) ?_ | refine S.subUc rfl (by decide) ?_ | refine R.len rfl ?_ | refine R.lenA rfl ?_ | refine R.lenStr rfl ?_ | refine R.eqPtrNil rfl rfl ?_ | ((first | refine S.lss rfl rfl ?_ ?_ | refine S.eqInt rfl rfl ?_ ?_) <;> intro hlt <;> try (exfalso; omega))) | (refine S.op0 rfl ?_; first | refine S.storeS rfl rfl rfl (by rfl) rfl (by first | decide | exact Nat.le_refl _ | exact Nat.le_of_ble_eq_true rfl) ?_ | refine S.store rfl rfl (by first | assumption | exact AHeap.set_same _ _ _) rfl rfl rfl (by rfl) rfl ?_) | refine S.skip rfl ?_ | refine S.skip0 rfl ?_ | refine S.seq ?_ | refine S.region ?_ | refine S.condT rfl ?_ | refine S.condF rfl ?_ | refine RRun.skip ?_ | refine RRun.block ?_ | refine RRun.inBlock ?_ | refine RRun.exit rfl ?_)
    subst hi
    exact S.keep [0, 3] rfl (hk c hc (by omega) ht)
  | succ m ih =>
    intro k2 i c hm h1 hc hik hi ht hj
    obtain ⟨x, hx⟩ : ∃ x, l[i0 + k2 - 1]? = some x := ⟨_, List.getElem?_eq_getElem (by omega)⟩
    obtain ⟨y, hy⟩ : ∃ y, l[i0 + k2]? = some y := ⟨_, List.getElem?_eq_getElem (by omega)⟩
    have hcx : c[i0 + (k2 - 1)]? = some x := by rw [hj _ (by omega), show i0 + (k2 - 1) = i0 + k2 - 1 by omega]; exact hx
    have hcy : c[i0 + k2]? = some y := by rw [hj _ (by omega)]; exact hy
    have hd := dd_take (l := l) (j := i0 + k2 - 1) hx (by rw [show i0 + k2 - 1 + 1 = i0 + k2 by omega]; exact hy)
    rw [show i0 + k2 - 1 + 2 = i0 + (k2 + 1) by omega, show i0 + k2 - 1 + 1 = i0 + k2 by omega] at hd
    by_cases hxy : x = y
    · subst hxy
      rw [if_pos rfl, List.append_nil] at hd
      refine RRun.inLoop ?_
      repeat' (first | refine S.nilK ?_ | (refine S.op rfl ?_; first | refine S.addNN (n := 1) rfl rfl (by omega) ?_ | refine S.addNN rfl rfl (by omega) ?_ | refine S.subNN (n := 1) rfl rfl (by omega) (by omega) ?_ | refine S.subNN rfl rfl (by omega) (by omega) ?_ | refine S.ix rfl rfl (by omega) ?_ | refine S.ixO rfl rfl (by omega) ?_ | refine S.ldL (by decide) rfl hcy ?_ | refine S.ldL (by decide) rfl hcx ?_ | refine S.eqIntSame rfl rfl ?_ | refine R.mv rfl ?_ | refine R.loadR rfl rfl ?_ | refine R.load (by decide) rfl (by first | assumption | exact AHeap.set_same _ _ _) rfl ?_ | refine S.addI rfl rfl (by omega) ?_ | refine S.subI rfl rfl (by omega) ?_ | refine S.addU rfl rfl ?_ | refine S.subU rfl rfl ?_ | refine S.addUc rfl (by decide) ?_ | refine S.subUc rfl (by decide) ?_ | refine R.len rfl ?_ | refine R.lenA rfl ?_ | refine R.lenStr rfl ?_ | refine R.eqPtrNil rfl rfl ?_ | ((first | refine S.lss rfl rfl ?_ ?_ | refine S.eqInt rfl rfl ?_ ?_) <;> intro hlt <;> try (exfalso; omega))) | (refine S.op0 rfl ?_; first | refine S.storeS rfl rfl rfl (by rfl) rfl (by first | decide | exact Nat.le_refl _ | exact Nat.le_of_ble_eq_true rfl) ?_ | refine S.store rfl rfl (by first | assumption | exact AHeap.set_same _ _ _) rfl rfl rfl (by rfl) rfl ?_) | refine S.skip rfl ?_ | refine S.skip0 rfl ?_ | refine S.seq ?_ | refine S.region ?_ | refine S.condT rfl ?_ | refine S.condF rfl ?_ | refine RRun.skip ?_ | refine RRun.block ?_ | refine RRun.inBlock ?_ | refine RRun.exit rfl ?_)
      exact S.keep [0, 3, 4, 5] rfl (ih (k2 + 1) i c (by omega) (by omega) hc (by omega) (by rw [hd]; exact hi) (by rw [hd]; exact ht) (fun j hj' => hj j (by omega)))
    · rw [if_neg hxy] at hd
      have hne : y.toNat ≠ x.toNat := fun e => hxy (UInt64.toNat_inj.1 e).symm
      refine RRun.inLoop ?_
      repeat' (first | (refine S.op0 rfl (S.stE rfl rfl rfl (by omega) ?_)) | refine S.nilK ?_ | (refine S.op rfl ?_; first | refine S.addNN (n := 1) rfl rfl (by omega) ?_ | refine S.addNN rfl rfl (by omega) ?_ | refine S.subNN (n := 1) rfl rfl (by omega) (by omega) ?_ | refine S.subNN rfl rfl (by omega) (by omega) ?_ | refine S.ix rfl rfl (by omega) ?_ | refine S.ixO rfl rfl (by omega) ?_ | refine S.ldL (by decide) rfl hcy ?_ | refine S.ldL (by decide) rfl hcx ?_ | refine R.mv rfl ?_ | refine R.loadR rfl rfl ?_ | refine R.load (by decide) rfl (by first | assumption | exact AHeap.set_same _ _ _) rfl ?_ | refine S.addI rfl rfl (by omega) ?_ | refine S.subI rfl rfl (by omega) ?_ | refine S.addU rfl rfl ?_ | refine S.subU rfl rfl ?_ | refine S.addUc rfl (by decide) ?_ | refine S.subUc rfl (by decide) ?_ | refine R.len rfl ?_ | refine R.lenA rfl ?_ | refine R.lenStr rfl ?_ | refine R.eqPtrNil rfl rfl ?_ | ((first | refine S.lss rfl rfl ?_ ?_ | refine S.eqInt rfl rfl ?_ ?_) <;> intro hlt <;> try (exfalso; omega))) | (refine S.op0 rfl ?_; first | refine S.storeS rfl rfl rfl (by rfl) rfl (by first | decide | exact Nat.le_refl _ | exact Nat.le_of_ble_eq_true rfl) ?_ | refine S.store rfl rfl (by first | assumption | exact AHeap.set_same _ _ _) rfl rfl rfl (by rfl) rfl ?_) | refine S.skip rfl ?_ | refine S.skip0 rfl ?_ | refine S.seq ?_ | refine S.region ?_ | refine S.condT rfl ?_ | refine S.condF rfl ?_ | refine RRun.skip ?_ | refine RRun.block ?_ | refine RRun.inBlock ?_ | refine RRun.exit rfl ?_)
      refine S.keep [0, 3, 4, 5] rfl (ih (k2 + 1) (i + 1) _ (by omega) (by omega) (by simpa using hc) (by omega) (by rw [hd, List.length_append, ← hi]; rfl) ?_ (fun j hj' => ?_))
      · rw [hd, ← ht, List.take_add_one, List.take_set, List.getElem?_set_self (by omega)]
        rw [List.set_eq_of_length_le (by simp only [List.length_take]; omega)]; rfl
      · rw [List.getElem?_set_ne (by omega)]; exact hj j (by omega)

theorem S.tailU {P : Program} {c : Cls} {E : AEnv} {h : AHeap} {K : AV → AHeap → Prop} {x lo : Operand} {b len cap n : Nat} (hx : aev E x = some (slAt b 0 len cap)) (hlo : aev E lo = some (i64 ((n : Nat) : Int))) (h1 : n < len) (h2 : len ≤ cap) (hk : K (slAt b n (len - n) (cap - n)) h) : ROpS P c (.sliceSl 1 x (some lo) none none) E h K := by
  refine S.sliceVL hx hlo (by omega) (by omega) h2 ?_
  have e : ((n : Nat) : Int).toNat = n := by omega
  rw [e, if_neg (by omega), Nat.zero_add, Nat.mul_one]; exact hk
theorem S.headU {P : Program} {c : Cls} {E : AEnv} {h : AHeap} {K : AV → AHeap → Prop} {x hi : Operand} {b len cap n : Nat} (hx : aev E x = some (slAt b 0 len cap)) (hhi : aev E hi = some (i64 ((n : Nat) : Int))) (h1 : n ≤ cap) (hk : K (slAt b 0 n cap) h) : ROpS P c (.sliceSl 1 x none (some hi) none) E h K := by
  refine S.sliceVH hx hhi (by omega) (by omega) ?_
  have e : ((n : Nat) : Int).toNat = n := by omega
  rw [e]; exact hk

theorem dd_ne {l : List SE} (h : l ≠ []) : dd l ≠ [] := by
  match l, h with
  | [x], _ => simp [dd]
  | x :: y :: r, _ =>
    simp only [dd]
    split
    · exact dd_ne (by simp)
    · simp

theorem dd_short {l : List SE} : ∀ (m j : Nat), j + m ≤ l.length → 1 ≤ j → (dd (l.take j)).length < j → (dd (l.take (j + m))).length < j + m
  | 0, j, _, _, h => h
  | m + 1, j, hj, h1, h => by
    obtain ⟨x, hx⟩ : ∃ x, l[j - 1]? = some x := ⟨_, List.getElem?_eq_getElem (by omega)⟩
    obtain ⟨y, hy⟩ : ∃ y, l[j]? = some y := ⟨_, List.getElem?_eq_getElem (by omega)⟩
    have hdt := dd_take (l := l) (j := j - 1) hx (by rw [show j - 1 + 1 = j by omega]; exact hy)
    rw [show j - 1 + 2 = j + 1 by omega, show j - 1 + 1 = j by omega] at hdt
    have := dd_short (l := l) m (j + 1) (by omega) (by omega) (by
      rw [hdt, List.length_append]
      split <;> simp <;> omega)
    rw [show j + (m + 1) = j + 1 + m by omega]; exact this

theorem over_clear {c dl : List SE} {sp : List AV} {n : Nat} (hc : c.length = n) (hl : dl.length ≤ n) (ht : c.take dl.length = dl) : over (c.map enc ++ sp) dl.length (List.replicate ((n - dl.length) * 1) .any) = dl.map enc ++ (List.replicate ((n - dl.length) * 1) .any ++ sp) := by
  unfold over
  have h1 : (c.map enc ++ sp).take dl.length = dl.map enc := by
    rw [List.take_append_of_le_length (by simp; omega), ← List.map_take, ht]
  have h2 : (c.map enc ++ sp).drop (dl.length + (List.replicate ((n - dl.length) * 1) AV.any).length) = sp := by
    rw [List.length_replicate, show dl.length + (n - dl.length) * 1 = (c.map enc).length by simp; omega, List.drop_left]
  rw [h1, h2, List.append_assoc]

theorem compact_outer (b cap n : Nat) (l : List SE) (hln : l.length = n) (hn : n ≤ 1000000) (hcap : n ≤ cap) (sp : List AV) (h : AHeap) (k : List RT) (Q : AV → AHeap → Prop)
    (hQ : ∀ (c' : List SE) (sp' : List AV), c' = dd l → c'.length + sp'.length = n + sp.length → Q (slAt b 0 c'.length cap) (HL h b c' sp'))
    (hk : dd l = l → RRun Try.prog Try.f85 61 k (Env.get [(0, slAt b 0 n cap)]) (HL h b l sp) Q) : ∀ (m i : Nat), i + m = n → 1 ≤ i → dd (l.take i) = l.take i →
    RRun Try.prog Try.f85 61 (.inLoop r85l0 :: .inBlock 0 :: k) (Env.get [(0, slAt b 0 n cap), (3, i64 i)]) (HL h b l sp) Q := by
  intro m
  induction m with
  | zero =>
    intro i hm h1 hd
    refine RRun.inLoop ?_
    repeat' (first | refine S.nilK ?_ | (refine S.op rfl ?_; first | refine S.addNN (n := 1) rfl rfl (by omega) ?_ | refine S.addNN rfl rfl (by omega) ?_ | refine S.subNN (n := 1) rfl rfl (by omega) (by omega) ?_ | refine S.subNN rfl rfl (by omega) (by omega) ?_ | refine S.ix rfl rfl (by omega) ?_ | refine R.mv rfl ?_ | refine R.loadR rfl rfl ?_ | refine R.load (by decide) rfl (by first | assumption | exact AHeap.set_same _ _ _) rfl ?_ | refine S.addI rfl rfl (by omega) ?_ | refine S.subI rfl rfl (by omega) ?_ | refine S.addU rfl rfl ?_ | refine S.subU rfl rfl ?_ | refine S.addUc rfl (by decide) ?_ | refine S.subUc rfl (by decide) ?_ | refine R.len rfl ?_ | refine R.lenA rfl ?_ | refine R.lenStr rfl ?_ | refine R.eqPtrNil rfl rfl ?_ | ((first | refine S.lss rfl rfl ?_ ?_ | refine S.eqInt rfl rfl ?_ ?_) <;> intro hlt <;> try (exfalso; omega))) | (refine S.op0 rfl ?_; first | refine S.storeS rfl rfl rfl (by rfl) rfl (by first | decide | exact Nat.le_refl _ | exact Nat.le_of_ble_eq_true rfl) ?_ | refine S.store rfl rfl (by first | assumption | exact AHeap.set_same _ _ _) rfl rfl rfl (by rfl) rfl ?_) | refine S.skip rfl ?_ | refine S.skip0 rfl ?_ | refine S.seq ?_ | refine S.region ?_ | refine S.condT rfl ?_ | refine S.condF rfl ?_ | refine RRun.skip ?_ | refine RRun.block ?_ | refine RRun.inBlock ?_ | refine RRun.exit rfl ?_)
    rw [List.take_of_length_le (by omega)] at hd
    exact S.keep [0] rfl (hk hd)
  | succ m ih =>
    intro i hm h1 hd
    obtain ⟨x, hx⟩ : ∃ x, l[i - 1]? = some x := ⟨_, List.getElem?_eq_getElem (by omega)⟩
    obtain ⟨y, hy⟩ : ∃ y, l[i]? = some y := ⟨_, List.getElem?_eq_getElem (by omega)⟩
    have hdt := dd_take (l := l) (j := i - 1) hx (by rw [show i - 1 + 1 = i by omega]; exact hy)
    rw [show i - 1 + 2 = i + 1 by omega, show i - 1 + 1 = i by omega] at hdt
    have htl : (l.take i).length = i := by simp; omega
    by_cases hxy : x = y
    · subst hxy
      rw [if_pos rfl, List.append_nil, hd] at hdt
      refine RRun.inLoop ?_
      repeat' (first | refine S.nilK ?_ | (refine S.op rfl ?_; first | refine S.addNN (n := 1) rfl rfl (by omega) ?_ | refine S.addNN rfl rfl (by omega) ?_ | refine S.subNN (n := 1) rfl rfl (by omega) (by omega) ?_ | refine S.subNN rfl rfl (by omega) (by omega) ?_ | refine S.ix rfl rfl (by omega) ?_ | refine S.ldL (by decide) rfl hy ?_ | refine S.ldL (by decide) rfl hx ?_ | refine S.eqIntSame rfl rfl ?_ | refine S.tailU rfl rfl (by omega) hcap ?_ | refine R.mv rfl ?_ | refine R.loadR rfl rfl ?_ | refine R.load (by decide) rfl (by first | assumption | exact AHeap.set_same _ _ _) rfl ?_ | refine S.addI rfl rfl (by omega) ?_ | refine S.subI rfl rfl (by omega) ?_ | refine S.addU rfl rfl ?_ | refine S.subU rfl rfl ?_ | refine S.addUc rfl (by decide) ?_ | refine S.subUc rfl (by decide) ?_ | refine R.len rfl ?_ | refine R.lenA rfl ?_ | refine R.lenStr rfl ?_ | refine R.eqPtrNil rfl rfl ?_ | ((first | refine S.lss rfl rfl ?_ ?_ | refine S.eqInt rfl rfl ?_ ?_) <;> intro hlt <;> try (exfalso; omega))) | (refine S.op0 rfl ?_; first | refine S.storeS rfl rfl rfl (by rfl) rfl (by first | decide | exact Nat.le_refl _ | exact Nat.le_of_ble_eq_true rfl) ?_ | refine S.store rfl rfl (by first | assumption | exact AHeap.set_same _ _ _) rfl rfl rfl (by rfl) rfl ?_) | refine S.skip rfl ?_ | refine S.skip0 rfl ?_ | refine S.seq ?_ | refine S.region ?_ | refine S.condT rfl ?_ | refine S.condF rfl ?_ | refine RRun.skip ?_ | refine RRun.block ?_ | refine RRun.inBlock ?_ | refine RRun.exit rfl ?_)
      refine RRun.loopIn (S.keep [0, 3, 4, 5] (l' := [(0, slAt b 0 n cap), (3, i64 i), (4, slAt b i (n - i) (cap - i)), (5, i64 (1 : Nat))]) rfl ?_)
      refine compact_inner b cap n i l hln hn h1 (by omega) sp h _ _ (fun c hc hdn hct => ?_) (n - (i + 1)) 1 i l (by omega) (by omega) hln (by omega) (by rw [hdt]; exact htl.symm) (by rw [hdt]) (fun j _ => rfl)
      have hlt : (dd l).length < n := by
        have e1 := dd_short (l := l) (n - (i + 1)) (i + 1) (by omega) (by omega) (by rw [hdt, htl]; omega)
        rw [show i + 1 + (n - (i + 1)) = n by omega, List.take_of_length_le (by omega)] at e1
        exact e1
      repeat' (first | refine S.nilK ?_ | (refine S.op rfl ?_; first | refine S.tailU rfl rfl hlt hcap ?_ | refine R.mv rfl ?_ | refine R.loadR rfl rfl ?_ | refine R.load (by decide) rfl (by first | assumption | exact AHeap.set_same _ _ _) rfl ?_ | refine S.addI rfl rfl (by omega) ?_ | refine S.subI rfl rfl (by omega) ?_ | refine S.addU rfl rfl ?_ | refine S.subU rfl rfl ?_ | refine S.addUc rfl (by decide) ?_ | refine S.subUc rfl (by decide) ?_ | refine R.len rfl ?_ | refine R.lenA rfl ?_ | refine R.lenStr rfl ?_ | refine R.eqPtrNil rfl rfl ?_ | ((first | refine S.lss rfl rfl ?_ ?_ | refine S.eqInt rfl rfl ?_ ?_) <;> intro hlt <;> try (exfalso; omega))) | (refine S.op0 rfl ?_; first | refine S.storeS rfl rfl rfl (by rfl) rfl (by first | decide | exact Nat.le_refl _ | exact Nat.le_of_ble_eq_true rfl) ?_ | refine S.store rfl rfl (by first | assumption | exact AHeap.set_same _ _ _) rfl rfl rfl (by rfl) rfl ?_) | refine S.skip rfl ?_ | refine S.skip0 rfl ?_ | refine S.seq ?_ | refine S.region ?_ | refine S.condT rfl ?_ | refine S.condF rfl ?_ | refine RRun.skip ?_ | refine RRun.block ?_ | refine RRun.inBlock ?_ | refine RRun.exit rfl ?_)
      refine S.op0 rfl (R.clearOwn rfl rfl (by omega) (HL_at _ _ _ _) (by simp; omega) (by decide) ?_)
      repeat' (first | refine S.nilK ?_ | (refine S.op rfl ?_; first | refine S.headU rfl rfl (by omega) ?_ | refine R.mv rfl ?_ | refine R.loadR rfl rfl ?_ | refine R.load (by decide) rfl (by first | assumption | exact AHeap.set_same _ _ _) rfl ?_ | refine S.addI rfl rfl (by omega) ?_ | refine S.subI rfl rfl (by omega) ?_ | refine S.addU rfl rfl ?_ | refine S.subU rfl rfl ?_ | refine S.addUc rfl (by decide) ?_ | refine S.subUc rfl (by decide) ?_ | refine R.len rfl ?_ | refine R.lenA rfl ?_ | refine R.lenStr rfl ?_ | refine R.eqPtrNil rfl rfl ?_ | ((first | refine S.lss rfl rfl ?_ ?_ | refine S.eqInt rfl rfl ?_ ?_) <;> intro hlt <;> try (exfalso; omega))) | (refine S.op0 rfl ?_; first | refine S.storeS rfl rfl rfl (by rfl) rfl (by first | decide | exact Nat.le_refl _ | exact Nat.le_of_ble_eq_true rfl) ?_ | refine S.store rfl rfl (by first | assumption | exact AHeap.set_same _ _ _) rfl rfl rfl (by rfl) rfl ?_) | refine S.skip rfl ?_ | refine S.skip0 rfl ?_ | refine S.seq ?_ | refine S.region ?_ | refine S.condT rfl ?_ | refine S.condF rfl ?_ | refine RRun.skip ?_ | refine RRun.block ?_ | refine RRun.inBlock ?_ | refine RRun.exit rfl ?_)
      apply S.ret rr85
      case hx => repeat (first | exact ResAt.nil | apply ResAt.tmp rfl | apply ResAt.cellA rfl (by first | assumption | exact AHeap.set_same _ _ _) (by rfl) | apply ResAt.cell1 rfl (by first | assumption | exact AHeap.set_same _ _ _) (by rfl))
      rw [over_clear hc hdn hct]
      have e2 : (HL h b c sp).set b (.box ((dd l).map enc ++ (List.replicate ((n - (dd l).length) * 1) .any ++ sp))) = HL h b (dd l) (List.replicate ((n - (dd l).length) * 1) .any ++ sp) := AHeap.set_set _ _ _ _
      rw [e2]
      exact hQ (dd l) (List.replicate ((n - (dd l).length) * 1) .any ++ sp) rfl (by simp; omega)
    · rw [if_neg hxy, hd] at hdt
      have hne : y.toNat ≠ x.toNat := fun e => hxy (UInt64.toNat_inj.1 e).symm
      refine RRun.inLoop ?_
      repeat' (first | refine S.nilK ?_ | (refine S.op rfl ?_; first | refine S.addNN (n := 1) rfl rfl (by omega) ?_ | refine S.addNN rfl rfl (by omega) ?_ | refine S.subNN (n := 1) rfl rfl (by omega) (by omega) ?_ | refine S.subNN rfl rfl (by omega) (by omega) ?_ | refine S.ix rfl rfl (by omega) ?_ | refine S.ldL (by decide) rfl hy ?_ | refine S.ldL (by decide) rfl hx ?_ | refine R.mv rfl ?_ | refine R.loadR rfl rfl ?_ | refine R.load (by decide) rfl (by first | assumption | exact AHeap.set_same _ _ _) rfl ?_ | refine S.addI rfl rfl (by omega) ?_ | refine S.subI rfl rfl (by omega) ?_ | refine S.addU rfl rfl ?_ | refine S.subU rfl rfl ?_ | refine S.addUc rfl (by decide) ?_ | refine S.subUc rfl (by decide) ?_ | refine R.len rfl ?_ | refine R.lenA rfl ?_ | refine R.lenStr rfl ?_ | refine R.eqPtrNil rfl rfl ?_ | ((first | refine S.lss rfl rfl ?_ ?_ | refine S.eqInt rfl rfl ?_ ?_) <;> intro hlt <;> try (exfalso; omega))) | (refine S.op0 rfl ?_; first | refine S.storeS rfl rfl rfl (by rfl) rfl (by first | decide | exact Nat.le_refl _ | exact Nat.le_of_ble_eq_true rfl) ?_ | refine S.store rfl rfl (by first | assumption | exact AHeap.set_same _ _ _) rfl rfl rfl (by rfl) rfl ?_) | refine S.skip rfl ?_ | refine S.skip0 rfl ?_ | refine S.seq ?_ | refine S.region ?_ | refine S.condT rfl ?_ | refine S.condF rfl ?_ | refine RRun.skip ?_ | refine RRun.block ?_ | refine RRun.inBlock ?_ | refine RRun.exit rfl ?_)
      exact S.keep [0, 3] rfl (ih (i + 1) (by omega) (by omega) (by rw [hdt, List.take_add_one, hy]; rfl))

theorem compact_spec (l : List SE) (hl : l.length ≤ 1000000) (d : AV) (B : Nat → Prop) (g : AHeap) (hr : RowG l d B g) :
    ACalls Try.prog 85 [d] g (fun x h' => RowG (dd l) x B h' ∧ ∀ y, ¬ B y → h' y = g y) := by
  obtain ⟨c, hc1, hc2⟩ := res85
  refine ACalls.enter Try.func85 hc1 Try.ntmps85 hc2 (Nat.le_of_ble_eq_true rfl) rfl ?_
  rcases hr with ⟨rfl, rfl, h1⟩ | ⟨b, cap, sp, rfl, h2, h3, h4, h5, h6⟩
  ·
    repeat' (first | refine S.nilK ?_ | (refine S.op rfl ?_; first | refine R.mv rfl ?_ | refine R.loadR rfl rfl ?_ | refine R.load (by decide) rfl (by first | assumption | exact AHeap.set_same _ _ _) rfl ?_ | refine S.addI rfl rfl (by omega) ?_ | refine S.subI rfl rfl (by omega) ?_ | refine S.addU rfl rfl ?_ | refine S.subU rfl rfl ?_ | refine S.addUc rfl (by decide) ?_ | refine S.subUc rfl (by decide) ?_ | refine R.len rfl ?_ | refine R.lenA rfl ?_ | refine R.lenStr rfl ?_ | refine R.eqPtrNil rfl rfl ?_ | ((first | refine S.lss rfl rfl ?_ ?_ | refine S.eqInt rfl rfl ?_ ?_) <;> intro hlt <;> try (exfalso; omega))) | (refine S.op0 rfl ?_; first | refine S.storeS rfl rfl rfl (by rfl) rfl (by first | decide | exact Nat.le_refl _ | exact Nat.le_of_ble_eq_true rfl) ?_ | refine S.store rfl rfl (by first | assumption | exact AHeap.set_same _ _ _) rfl rfl rfl (by rfl) rfl ?_) | refine S.skip rfl ?_ | refine S.skip0 rfl ?_ | refine S.seq ?_ | refine S.region ?_ | refine S.condT rfl ?_ | refine S.condF rfl ?_ | refine RRun.skip ?_ | refine RRun.block ?_ | refine RRun.inBlock ?_ | refine RRun.exit rfl ?_)
    apply S.ret rr85
    case hx => repeat (first | exact ResAt.nil | apply ResAt.tmp rfl | apply ResAt.cellA rfl (by first | assumption | exact AHeap.set_same _ _ _) (by rfl) | apply ResAt.cell1 rfl (by first | assumption | exact AHeap.set_same _ _ _) (by rfl))
    exact ⟨.inl ⟨rfl, rfl, h1⟩, fun _ _ => rfl⟩
  · have e : HL g b l sp = g := AHeap.set_eq g h2
    have hpos : 0 < l.length := List.length_pos_iff.2 h5
    by_cases h2l : l.length < 2
    ·
      repeat' (first | refine S.nilK ?_ | (refine S.op rfl ?_; first | refine R.mv rfl ?_ | refine R.loadR rfl rfl ?_ | refine R.load (by decide) rfl (by first | assumption | exact AHeap.set_same _ _ _) rfl ?_ | refine S.addI rfl rfl (by omega) ?_ | refine S.subI rfl rfl (by omega) ?_ | refine S.addU rfl rfl ?_ | refine S.subU rfl rfl ?_ | refine S.addUc rfl (by decide) ?_ | refine S.subUc rfl (by decide) ?_ | refine R.len rfl ?_ | refine R.lenA rfl ?_ | refine R.lenStr rfl ?_ | refine R.eqPtrNil rfl rfl ?_ | ((first | refine S.lss rfl rfl ?_ ?_ | refine S.eqInt rfl rfl ?_ ?_) <;> intro hlt <;> try (exfalso; omega))) | (refine S.op0 rfl ?_; first | refine S.storeS rfl rfl rfl (by rfl) rfl (by first | decide | exact Nat.le_refl _ | exact Nat.le_of_ble_eq_true rfl) ?_ | refine S.store rfl rfl (by first | assumption | exact AHeap.set_same _ _ _) rfl rfl rfl (by rfl) rfl ?_) | refine S.skip rfl ?_ | refine S.skip0 rfl ?_ | refine S.seq ?_ | refine S.region ?_ | refine S.condT rfl ?_ | refine S.condF rfl ?_ | refine RRun.skip ?_ | refine RRun.block ?_ | refine RRun.inBlock ?_ | refine RRun.exit rfl ?_)
      apply S.ret rr85
      case hx => repeat (first | exact ResAt.nil | apply ResAt.tmp rfl | apply ResAt.cellA rfl (by first | assumption | exact AHeap.set_same _ _ _) (by rfl) | apply ResAt.cell1 rfl (by first | assumption | exact AHeap.set_same _ _ _) (by rfl))
      rw [dd_one h2l]
      exact ⟨.inr ⟨b, cap, sp, rfl, h2, h3, h4, h5, h6⟩, fun _ _ => rfl⟩
    · rw [← e]
      repeat' (first | refine S.nilK ?_ | (refine S.op rfl ?_; first | refine R.mv rfl ?_ | refine R.loadR rfl rfl ?_ | refine R.load (by decide) rfl (by first | assumption | exact AHeap.set_same _ _ _) rfl ?_ | refine S.addI rfl rfl (by omega) ?_ | refine S.subI rfl rfl (by omega) ?_ | refine S.addU rfl rfl ?_ | refine S.subU rfl rfl ?_ | refine S.addUc rfl (by decide) ?_ | refine S.subUc rfl (by decide) ?_ | refine R.len rfl ?_ | refine R.lenA rfl ?_ | refine R.lenStr rfl ?_ | refine R.eqPtrNil rfl rfl ?_ | ((first | refine S.lss rfl rfl ?_ ?_ | refine S.eqInt rfl rfl ?_ ?_) <;> intro hlt <;> try (exfalso; omega))) | (refine S.op0 rfl ?_; first | refine S.storeS rfl rfl rfl (by rfl) rfl (by first | decide | exact Nat.le_refl _ | exact Nat.le_of_ble_eq_true rfl) ?_ | refine S.store rfl rfl (by first | assumption | exact AHeap.set_same _ _ _) rfl rfl rfl (by rfl) rfl ?_) | refine S.skip rfl ?_ | refine S.skip0 rfl ?_ | refine S.seq ?_ | refine S.region ?_ | refine S.condT rfl ?_ | refine S.condF rfl ?_ | refine RRun.skip ?_ | refine RRun.block ?_ | refine RRun.inBlock ?_ | refine RRun.exit rfl ?_)
      refine RRun.loopIn (S.keep [0, 3] (l' := [(0, slAt b 0 l.length cap), (3, i64 (1 : Nat))]) rfl ?_)
      refine compact_outer b cap l.length l rfl hl (by omega) sp g _ _ (fun c' sp' q1 q2 => ?_) (fun hd => ?_) (l.length - 1) 1 (by omega) (Nat.le_refl _) ?_
      · subst q1
        exact ⟨.inr ⟨b, cap, sp', rfl, HL_at _ _ _ _, by omega, h4, dd_ne h5, h6⟩, fun y hy => by rw [e]; exact AHeap.set_other _ _ fun q => hy ((h6 y).2 q)⟩
      ·
        repeat' (first | refine S.nilK ?_ | (refine S.op rfl ?_; first | refine R.mv rfl ?_ | refine R.loadR rfl rfl ?_ | refine R.load (by decide) rfl (by first | assumption | exact AHeap.set_same _ _ _) rfl ?_ | refine S.addI rfl rfl (by omega) ?_ | refine S.subI rfl rfl (by omega) ?_ | refine S.addU rfl rfl ?_ | refine S.subU rfl rfl ?_ | refine S.addUc rfl (by decide) ?_ | refine S.subUc rfl (by decide) ?_ | refine R.len rfl ?_ | refine R.lenA rfl ?_ | refine R.lenStr rfl ?_ | refine R.eqPtrNil rfl rfl ?_ | ((first | refine S.lss rfl rfl ?_ ?_ | refine S.eqInt rfl rfl ?_ ?_) <;> intro hlt <;> try (exfalso; omega))) | (refine S.op0 rfl ?_; first | refine S.storeS rfl rfl rfl (by rfl) rfl (by first | decide | exact Nat.le_refl _ | exact Nat.le_of_ble_eq_true rfl) ?_ | refine S.store rfl rfl (by first | assumption | exact AHeap.set_same _ _ _) rfl rfl rfl (by rfl) rfl ?_) | refine S.skip rfl ?_ | refine S.skip0 rfl ?_ | refine S.seq ?_ | refine S.region ?_ | refine S.condT rfl ?_ | refine S.condF rfl ?_ | refine RRun.skip ?_ | refine RRun.block ?_ | refine RRun.inBlock ?_ | refine RRun.exit rfl ?_)
        apply S.ret rr85
        case hx => repeat (first | exact ResAt.nil | apply ResAt.tmp rfl | apply ResAt.cellA rfl (by first | assumption | exact AHeap.set_same _ _ _) (by rfl) | apply ResAt.cell1 rfl (by first | assumption | exact AHeap.set_same _ _ _) (by rfl))
        rw [hd]
        exact ⟨.inr ⟨b, cap, sp, rfl, HL_at _ _ _ _, h3, h4, h5, h6⟩, fun y hy => by rw [e]⟩
      · exact dd_one (by simp; omega)

end Go.Proofs.Ytnmgamcmjjngcaa
