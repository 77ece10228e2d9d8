import Derived.Test.YtnmgamcmjjngcaaM11
set_option linter.unusedVariables false
set_option linter.unusedSimpArgs false
namespace Go.Proofs.Ytnmgamcmjjngcaa
open Go.Av

/-! ### Numbers as bytes, to be put -/

def hiB (m : Nat) : List UInt8 := if m = 0 then [] else hiB (m / 128) ++ [UInt8.ofNat (m % 128 + 128)]
termination_by m
def putN (n : Nat) : List UInt8 := hiB (n / 128) ++ [UInt8.ofNat (n % 128)]
def putNs (l : List UInt64) : List UInt8 := l.flatMap fun x => putN x.toNat

theorem hiB_zero : hiB 0 = [] := by rw [hiB, if_pos rfl]
theorem hiB_pos {m : Nat} (h : m ≠ 0) : hiB m = hiB (m / 128) ++ [UInt8.ofNat (m % 128 + 128)] := by rw [hiB, if_neg h]

/-- Groups from the k-th down to the first. -/
def hk (n : Nat) : Nat → List UInt8
  | 0 => []
  | k + 1 => UInt8.ofNat (n / 128 ^ (k + 1) % 128 + 128) :: hk n k

theorem hk_snoc (n : Nat) : ∀ k, hk n (k + 1) = hk (n / 128) k ++ [UInt8.ofNat (n / 128 % 128 + 128)]
  | 0 => by simp [hk]
  | k + 1 => by
    have ih := hk_snoc n k
    show UInt8.ofNat (n / 128 ^ (k + 1 + 1) % 128 + 128) :: hk n (k + 1) = (UInt8.ofNat (n / 128 / 128 ^ (k + 1) % 128 + 128) :: hk (n / 128) k) ++ _
    rw [ih, Nat.div_div_eq_div_mul, show 128 ^ (k + 1 + 1) = 128 * 128 ^ (k + 1) by rw [Nat.pow_succ 128 (k + 1), Nat.mul_comm]]
    rfl

theorem hiB_hk : ∀ (k n : Nat), n / 128 ^ k < 128 → (∀ j, j < k → 128 ≤ n / 128 ^ j) → hiB (n / 128) = hk n k
  | 0, n, h1, _ => by
    rw [Nat.pow_zero, Nat.div_one] at h1
    rw [show n / 128 = 0 by omega, hiB_zero]; rfl
  | k + 1, n, h1, h2 => by
    have h0 := h2 0 (by omega)
    rw [Nat.pow_zero, Nat.div_one] at h0
    have e : ∀ j, n / 128 / 128 ^ j = n / 128 ^ (j + 1) := fun j => by
      rw [Nat.div_div_eq_div_mul, Nat.pow_succ 128 j, Nat.mul_comm]
    rw [hk_snoc, hiB_pos (by omega), hiB_hk k (n / 128) (by rw [e]; exact h1) (fun j hj => by rw [e]; exact h2 (j + 1) (by omega))]

theorem hk_len (n : Nat) : ∀ k, (hk n k).length = k
  | 0 => rfl
  | k + 1 => by simp [hk, hk_len n k]

theorem hiB_len : ∀ (k m : Nat), m < 128 ^ k → (hiB m).length ≤ k
  | 0, m, h => by
    rw [show m = 0 by simpa using h, hiB_zero]; simp
  | k + 1, m, h => by
    by_cases h0 : m = 0
    · rw [h0, hiB_zero]; simp
    · rw [hiB_pos h0, List.length_append]
      have := hiB_len k (m / 128) (by rw [Nat.div_lt_iff_lt_mul (by decide)]; rw [Nat.pow_succ] at h; omega)
      simp; omega
theorem putN_len {n : Nat} (h : n < 18446744073709551616) : (putN n).length ≤ 10 := by
  have := hiB_len 9 (n / 128) (by omega)
  unfold putN
  rw [List.length_append]
  simp; omega

/-! ### The writer -/

abbrev bysC (l : List UInt8) (c : Cap) : AV := .sl 1 (Go.Av.byteCells l) c

/-- A writer at p over a base heap. -/
def WAt (h₀ : AHeap) (p : Nat) (acc : List UInt8) (h : AHeap) : Prop :=
  ∃ c, h p = some (.box [bysC acc c]) ∧ OwnT h c ∧ h₀ p = none ∧ (∀ x, TokC c x → h₀ x = none) ∧ ¬ TokC c p ∧ ∀ x o, h₀ x = some o → h x = some o

theorem one_bytes (ys : List UInt8) : ∀ e ∈ Go.Av.byteCells ys, ∀ a ∈ e, a.one = true := by
  intro e he a ha
  simp only [Go.Av.byteCells, List.mem_map] at he
  obtain ⟨u, _, rfl⟩ := he
  simp only [byteCell, List.mem_singleton] at ha
  subst ha; rfl

/-- What an append to the writer's bytes leaves, when it is stored. -/
theorem S.wapp {P : Program} {c : Cls} {E : AEnv} {h₀ h : AHeap} {K : AV → AHeap → Prop} {zero : List Value} {x y : Operand} {s : AV} {acc ys : List UInt8} {c0 : Cap} {p : Nat} (hc : c = .act) (hp : h p = some (.box [bysC acc c0])) (ho : OwnT h c0) (h0p : h₀ p = none) (h0t : ∀ x, TokC c0 x → h₀ x = none) (hpt : ¬ TokC c0 p) (hb : ∀ x o, h₀ x = some o → h x = some o)
    (hx : aev E x = some (bysC acc c0)) (hy : aev E y = some s) (hs : Go.Av.Src 1 s (Go.Av.byteCells ys)) (hlen : acc.length + ys.length ≤ 4000000000000)
    (hk : ∀ c' h', h' p = some (.box [bysC acc c0]) → (WAt h₀ p (acc ++ ys) (h'.set p (.box [bysC (acc ++ ys) c']))) → K (bysC (acc ++ ys) c') h') : ROpS P c (.append 1 1 zero x y) E h K := by
  refine S.appendT hc ho hx (.sl _ _) hy hs (one_bytes ys) ?_ ?_ (fun c' h' g1 g2 g3 => ?_)
  · simp only [Go.Av.byteCells, List.length_map]; omega
  · simp only [Go.Av.byteCells, List.length_map]; omega
  · have hp' := g2 p _ hp hpt
    have hpt' : ¬ TokC c' p := fun ⟨u, s', e⟩ => by
      rcases g1 with e3 | ⟨b', u', s2, e3, e4⟩
      · rw [e3] at e; cases e
      · rw [e3] at e; cases e; rw [hp'] at e4; cases e4
    have hnone : ∀ x, h x = none → h₀ x = none := fun x e => by
      cases e0 : h₀ x with
      | none => rfl
      | some o => rw [hb x o e0] at e; cases e
    have := hk c' h' hp' ⟨c', AHeap.set_same _ _ _, ownT_loc g1 fun x hx => AHeap.set_other _ _ (by rintro rfl; exact hpt' hx), h0p, fun x hx => (g3 x hx).elim (h0t x) (hnone x), hpt', fun x o e => by
      have hxp : x ≠ p := by rintro rfl; rw [h0p] at e; cases e
      rw [AHeap.set_other _ _ hxp]
      exact g2 x o (hb x o e) (fun ht => by rw [h0t x ht] at e; cases e)⟩
    simpa [bysC, Go.Av.byteCells] using this

section
variable {P : Program} {c : Cls} {E : AEnv} {h : AHeap} {K : AV → AHeap → Prop}
theorem S.shr7 {x y : Operand} {n j : Nat} (hj : j ≤ 9) (hx : aev E x = some (.v (.int .u64 (n : Int)))) (hy : aev E y = some (i64 ((7 * j : Nat) : Int))) (hk : K (.v (.int .u64 ((n / 128 ^ j : Nat) : Int))) h) : ROpS P c (.bin .shr x y) E h K := by
  refine R.shr hx hy (by omega) ?_
  have e : min (((7 * j : Nat) : Int)).toNat IntKind.u64.bits = 7 * j := by simp only [Int.toNat_natCast, IntKind.bits]; omega
  rw [e]
  have : ((n : Int).fdiv (2 ^ (7 * j))) = ((n / 128 ^ j : Nat) : Int) := by
    have hp : (2 : Int) ^ (7 * j) = ((128 ^ j : Nat) : Int) := by
      obtain rfl | rfl | rfl | rfl | rfl | rfl | rfl | rfl | rfl | rfl : j = 0 ∨ j = 1 ∨ j = 2 ∨ j = 3 ∨ j = 4 ∨ j = 5 ∨ j = 6 ∨ j = 7 ∨ j = 8 ∨ j = 9 := by omega
      all_goals decide
    rw [hp, Int.fdiv_eq_ediv_of_nonneg _ (Int.natCast_nonneg _)]
    rfl
  rw [this]; exact hk
theorem S.conv8N {x : Operand} {n : Nat} {k : IntKind} (hx : aev E x = some (.v (.int k (n : Int)))) (hk : K (.v (.int .u8 ((n % 256 : Nat) : Int))) h) : ROpS P c (.convInt .u8 x) E h K := by
  refine R.convInt hx ?_
  have : IntKind.u8.wrap (n : Int) = ((n % 256 : Nat) : Int) := by
    simp only [IntKind.wrap, IntKind.bits, IntKind.signed]
    simp
  rw [this]; exact hk
theorem or128 : ∀ m : Fin 256, (BitVec.ofInt 8 (m.val : Int) ||| (BitVec.ofInt 8 128)).toNat = m.val % 128 + 128 := by decide +kernel
theorem S.or128 {x : Operand} {m : Nat} (hm : m < 256) (hx : aev E x = some (.v (.int .u8 (m : Int)))) (hk : K (.v (.int .u8 ((UInt8.ofNat (m % 128 + 128)).toNat : Int))) h) : ROpS P c (.bin .or x (.const (.int .u8 128))) E h K := by
  refine R.bin hx rfl rfl ?_
  have e := Go.Proofs.Ytnmgamcmjjngcaa.or128 ⟨m, hm⟩
  have e2 : (UInt8.ofNat (m % 128 + 128)).toNat = m % 128 + 128 := by simp; omega
  rw [e2] at hk
  show K (.v (.int .u8 (IntKind.u8.wrap ((BitVec.ofInt 8 (m : Int) ||| (BitVec.ofInt 8 128)).toNat : Int)))) h
  rw [e, wrap_u8N (by omega)]; exact hk
theorem S.low7 {x : Operand} {m : Nat} (hm : m < 256) (hx : aev E x = some (.v (.int .u8 (m : Int)))) (hk : K (.v (.int .u8 ((UInt8.ofNat (m % 128)).toNat : Int))) h) : ROpS P c (.bin .andNot x (.const (.int .u8 128))) E h K := by
  refine S.andNot7 hm hx ?_
  have e2 : (UInt8.ofNat (m % 128)).toNat = m % 128 := by simp; omega
  rw [e2] at hk; exact hk
end

def r78l1 : RCode :=
  (.seq (.seq (.region [
    ⟨(some 15), none, .act, .mv (.tmp 5)⟩,
    ⟨(some 16), none, .act, .mv (.tmp 6)⟩,
    ⟨(some 17), none, .act, .bin .shr (.tmp 15) (.tmp 16)⟩,
    ⟨(some 18), none, .act, .bin .geq (.tmp 17) (.const (.int .u64 128))⟩])
  (.cond (.tmp 18)
   .skip
   (.exit 2)))
  (.block 3
   (.region [
     ⟨(some 19), none, .act, .mv (.tmp 6)⟩,
     ⟨(some 20), none, .act, .bin .add (.tmp 19) (.const (.int .i64 7))⟩,
     ⟨(some 6), none, .act, .mv (.tmp 20)⟩])))
def r78l2 : RCode :=
  (.seq (.seq (.region [
    ⟨(some 21), none, .act, .mv (.tmp 6)⟩,
    ⟨(some 22), none, .act, .bin .gtr (.tmp 21) (.const (.int .i64 0))⟩])
  (.cond (.tmp 22)
   .skip
   (.exit 4)))
  (.seq (.block 5
   (.region [
     ⟨(some 25), none, .pure, .mv (.tmp 0)⟩,
     ⟨(some 26), none, .pure, .mv (.tmp 0)⟩,
     ⟨(some 27), none, .pure, .nilCheck (.tmp 26)⟩,
     ⟨(some 28), none, .pure, .fieldAddr 0 (.tmp 27)⟩,
     ⟨(some 29), none, .read, .load false 1 (.tmp 28)⟩,
     ⟨(some 30), none, .pure, .mv (.tmp 5)⟩,
     ⟨(some 31), none, .pure, .mv (.tmp 6)⟩,
     ⟨(some 32), none, .pure, .bin .shr (.tmp 30) (.tmp 31)⟩,
     ⟨(some 33), none, .pure, .convInt .u8 (.tmp 32)⟩,
     ⟨(some 34), none, .pure, .bin .or (.tmp 33) (.const (.int .u8 128))⟩,
     ⟨(some 35), none, .pure, .buildSl 1 [(.int .u8 0)] 1 [(0, (.tmp 34))]⟩,
     ⟨(some 36), none, .act, .append 1 1 [(.int .u8 0)] (.tmp 29) (.tmp 35)⟩,
     ⟨(some 37), none, .pure, .nilCheck (.tmp 25)⟩,
     ⟨(some 38), none, .pure, .fieldAddr 0 (.tmp 37)⟩,
     ⟨none, none, .act, .store 1 (.tmp 38) (.tmp 36)⟩]))
  (.region [
    ⟨(some 23), none, .act, .mv (.tmp 6)⟩,
    ⟨(some 24), none, .act, .bin .sub (.tmp 23) (.const (.int .i64 7))⟩,
    ⟨(some 6), none, .act, .mv (.tmp 24)⟩])))
def r78l0 : RCode :=
  (.seq (.region [
    ⟨(some 12), none, .act, .bin .lss (.tmp 11) (.tmp 10)⟩])
  (.seq (.cond (.tmp 12)
   .skip
   (.exit 0))
  (.seq (.block 1
   (.seq (.region [
     ⟨(some 13), none, .act, .indexAddr 1 (.tmp 9) (.tmp 11)⟩,
     ⟨(some 14), none, .act, .load false 1 (.tmp 13)⟩,
     ⟨(some 5), none, .act, .mv (.tmp 14)⟩])
   (.seq (.region [
     ⟨(some 6), none, .act, .mv (.const (.int .i64 0))⟩])
   (.seq (.block 2
    (.loop r78l1))
   (.seq (.block 4
    (.loop r78l2))
   (.region [
     ⟨(some 39), none, .act, .mv (.tmp 0)⟩,
     ⟨(some 40), none, .act, .mv (.tmp 0)⟩,
     ⟨(some 41), none, .act, .nilCheck (.tmp 40)⟩,
     ⟨(some 42), none, .act, .fieldAddr 0 (.tmp 41)⟩,
     ⟨(some 43), none, .act, .load false 1 (.tmp 42)⟩,
     ⟨(some 44), none, .act, .mv (.tmp 5)⟩,
     ⟨(some 45), none, .act, .convInt .u8 (.tmp 44)⟩,
     ⟨(some 46), none, .act, .bin .andNot (.tmp 45) (.const (.int .u8 128))⟩,
     ⟨(some 47), none, .act, .buildSl 1 [(.int .u8 0)] 1 [(0, (.tmp 46))]⟩,
     ⟨(some 48), none, .act, .append 1 1 [(.int .u8 0)] (.tmp 43) (.tmp 47)⟩,
     ⟨(some 49), none, .act, .nilCheck (.tmp 39)⟩,
     ⟨(some 50), none, .act, .fieldAddr 0 (.tmp 49)⟩,
     ⟨none, none, .act, .store 1 (.tmp 50) (.tmp 48)⟩]))))))
  (.region [
    ⟨(some 51), none, .act, .bin .add (.tmp 11) (.const (.int .i64 1))⟩,
    ⟨(some 11), none, .act, .mv (.tmp 51)⟩]))))
/-- (*plenum/row.Writer).N -/
def r78 : RCode :=
  (.seq (.seq (.region [
    ⟨(some 7), none, .act, .mv (.tmp 0)⟩,
    ⟨(some 8), none, .act, .eq false .ptr (.tmp 7) (.const (.pointer none))⟩])
  (.cond (.tmp 8)
   .ret
   .skip))
  (.seq (.region [
    ⟨(some 9), none, .act, .mv (.tmp 1)⟩,
    ⟨(some 10), none, .act, .len (.tmp 9)⟩,
    ⟨(some 11), none, .act, .mv (.const (.int .i64 0))⟩])
  (.block 0
   (.loop r78l0))))
theorem res78 : ∃ c, Try.f78.body = some c ∧ resCode Try.prog 52 c = some r78 := ⟨_, rfl, by kernel_rfl⟩
theorem rr78 : resRes Try.prog Try.f78.results.toList = some [] := by kernel_rfl

theorem wn_shift (n : UInt64) (L : List (Nat × AV)) (k : List RT) (Q : AV → AHeap → Prop) (h : AHeap) (x0 x9 x10 x11 : AV)
    (hk : ∀ j, j ≤ 9 → n.toNat / 128 ^ j < 128 → (∀ i, i < j → 128 ≤ n.toNat / 128 ^ i) → RRun Try.prog Try.f78 52 k (Env.get [(0, x0), (5, enc n), (6, i64 (7 * j : Nat)), (9, x9), (10, x10), (11, x11)]) h Q) : ∀ (m j : Nat), j + m = 9 → (∀ i, i < j → 128 ≤ n.toNat / 128 ^ i) →
    RRun Try.prog Try.f78 52 (.inLoop r78l1 :: .inBlock 2 :: k) (Env.get [(0, x0), (5, enc n), (6, i64 (7 * j : Nat)), (9, x9), (10, x10), (11, x11)]) h Q := by
  have hn := UInt64.toNat_lt n
  have stop : ∀ j, j ≤ 9 → n.toNat / 128 ^ j < 128 → (∀ i, i < j → 128 ≤ n.toNat / 128 ^ i) →
    RRun Try.prog Try.f78 52 (.inLoop r78l1 :: .inBlock 2 :: k) (Env.get [(0, x0), (5, enc n), (6, i64 (7 * j : Nat)), (9, x9), (10, x10), (11, x11)]) h Q := by
    intro j hj hlt hall
    have hkj := hk j hj hlt hall
    have hlt' : ¬ (128 : Int) ≤ ((n.toNat / 128 ^ j : Nat) : Int) := by
      generalize n.toNat / 128 ^ j = q at hlt ⊢; omega
    refine RRun.inLoop ?_
    repeat' (first | refine S.nilK ?_ | (refine S.op rfl ?_; first | refine S.shr7 hj rfl rfl ?_ | refine S.geq rfl rfl (fun h => absurd h hlt') (fun _ => ?_) | refine R.mv rfl ?_ | refine R.fieldAddr rfl ?_ | refine R.fieldAddrR rfl ?_ | refine R.nilCheck rfl ?_ | refine R.nilCheckR rfl ?_ | refine R.loadR rfl rfl ?_ | refine R.load (by decide) rfl (by (repeat' (first | assumption | exact AHeap.set_same _ _ _ | refine AHeap.get_fresh ‹_› ?_ | refine AHeap.so ?_ ?_ | exact AHeap.n1 ‹_› | exact AHeap.n2 ‹_› | exact AHeap.ne_of ‹_› ‹_› | exact AHeap.n4 ‹_› ‹_› | exact AHeap.n5 ‹_› | exact AHeap.n6 ‹_› | exact AHeap.n7 ‹_› ‹_› | exact AHeap.n8 ‹_› ‹_›)); first | done | fail) rfl ?_ | refine S.addI rfl rfl (by omega) ?_ | refine S.subI rfl rfl (by omega) ?_ | refine S.addU rfl rfl ?_ | refine S.subU rfl rfl ?_ | refine S.addUc rfl (by decide) ?_ | refine S.subUc rfl (by decide) ?_ | refine S.arith rfl rfl rfl ?_ | refine R.len rfl ?_ | refine R.lenA rfl ?_ | refine R.lenStr rfl ?_ | refine S.convIU rfl (by omega) ?_ | refine S.convUI rfl (by omega) ?_ | refine R.convInt rfl ?_ | refine R.eqPtrNil rfl rfl ?_ | refine R.buildSl rfl rfl rfl (by decide) ?_ | ((first | refine S.lss rfl rfl ?_ ?_ | refine S.gtr rfl rfl ?_ ?_ | refine S.geq rfl rfl ?_ ?_ | refine S.eqInt rfl rfl ?_ ?_) <;> intro hlt <;> try (exfalso; omega))) | (refine S.op0 rfl ?_; first | refine S.storeS rfl rfl rfl (by rfl) rfl (by first | decide | exact Nat.le_refl _ | exact Nat.le_of_ble_eq_true rfl) ?_ | refine S.store rfl rfl (by (repeat' (first | assumption | exact AHeap.set_same _ _ _ | refine AHeap.get_fresh ‹_› ?_ | refine AHeap.so ?_ ?_ | exact AHeap.n1 ‹_› | exact AHeap.n2 ‹_› | exact AHeap.ne_of ‹_› ‹_› | exact AHeap.n4 ‹_› ‹_› | exact AHeap.n5 ‹_› | exact AHeap.n6 ‹_› | exact AHeap.n7 ‹_› ‹_› | exact AHeap.n8 ‹_› ‹_›)); first | done | fail) rfl rfl rfl (by rfl) rfl ?_) | refine S.skip rfl ?_ | refine S.skip0 rfl ?_ | refine S.seq ?_ | refine S.region ?_ | refine S.condT rfl ?_ | refine S.condF rfl ?_ | refine RRun.skip ?_ | refine RRun.block ?_ | refine RRun.inBlock ?_ | refine RRun.exit rfl ?_)
    exact S.keep [0, 5, 6, 9, 10, 11] rfl hkj
  have last : n.toNat / 128 ^ 9 < 128 := by omega
  intro m
  induction m with
  | zero =>
    intro j hj hall
    obtain rfl : j = 9 := by omega
    exact stop 9 (by omega) last hall
  | succ m ih =>
    intro j hj hall
    by_cases hlt : n.toNat / 128 ^ j < 128
    · exact stop j (by omega) hlt hall
    · have hlt' : (128 : Int) ≤ ((n.toNat / 128 ^ j : Nat) : Int) := by
        generalize n.toNat / 128 ^ j = q at hlt ⊢; omega
      have ih' := ih (j + 1) (by omega) (fun i hi => by
        rcases Nat.lt_succ_iff_lt_or_eq.1 hi with h1 | rfl
        · exact hall i h1
        · omega)
      refine RRun.inLoop ?_
      repeat' (first | refine S.nilK ?_ | (refine S.op rfl ?_; first | refine S.shr7 (j := j) (by omega) rfl rfl ?_ | refine S.geq rfl rfl (fun _ => ?_) (fun h => absurd hlt' h) | refine S.addNN (n := 7) rfl rfl (by omega) ?_ | refine R.mv rfl ?_ | refine R.fieldAddr rfl ?_ | refine R.fieldAddrR rfl ?_ | refine R.nilCheck rfl ?_ | refine R.nilCheckR rfl ?_ | refine R.loadR rfl rfl ?_ | refine R.load (by decide) rfl (by (repeat' (first | assumption | exact AHeap.set_same _ _ _ | refine AHeap.get_fresh ‹_› ?_ | refine AHeap.so ?_ ?_ | exact AHeap.n1 ‹_› | exact AHeap.n2 ‹_› | exact AHeap.ne_of ‹_› ‹_› | exact AHeap.n4 ‹_› ‹_› | exact AHeap.n5 ‹_› | exact AHeap.n6 ‹_› | exact AHeap.n7 ‹_› ‹_› | exact AHeap.n8 ‹_› ‹_›)); first | done | fail) rfl ?_ | refine S.addI rfl rfl (by omega) ?_ | refine S.subI rfl rfl (by omega) ?_ | refine S.addU rfl rfl ?_ | refine S.subU rfl rfl ?_ | refine S.addUc rfl (by decide) ?_ | refine S.subUc rfl (by decide) ?_ | refine S.arith rfl rfl rfl ?_ | refine R.len rfl ?_ | refine R.lenA rfl ?_ | refine R.lenStr rfl ?_ | refine S.convIU rfl (by omega) ?_ | refine S.convUI rfl (by omega) ?_ | refine R.convInt rfl ?_ | refine R.eqPtrNil rfl rfl ?_ | refine R.buildSl rfl rfl rfl (by decide) ?_ | ((first | refine S.lss rfl rfl ?_ ?_ | refine S.gtr rfl rfl ?_ ?_ | refine S.geq rfl rfl ?_ ?_ | refine S.eqInt rfl rfl ?_ ?_) <;> intro hlt <;> try (exfalso; omega))) | (refine S.op0 rfl ?_; first | refine S.storeS rfl rfl rfl (by rfl) rfl (by first | decide | exact Nat.le_refl _ | exact Nat.le_of_ble_eq_true rfl) ?_ | refine S.store rfl rfl (by (repeat' (first | assumption | exact AHeap.set_same _ _ _ | refine AHeap.get_fresh ‹_› ?_ | refine AHeap.so ?_ ?_ | exact AHeap.n1 ‹_› | exact AHeap.n2 ‹_› | exact AHeap.ne_of ‹_› ‹_› | exact AHeap.n4 ‹_› ‹_› | exact AHeap.n5 ‹_› | exact AHeap.n6 ‹_› | exact AHeap.n7 ‹_› ‹_› | exact AHeap.n8 ‹_› ‹_›)); first | done | fail) rfl rfl rfl (by rfl) rfl ?_) | refine S.skip rfl ?_ | refine S.skip0 rfl ?_ | refine S.seq ?_ | refine S.region ?_ | refine S.condT rfl ?_ | refine S.condF rfl ?_ | refine RRun.skip ?_ | refine RRun.block ?_ | refine RRun.inBlock ?_ | refine RRun.exit rfl ?_)
      rw [show 7 * j + 7 = 7 * (j + 1) by omega]
      exact S.keep [0, 5, 6, 9, 10, 11] rfl ih'

theorem wn_bytes (n : UInt64) (p : Nat) (h₀ : AHeap) (k : List RT) (Q : AV → AHeap → Prop) (x9 x10 x11 : AV) : ∀ (j : Nat) (acc : List UInt8) (h : AHeap), j ≤ 9 → acc.length + j ≤ 3000000000 → WAt h₀ p acc h →
    (∀ h', WAt h₀ p (acc ++ Go.Proofs.Ytnmgamcmjjngcaa.hk n.toNat j) h' → RRun Try.prog Try.f78 52 k (Env.get [(0, ptr p), (5, enc n), (9, x9), (10, x10), (11, x11)]) h' Q) →
    RRun Try.prog Try.f78 52 (.inLoop r78l2 :: .inBlock 4 :: k) (Env.get [(0, ptr p), (5, enc n), (6, i64 (7 * j : Nat)), (9, x9), (10, x10), (11, x11)]) h Q := by
  have hn := UInt64.toNat_lt n
  intro j
  induction j with
  | zero =>
    intro acc h hj hl hw hkk
    refine RRun.inLoop ?_
    repeat' (first | refine S.nilK ?_ | (refine S.op rfl ?_; first | refine R.mv rfl ?_ | refine R.fieldAddr rfl ?_ | refine R.fieldAddrR rfl ?_ | refine R.nilCheck rfl ?_ | refine R.nilCheckR rfl ?_ | refine R.loadR rfl rfl ?_ | refine R.load (by decide) rfl (by (repeat' (first | assumption | exact AHeap.set_same _ _ _ | refine AHeap.get_fresh ‹_› ?_ | refine AHeap.so ?_ ?_ | exact AHeap.n1 ‹_› | exact AHeap.n2 ‹_› | exact AHeap.ne_of ‹_› ‹_› | exact AHeap.n4 ‹_› ‹_› | exact AHeap.n5 ‹_› | exact AHeap.n6 ‹_› | exact AHeap.n7 ‹_› ‹_› | exact AHeap.n8 ‹_› ‹_›)); first | done | fail) rfl ?_ | refine S.addI rfl rfl (by omega) ?_ | refine S.subI rfl rfl (by omega) ?_ | refine S.addU rfl rfl ?_ | refine S.subU rfl rfl ?_ | refine S.addUc rfl (by decide) ?_ | refine S.subUc rfl (by decide) ?_ | refine S.arith rfl rfl rfl ?_ | refine R.len rfl ?_ | refine R.lenA rfl ?_ | refine R.lenStr rfl ?_ | refine S.convIU rfl (by omega) ?_ | refine S.convUI rfl (by omega) ?_ | refine R.convInt rfl ?_ | refine R.eqPtrNil rfl rfl ?_ | refine R.buildSl rfl rfl rfl (by decide) ?_ | ((first | refine S.lss rfl rfl ?_ ?_ | refine S.gtr rfl rfl ?_ ?_ | refine S.geq rfl rfl ?_ ?_ | refine S.eqInt rfl rfl ?_ ?_) <;> intro hlt <;> try (exfalso; omega))) | (refine S.op0 rfl ?_; first | refine S.storeS rfl rfl rfl (by rfl) rfl (by first | decide | exact Nat.le_refl _ | exact Nat.le_of_ble_eq_true rfl) ?_ | refine S.store rfl rfl (by (repeat' (first | assumption | exact AHeap.set_same _ _ _ | refine AHeap.get_fresh ‹_› ?_ | refine AHeap.so ?_ ?_ | exact AHeap.n1 ‹_› | exact AHeap.n2 ‹_› | exact AHeap.ne_of ‹_› ‹_› | exact AHeap.n4 ‹_› ‹_› | exact AHeap.n5 ‹_› | exact AHeap.n6 ‹_› | exact AHeap.n7 ‹_› ‹_› | exact AHeap.n8 ‹_› ‹_›)); first | done | fail) rfl rfl rfl (by rfl) rfl ?_) | refine S.skip rfl ?_ | refine S.skip0 rfl ?_ | refine S.seq ?_ | refine S.region ?_ | refine S.condT rfl ?_ | refine S.condF rfl ?_ | refine RRun.skip ?_ | refine RRun.block ?_ | refine RRun.inBlock ?_ | refine RRun.exit rfl ?_)
    exact S.keep [0, 5, 9, 10, 11] rfl (hkk h (by simpa [Go.Proofs.Ytnmgamcmjjngcaa.hk] using hw))
  | succ j ih =>
    intro acc h hj hl hw hkk
    obtain ⟨c0, hp, ho, h0p, h0t, hpt, hb⟩ := hw
    have hm : n.toNat / 128 ^ (j + 1) % 256 < 256 := Nat.mod_lt _ (by decide)
    have hmm : n.toNat / 128 ^ (j + 1) % 256 % 128 = n.toNat / 128 ^ (j + 1) % 128 := Nat.mod_mod_of_dvd _ (by decide)
    refine RRun.inLoop ?_
    repeat' (first | refine S.nilK ?_ | (refine S.op rfl ?_; first | refine S.shr7 (j := j + 1) (by omega) rfl rfl ?_ | refine S.conv8N rfl ?_ | refine S.or128 hm rfl ?_ | refine R.mv rfl ?_ | refine R.fieldAddr rfl ?_ | refine R.fieldAddrR rfl ?_ | refine R.nilCheck rfl ?_ | refine R.nilCheckR rfl ?_ | refine R.loadR rfl rfl ?_ | refine R.load (by decide) rfl (by (repeat' (first | assumption | exact AHeap.set_same _ _ _ | refine AHeap.get_fresh ‹_› ?_ | refine AHeap.so ?_ ?_ | exact AHeap.n1 ‹_› | exact AHeap.n2 ‹_› | exact AHeap.ne_of ‹_› ‹_› | exact AHeap.n4 ‹_› ‹_› | exact AHeap.n5 ‹_› | exact AHeap.n6 ‹_› | exact AHeap.n7 ‹_› ‹_› | exact AHeap.n8 ‹_› ‹_›)); first | done | fail) rfl ?_ | refine S.addI rfl rfl (by omega) ?_ | refine S.subI rfl rfl (by omega) ?_ | refine S.addU rfl rfl ?_ | refine S.subU rfl rfl ?_ | refine S.addUc rfl (by decide) ?_ | refine S.subUc rfl (by decide) ?_ | refine S.arith rfl rfl rfl ?_ | refine R.len rfl ?_ | refine R.lenA rfl ?_ | refine R.lenStr rfl ?_ | refine S.convIU rfl (by omega) ?_ | refine S.convUI rfl (by omega) ?_ | refine R.convInt rfl ?_ | refine R.eqPtrNil rfl rfl ?_ | refine R.buildSl rfl rfl rfl (by decide) ?_ | ((first | refine S.lss rfl rfl ?_ ?_ | refine S.gtr rfl rfl ?_ ?_ | refine S.geq rfl rfl ?_ ?_ | refine S.eqInt rfl rfl ?_ ?_) <;> intro hlt <;> try (exfalso; omega))) | (refine S.op0 rfl ?_; first | refine S.storeS rfl rfl rfl (by rfl) rfl (by first | decide | exact Nat.le_refl _ | exact Nat.le_of_ble_eq_true rfl) ?_ | refine S.store rfl rfl (by (repeat' (first | assumption | exact AHeap.set_same _ _ _ | refine AHeap.get_fresh ‹_› ?_ | refine AHeap.so ?_ ?_ | exact AHeap.n1 ‹_› | exact AHeap.n2 ‹_› | exact AHeap.ne_of ‹_› ‹_› | exact AHeap.n4 ‹_› ‹_› | exact AHeap.n5 ‹_› | exact AHeap.n6 ‹_› | exact AHeap.n7 ‹_› ‹_› | exact AHeap.n8 ‹_› ‹_›)); first | done | fail) rfl rfl rfl (by rfl) rfl ?_) | refine S.skip rfl ?_ | refine S.skip0 rfl ?_ | refine S.seq ?_ | refine S.region ?_ | refine S.condT rfl ?_ | refine S.condF rfl ?_ | refine RRun.skip ?_ | refine RRun.block ?_ | refine RRun.inBlock ?_ | refine RRun.exit rfl ?_)
    rw [hmm]
    refine S.op rfl (S.wapp (ys := [UInt8.ofNat (n.toNat / 128 ^ (j + 1) % 128 + 128)]) rfl hp ho h0p h0t hpt hb rfl rfl (.sl _ _) (by simp only [List.length_cons, List.length_nil]; omega) (fun c' h' hp' hw' => ?_))
    repeat' (first | refine S.nilK ?_ | (refine S.op rfl ?_; first | refine S.subNN (n := 7) rfl rfl (by omega) (by omega) ?_ | refine R.mv rfl ?_ | refine R.fieldAddr rfl ?_ | refine R.fieldAddrR rfl ?_ | refine R.nilCheck rfl ?_ | refine R.nilCheckR rfl ?_ | refine R.loadR rfl rfl ?_ | refine R.load (by decide) rfl (by (repeat' (first | assumption | exact AHeap.set_same _ _ _ | refine AHeap.get_fresh ‹_› ?_ | refine AHeap.so ?_ ?_ | exact AHeap.n1 ‹_› | exact AHeap.n2 ‹_› | exact AHeap.ne_of ‹_› ‹_› | exact AHeap.n4 ‹_› ‹_› | exact AHeap.n5 ‹_› | exact AHeap.n6 ‹_› | exact AHeap.n7 ‹_› ‹_› | exact AHeap.n8 ‹_› ‹_›)); first | done | fail) rfl ?_ | refine S.addI rfl rfl (by omega) ?_ | refine S.subI rfl rfl (by omega) ?_ | refine S.addU rfl rfl ?_ | refine S.subU rfl rfl ?_ | refine S.addUc rfl (by decide) ?_ | refine S.subUc rfl (by decide) ?_ | refine S.arith rfl rfl rfl ?_ | refine R.len rfl ?_ | refine R.lenA rfl ?_ | refine R.lenStr rfl ?_ | refine S.convIU rfl (by omega) ?_ | refine S.convUI rfl (by omega) ?_ | refine R.convInt rfl ?_ | refine R.eqPtrNil rfl rfl ?_ | refine R.buildSl rfl rfl rfl (by decide) ?_ | ((first | refine S.lss rfl rfl ?_ ?_ | refine S.gtr rfl rfl ?_ ?_ | refine S.geq rfl rfl ?_ ?_ | refine S.eqInt rfl rfl ?_ ?_) <;> intro hlt <;> try (exfalso; omega))) | (refine S.op0 rfl ?_; first | refine S.storeS rfl rfl rfl (by rfl) rfl (by first | decide | exact Nat.le_refl _ | exact Nat.le_of_ble_eq_true rfl) ?_ | refine S.store rfl rfl (by (repeat' (first | assumption | exact AHeap.set_same _ _ _ | refine AHeap.get_fresh ‹_› ?_ | refine AHeap.so ?_ ?_ | exact AHeap.n1 ‹_› | exact AHeap.n2 ‹_› | exact AHeap.ne_of ‹_› ‹_› | exact AHeap.n4 ‹_› ‹_› | exact AHeap.n5 ‹_› | exact AHeap.n6 ‹_› | exact AHeap.n7 ‹_› ‹_› | exact AHeap.n8 ‹_› ‹_›)); first | done | fail) rfl rfl rfl (by rfl) rfl ?_) | refine S.skip rfl ?_ | refine S.skip0 rfl ?_ | refine S.seq ?_ | refine S.region ?_ | refine S.condT rfl ?_ | refine S.condF rfl ?_ | refine RRun.skip ?_ | refine RRun.block ?_ | refine RRun.inBlock ?_ | refine RRun.exit rfl ?_)
    rw [show 7 * (j + 1) - 7 = 7 * j by omega]
    refine S.keep [0, 5, 6, 9, 10, 11] rfl (ih _ _ (by omega) (by simp only [List.length_append, List.length_cons, List.length_nil]; omega) hw' (fun h2 hw2 => hkk h2 ?_))
    have : acc ++ Go.Proofs.Ytnmgamcmjjngcaa.hk n.toNat (j + 1) = acc ++ [UInt8.ofNat (n.toNat / 128 ^ (j + 1) % 128 + 128)] ++ Go.Proofs.Ytnmgamcmjjngcaa.hk n.toNat j := by
      simp [Go.Proofs.Ytnmgamcmjjngcaa.hk]
    rw [this]; exact hw2

end Go.Proofs.Ytnmgamcmjjngcaa
