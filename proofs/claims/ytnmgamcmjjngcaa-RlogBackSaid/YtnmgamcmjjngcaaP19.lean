/-
  A log that is put record by record is replayed as it was, for every input (where its snapshot's members may be).
-/
import Derived.Test.YtnmgamcmjjngcaaP14
set_option linter.unusedVariables false
namespace Go.Av
theorem wrap_u64N {n : Nat} (h : n < 18446744073709551616) : IntKind.u64.wrap (n : Int) = n := by
  simp only [IntKind.wrap, IntKind.bits, IntKind.signed]
  simp
  omega
theorem wrap_u8N {n : Nat} (h : n < 256) : IntKind.u8.wrap (n : Int) = n := by
  simp only [IntKind.wrap, IntKind.bits, IntKind.signed]
  simp
  omega
section
variable {P : Program} {c : Cls} {E : AEnv} {h : AHeap} {K : AV → AHeap → Prop}
theorem S.shrN {x : Operand} {n s : Nat} (hs : s < 64) (hx : aev E x = some (.v (.int .u64 (n : Int)))) (hk : K (.v (.int .u64 ((n / 2 ^ s : Nat) : Int))) h) : ROpS P c (.bin .shr x (.const (.int .u64 (s : Int)))) E h K := by
  refine R.shr hx rfl (Int.natCast_nonneg s) ?_
  have e : min ((s : Int)).toNat IntKind.u64.bits = s := by simp only [Int.toNat_natCast, IntKind.bits]; omega
  rw [e]
  have : ((n : Int).fdiv (2 ^ s)) = ((n / 2 ^ s : Nat) : Int) := by
    rw [Int.fdiv_eq_ediv_of_nonneg _ (by exact_mod_cast Nat.zero_le _)]
    push_cast
    rfl
  rw [this]; exact hk
theorem S.shlN {x : Operand} {n s : Nat} (hs : s < 64) (hn : n * 2 ^ s < 18446744073709551616) (hx : aev E x = some (.v (.int .u64 (n : Int)))) (hk : K (.v (.int .u64 ((n * 2 ^ s : Nat) : Int))) h) : ROpS P c (.bin .shl x (.const (.int .u64 (s : Int)))) E h K := by
  refine R.shl hx rfl (Int.natCast_nonneg s) ?_
  have e : min ((s : Int)).toNat IntKind.u64.bits = s := by simp only [Int.toNat_natCast, IntKind.bits]; omega
  rw [e]
  have : ((n : Int) * 2 ^ s) = ((n * 2 ^ s : Nat) : Int) := by push_cast; rfl
  rw [this, wrap_u64N hn]; exact hk
theorem S.convU {k : IntKind} {x : Operand} {m : Nat} (hm : m < 18446744073709551616) (hx : aev E x = some (.v (.int k (m : Int)))) (hk : K (.v (.int .u64 (m : Int))) h) : ROpS P c (.convInt .u64 x) E h K := by
  refine R.convInt hx ?_
  rw [wrap_u64N hm]; exact hk
theorem andNot128 : ∀ m : Fin 256, (BitVec.ofInt 8 (m.val : Int) &&& ~~~(BitVec.ofInt 8 128)).toNat = m.val % 128 := by decide +kernel
theorem S.andNot7 {x : Operand} {m : Nat} (hm : m < 256) (hx : aev E x = some (.v (.int .u8 (m : Int)))) (hk : K (.v (.int .u8 ((m % 128 : Nat) : Int))) h) : ROpS P c (.bin .andNot x (.const (.int .u8 128))) E h K := by
  refine R.bin hx rfl rfl ?_
  have e := andNot128 ⟨m, hm⟩
  show K (.v (.int .u8 (IntKind.u8.wrap ((BitVec.ofInt 8 (m : Int) &&& ~~~(BitVec.ofInt 8 128)).toNat : Int)))) h
  rw [e, wrap_u8N (by omega)]; exact hk
theorem S.or7 {x y : Operand} {n b : Nat} (hb : b < 128) (hn : n * 128 < 18446744073709551616) (hx : aev E x = some (.v (.int .u64 ((n * 128 : Nat) : Int)))) (hy : aev E y = some (.v (.int .u64 (b : Int)))) (hk : K (.v (.int .u64 ((n * 128 + b : Nat) : Int))) h) : ROpS P c (.bin .or x y) E h K := by
  refine R.bin hx hy rfl ?_
  have e : (BitVec.ofInt 64 ((n * 128 : Nat) : Int) ||| BitVec.ofInt 64 (b : Int)).toNat = n * 128 + b := by
    rw [BitVec.toNat_or, BitVec.ofInt_natCast, BitVec.ofInt_natCast, BitVec.toNat_ofNat, BitVec.toNat_ofNat, Nat.mod_eq_of_lt hn, Nat.mod_eq_of_lt (by omega)]
    have := Nat.shiftLeft_add_eq_or_of_lt (a := n) (b := b) (i := 7) (by omega)
    rw [Nat.shiftLeft_eq] at this
    exact this.symm
  show K (.v (.int .u64 (IntKind.u64.wrap ((BitVec.ofInt 64 ((n * 128 : Nat) : Int) ||| BitVec.ofInt 64 (b : Int)).toNat : Int)))) h
  rw [e, wrap_u64N (by omega)]; exact hk
theorem S.rem8 {x : Operand} {m : Nat} (hx : aev E x = some (.v (.int .u8 (m : Int)))) (hk : K (.v (.int .u8 ((m % 128 : Nat) : Int))) h) : ROpS P c (.bin .rem x (.const (.int .u8 128))) E h K := by
  refine R.bin hx rfl (show binInt .rem .u8 (m : Int) 128 = some (.int .u8 ((m % 128 : Nat) : Int)) from ?_) hk
  show (if (128 : Int) = 0 then none else some (Value.int .u8 ((m : Int).tmod 128))) = _
  rw [if_neg (by decide)]
  rfl
theorem S.mulN {x : Operand} {n m : Nat} (hn : n * m < 18446744073709551616) (hx : aev E x = some (.v (.int .u64 (n : Int)))) (hk : K (.v (.int .u64 ((n * m : Nat) : Int))) h) : ROpS P c (.bin .mul x (.const (.int .u64 (m : Int)))) E h K := by
  refine R.bin hx rfl rfl ?_
  have : ((n : Int) * (m : Int)) = ((n * m : Nat) : Int) := by push_cast; rfl
  rw [this, wrap_u64N hn]; exact hk
theorem S.addN {x y : Operand} {n m : Nat} (hn : n + m < 18446744073709551616) (hx : aev E x = some (.v (.int .u64 (n : Int)))) (hy : aev E y = some (.v (.int .u64 (m : Int)))) (hk : K (.v (.int .u64 ((n + m : Nat) : Int))) h) : ROpS P c (.bin .add x y) E h K := by
  refine R.bin hx hy rfl ?_
  have : ((n : Int) + (m : Int)) = ((n + m : Nat) : Int) := by push_cast; rfl
  rw [this, wrap_u64N hn]; exact hk
end
end Go.Av
