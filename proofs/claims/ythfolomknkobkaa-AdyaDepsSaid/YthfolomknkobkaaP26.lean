/-
  AdyaDeps answers true for every history
-/
import Derived.Test.YthfolomknkobkaaP15
set_option linter.unusedVariables false
namespace Go.Av
theorem wrap_u64N {n : Nat} (h : n < 18446744073709551616) : IntKind.u64.wrap (n : Int) = n := by
  simp only [IntKind.wrap, IntKind.bits, IntKind.signed]
  simp
  omega
section
variable {P : Program} {c : Cls} {E : AEnv} {h : AHeap} {K : AV → AHeap → Prop}
theorem S.shrN {x : Operand} {n s : Nat} (hs : s < 64) (hx : aev E x = some (.v (.int .u64 (n : Int)))) (hk : K (.v (.int .u64 ((n / 2 ^ s : Nat) : Int))) h) : ROpS P c (.bin .shr x (.const (.int .u64 (s : Int)))) E h K := by
  refine R.shr hx rfl (Int.natCast_nonneg s) ?_
  have e : min ((s : Int)).toNat IntKind.u64.bits = s := by simp only [Int.toNat_natCast, IntKind.bits]; omega
  rw [e]
  have : ((n : Int).fdiv (2 ^ s)) = ((n / 2 ^ s : Nat) : Int) := by
    rw [Int.fdiv_eq_ediv_of_nonneg _ (by exact_mod_cast Nat.zero_le _)]
    push_cast
    rfl
  rw [this]; exact hk
theorem S.convU {k : IntKind} {x : Operand} {m : Nat} (hm : m < 18446744073709551616) (hx : aev E x = some (.v (.int k (m : Int)))) (hk : K (.v (.int .u64 (m : Int))) h) : ROpS P c (.convInt .u64 x) E h K := by
  refine R.convInt hx ?_
  rw [wrap_u64N hm]; exact hk
end
end Go.Av
