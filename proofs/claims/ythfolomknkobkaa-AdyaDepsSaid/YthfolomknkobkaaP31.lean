/-
  AdyaDeps answers true for every history
-/
import Derived.Test.YthfolomknkobkaaP29
import Derived.Test.YthfolomknkobkaaP27
set_option linter.unusedVariables false
namespace Go.Av
section
variable {P : Program} {c : Cls} {E : AEnv} {h H H₀ : AHeap} {K : AV → AHeap → Prop}
theorem S.addK (a b k : Int) {x y : Operand} (hx : aev E x = some (i64 a)) (hy : aev E y = some (i64 b)) (hb : -9223372036854775808 ≤ a + b ∧ a + b ≤ 9223372036854775807) (e : a + b = k) (hk : K (i64 k) h) : ROpS P c (.bin .add x y) E h K := S.addI hx hy hb (by rw [e]; exact hk)
end
theorem S.drop {P : Program} {ro : Option Nat} {n : Nat} {k : List RT} {E : AEnv} {h h₀ : AHeap} {Q : Option Code → AEnv → AHeap → Prop} (hle : h₀.le h) (H : RRunG P ro n k E h₀ Q) : RRunG P ro n k E h Q :=
  RRun.weaken (fun _ _ h => h) (fun w hr => Rel.sub hle hr) H
def Glob (h : AHeap) : Prop := ∃ o m, h 0 = some (.keep o) ∧ ∀ w : World, w.heap[0]? = some o → w.cell? ⟨0, 0, none⟩ = some (.int .i64 m)
theorem Glob.cell {h : AHeap} {w : World} (hg : Glob h) (hr : Rel h w) : ∃ m, w.cell? ⟨0, 0, none⟩ = some (.int .i64 m) := by
  obtain ⟨o, m, h0, hc⟩ := hg
  obtain ⟨x, hx, hb⟩ := hr 0 _ h0
  have hb' : x = o := hb
  subst hb'
  exact ⟨m, hc w hx⟩
end Go.Av
