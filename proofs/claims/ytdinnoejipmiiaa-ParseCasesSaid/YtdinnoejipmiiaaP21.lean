/-
  ParseCases answers true for every text: a text without a quote reads the same, small or great its letters. No condition.
-/
import Derived.Test.YtdinnoejipmiiaaP20
import Derived.Test.YtdinnoejipmiiaaP18
set_option linter.unusedVariables false
namespace Go.Av
theorem AHeap.upd1 {G H' : AHeap} {p b : Nat} {o x : ABlk} (hn : b ≠ p) (hH : G.set p o = H') : (G.set b x).set p o = H'.set b x := by rw [AHeap.set_comm _ _ _ hn, hH]
section
variable {P : Program} {c : Cls} {E : AEnv} {h H H₀ : AHeap} {K : AV → AHeap → Prop}
theorem S.storeN {sz : Nat} {x y : Operand} {b off : Nat} {cs : List AV} {av : AV} {xs : List AV} (hc : c = .act) (hx : aev E x = some (.v (.pointer (some ⟨b, off, none⟩)))) (hb : h b = some (.box cs)) (hy : aev E y = some av) (hxs : av.cells? = some xs) (hl : xs.length = sz)
    (hfit : ((cs.drop off).take sz).length = sz) (h0 : Nat.ble 1 sz = true) (hH : h.set b (.box (over cs off xs)) = H) (hk : K (.v undef) H) : ROpS P c (.store sz x y) E h K :=
  S.store hc hx hb hy hxs hl hfit h0 (by rw [hH]; exact hk)
theorem callN {f : FuncId} {args : List Operand} {avl : List AV} {x : AV} (hc : c = .act) (ha : avs E args = some avl) (hcall : ACalls P f avl h (fun x' h' => x' = x ∧ h' = H₀)) (hH : H₀ = H) (hk : K x H) : ROpS P c (.call f args) E h K :=
  R.call hc ha (hcall.mono fun x' h' ⟨e1, e2⟩ => by subst e1; rw [e2, hH]; exact hk)
theorem callNU {f : FuncId} {args : List Operand} {avl : List AV} (hc : c = .act) (ha : avs E args = some avl) (hcall : ACalls P f avl h (fun _ h' => h' = H₀)) (hH : H₀ = H) (hk : ∀ x, K x H) : ROpS P c (.call f args) E h K :=
  R.call hc ha (hcall.mono fun x' h' e => by rw [e, hH]; exact hk x')
theorem S.subK (a b k : Int) {x y : Operand} (hx : aev E x = some (i64 a)) (hy : aev E y = some (i64 b)) (hb : -9223372036854775808 ≤ a - b ∧ a - b ≤ 9223372036854775807) (e : a - b = k) (hk : K (i64 k) h) : ROpS P c (.bin .sub x y) E h K := S.subI hx hy hb (by rw [e]; exact hk)
theorem S.eqSv {neg : Bool} {kk : EqK} {x y : Operand} {a b : List UInt8} {v : Bool} (hx : aev E x = some (str a)) (hy : aev E y = some (str b)) (hv : (a == b) = v) (hk : K (.v (.bool (if neg then !v else v))) h) : ROpS P c (.eq neg kk x y) E h K :=
  S.eqS hx hy (by rw [hv]; exact hk)
end
theorem S.drop {P : Program} {ro : Option Nat} {n : Nat} {k : List RT} {E : AEnv} {h h₀ : AHeap} {Q : Option Code → AEnv → AHeap → Prop} (hle : h₀.le h) (H : RRunG P ro n k E h₀ Q) : RRunG P ro n k E h Q :=
  RRun.weaken (fun _ _ h => h) (fun w hr => Rel.sub hle hr) H
theorem S.lenLe {P : Program} {ro : Option Nat} {n : Nat} {k : List RT} {l : List (Nat × AV)} {h : AHeap} {Q : Option Code → AEnv → AHeap → Prop} {t sz : Nat} {es : List (List AV)} {c : Cap} (hl : Env.get l t = some (.sl sz es c))
    (H : es.length ≤ 9223372036854775807 → RRunG P ro n k (Env.get l) h Q) : RRunG P ro n k (Env.get l) h Q := by
  intro todo ht ds a w hst
  refine H ?_ todo ht ds a w hst
  obtain ⟨u, _, hu⟩ := hst.env t _ hl
  cases hu with
  | sl _ _ _ b off cap vs h1 h2 h3 h4 h5 h6 => exact Nat.le_trans h4 h5
  | nil => simp
def Glob (h : AHeap) : Prop := ∃ o m, h 0 = some (.keep o) ∧ ∀ w : World, w.heap[0]? = some o → w.cell? ⟨0, 0, none⟩ = some (.int .i64 m)
theorem Glob.setF {h : AHeap} {b : Nat} {o : ABlk} (hg : Glob h) (hb : h b = none) : Glob (h.set b o) := by
  obtain ⟨o', m, h0, hc⟩ := hg
  exact ⟨o', m, by rw [AHeap.set_other _ _ (fun e => by subst e; rw [hb] at h0; cases h0)]; exact h0, hc⟩
theorem Glob.setP {h : AHeap} {b : Nat} {o : ABlk} {cs : List AV} (hg : Glob h) (hb : h b = some (.box cs)) : Glob (h.set b o) := by
  obtain ⟨o', m, h0, hc⟩ := hg
  exact ⟨o', m, by rw [AHeap.set_other _ _ (fun e => by subst e; rw [hb] at h0; cases h0)]; exact h0, hc⟩
theorem Glob.cell {h : AHeap} {w : World} (hg : Glob h) (hr : Rel h w) : ∃ m, w.cell? ⟨0, 0, none⟩ = some (.int .i64 m) := by
  obtain ⟨o, m, h0, hc⟩ := hg
  obtain ⟨x, hx, hb⟩ := hr 0 _ h0
  have hb' : x = o := hb
  subst hb'
  exact ⟨m, hc w hx⟩
def globH (o : Obj) : AHeap := AHeap.empty.set 0 (.keep o)
theorem globH_ok {w : World} {o : Obj} {m : Int} (ho : w.heap[0]? = some o) (hm : w.cell? ⟨0, 0, none⟩ = some (.int .i64 m)) : Glob (globH o) ∧ Rel (globH o) w := by
  refine ⟨⟨o, m, AHeap.set_same _ _ _, fun w' hw' => ?_⟩, fun b y hy => ?_⟩
  · rw [cell?_congr (w := w) (w' := w') (by rw [hw', ho])]; exact hm
  · by_cases hb : b = 0
    · subst hb
      rw [globH, AHeap.set_same, Option.some.injEq] at hy
      subst hy
      exact ⟨o, ho, rfl⟩
    · rw [globH, AHeap.set_other _ _ hb] at hy
      cases hy
theorem globH_below {w w' : World} {o : Obj} (ho : w.heap[0]? = some o) (hr : Rel (globH o) w') (hev : Evol (globH o) w (globH o) w') : RowKit.Below w.heap.size w w' :=
  ⟨hev.os, hev.tape, hev.output, hev.size, fun k hk => by
    by_cases h0 : k = 0
    · subst h0
      obtain ⟨x, hx, hb⟩ := hr 0 (.keep o) (AHeap.set_same _ _ _)
      have hb' : x = o := hb
      rw [hx, hb', ho]
    · exact (hev.free k hk (AHeap.set_other _ _ h0)).2⟩
end Go.Av
