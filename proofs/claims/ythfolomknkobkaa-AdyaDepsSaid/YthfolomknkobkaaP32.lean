/-
  AdyaDeps answers true for every history
-/
import Derived.Test.YthfolomknkobkaaP20
set_option linter.unusedVariables false
namespace Go.Av
open Go.ChangeMaps (setBlock)
section
variable {P : Program} {c : Cls} {E : AEnv} {h : AHeap} {K : AV → AHeap → Prop}
theorem R.rangeMapK {x : Operand} {m : Nat} {ents : List (Value × AV)} (hc : c = .act) (hx : aev E x = some (.v (.map (some m)))) (hm : h m = some (.map ents))
    (hk : ∀ b es s, h b = none → es.toList.map (·.key) = ents.map (·.1) → (es.toList.map (·.born)).Nodup → (∀ e ∈ es.toList, e.born < s) → K (.v (.pointer (some ⟨b, 0, none⟩))) ((h.set m (.keep (.map es s))).set b (.keep (.mapIter (some m) s #[] s)))) : ROpS P c (.rangeMap x) E h K := by
  subst hc
  intro o ho
  refine AOp.act fun ρ w hops hr => ?_
  have hres := resOp_sound ho
  generalize hop : o.op = op' at hres hops
  cases hres with
  | rangeMap t k e _ ht =>
    have e1 := (hops x (by simp [Op.operands]) _ hx).inv_v
    obtain ⟨es, clock, g1, g2, g3, g4, g5⟩ := map_at hr hm
    have hs1 : (stab h w).le (stab (h.set m (.keep (.map es clock))) w) := by
      intro a u ha
      by_cases hab : a.block = m
      · simp only [stab, hab, hm] at ha; cases ha
      · rw [stab_congr (h := h) (w := w) (AHeap.set_other h _ hab) rfl]; exact ha
    have hr1 : Rel (h.set m (.keep (.map es clock))) w := hr.step (b := m) (fun y hy => AHeap.set_other _ _ hy) (fun _ _ _ => rfl) hs1 (fun o ho => by
      rw [AHeap.set_same] at ho; cases ho; exact ⟨_, g1, rfl⟩)
    have hev1 : Evol h w (h.set m (.keep (.map es clock))) w := ⟨rfl, rfl, rfl, Nat.le_refl _, hs1, fun b hb hn => ⟨by rw [AHeap.set_other _ _ (fun e => by subst e; rw [hm] at hn; cases hn)]; exact hn, rfl⟩⟩
    refine ⟨_, _, _, _, ?_, hk w.heap.size es clock hr.fresh g2 g4 g5, .v _, hr1.alloc_own rfl, hev1.trans (.alloc hr1 fun x hx => AHeap.set_other _ _ hx)⟩
    simp only [execOp, hop, Sem.run_bind, e1, run_rangeMap ht g1, Result.andThen_ok, Sem.run_pure]
theorem Rel.setKeep {w : World} (hr : Rel h w) {b : Nat} {o o' : Obj} (hb : h b = some (.keep o)) : Rel (h.set b (.keep o')) (setBlock w b o') ∧ Evol h w (h.set b (.keep o')) (setBlock w b o') := by
  have hlt := hr.lt hb
  have hsame : (setBlock w b o').heap[b]? = some o' := by simp [setBlock, hlt]
  have hoth : ∀ y, y ≠ b → (setBlock w b o').heap[y]? = w.heap[y]? := fun y hy => by simp [setBlock, Ne.symm hy]
  have hle : (stab h w).le (stab (h.set b (.keep o')) (setBlock w b o')) := by
    intro a u ha
    by_cases hab : a.block = b
    · simp only [stab, hab, hb] at ha; cases ha
    · rw [stab_congr (h := h) (w := w) (AHeap.set_other h _ hab) (hoth _ hab)]; exact ha
  refine ⟨hr.step (b := b) (fun y hy => AHeap.set_other _ _ hy) (fun y hy _ => hoth y hy) hle (fun p hp => ?_), rfl, rfl, rfl, by simp [setBlock], hle, fun y hy hn => ?_⟩
  · rw [AHeap.set_same] at hp; cases hp; exact ⟨_, hsame, rfl⟩
  · have hne : y ≠ b := fun e => by subst e; rw [hb] at hn; cases hn
    exact ⟨by rw [AHeap.set_other _ _ hne]; exact hn, hoth y hne⟩
theorem R.nextMapK {x : Operand} {b m s : Nat} {es : Array MapEntry} {seen : Array Nat} (hc : c = .act) (hx : aev E x = some (.v (.pointer (some ⟨b, 0, none⟩)))) (hb : h b = some (.keep (.mapIter (some m) s seen s))) (hm : h m = some (.keep (.map es s))) (hold : ∀ e ∈ es.toList, e.born < s)
    (h0 : (leftOf es seen).size = 0 → K (.tu [.v (.bool false)]) h)
    (h1 : ∀ e ∈ (leftOf es seen).toList, K (.tu [.v (.bool true), .v e.key, .v e.val]) (h.set b (.keep (.mapIter (some m) s (seen.push e.born) s)))) : ROpS P c (.nextMap x) E h K := by
  subst hc
  intro o ho
  refine AOp.act fun ρ w hops hr => ?_
  have hres := resOp_sound ho
  generalize hop : o.op = op' at hres hops
  cases hres with
  | nextMap _ =>
    have e1 := (hops x (by simp [Op.operands]) _ hx).inv_v
    obtain ⟨y, hy, rfl⟩ := hr b _ hb
    obtain ⟨z, hz, rfl⟩ := hr m _ hm
    rcases run_next_at (P := P) w o.type b m s s seen es s hy hz hold (Nat.le_refl _) with ⟨g0, g⟩ | ⟨e, he, w1, hw1, g⟩
    · refine ⟨.tuple #[.bool false], w, _, _, ?_, h0 g0, .tu _ _ (.cons (.v _) .nil), hr, .refl h w⟩
      simp only [execOp, hop, Sem.run_bind, e1, g, Result.andThen_ok, Sem.run_pure]
    · have hr1 : Rel h w1 ∧ Evol h w h w1 := by
        rcases hw1 with rfl | rfl
        · exact ⟨hr, .refl _ _⟩
        · exact ⟨hr.drew, .drew _ _⟩
      obtain ⟨r1, r2⟩ := hr1.1.setKeep (o' := .mapIter (some m) s (seen.push e.born) s) hb
      refine ⟨.tuple #[.bool true, e.key, e.val], _, _, _, ?_, h1 e he, .tu _ _ (.cons (.v _) (.cons (.v _) (.cons (.v _) .nil))), r1, hr1.2.trans r2⟩
      simp only [execOp, hop, Sem.run_bind, e1, g, Result.andThen_ok, Sem.run_pure]
theorem R.entryMapK {x : Operand} {b m s : Nat} {es : Array MapEntry} {seen : Array Nat} {e : MapEntry} (hc : c = .act) (hx : aev E x = some (.v (.pointer (some ⟨b, 0, none⟩)))) (hb : h b = some (.keep (.mapIter (some m) s (seen.push e.born) s))) (hm : h m = some (.keep (.map es s))) (he : e ∈ es.toList) (hn : (es.toList.map (·.born)).Nodup)
    (hk : K (.tu [.v e.key, .v e.val]) h) : ROpS P c (.entryMap x) E h K := by
  subst hc
  intro o ho
  refine AOp.act fun ρ w hops hr => ?_
  have hres := resOp_sound ho
  generalize hop : o.op = op' at hres hops
  cases hres with
  | entryMap _ =>
    have e1 := (hops x (by simp [Op.operands]) _ hx).inv_v
    obtain ⟨y, hy, rfl⟩ := hr b _ hb
    obtain ⟨z, hz, rfl⟩ := hr m _ hm
    have g := run_entry_at (P := P) w b m s seen es s e hy hz he hn
    refine ⟨.tuple #[e.key, e.val], w, _, _, ?_, hk, .tu _ _ (.cons (.v _) (.cons (.v _) .nil)), hr, .refl h w⟩
    simp only [execOp, hop, Sem.run_bind, e1, g, Result.andThen_ok, Sem.run_pure]
end
end Go.Av
