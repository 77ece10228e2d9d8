/-
  AdyaDeps answers true for every history
-/
import Derived.Test.YthfolomknkobkaaP19
import Derived.Maps.RangeRun
set_option linter.unusedVariables false
namespace Go.Av
section
variable {P : Program} {c : Cls} {E : AEnv} {h : AHeap} {K : AV → AHeap → Prop}
theorem run_rangeNil {t k e : TypeId} (ht : P.underlying t = some (.map k e)) (w : World) :
    (Instr.range t (.map none)).run P w = .ok (.pointer (some ⟨w.heap.size, 0, none⟩)) (w.alloc (.mapIter none 0 #[] 0)) := by
  simp only [Instr.range, Sem.run_bind, run_underlying ht, Result.andThen_ok, Sem.run_pure, run_newObj_alloc]
theorem run_rangeMap {t k e : TypeId} (ht : P.underlying t = some (.map k e)) {w : World} {m : Nat} {es : Array MapEntry} {clock : Nat} (hm : w.heap[m]? = some (.map es clock)) :
    (Instr.range t (.map (some m))).run P w = .ok (.pointer (some ⟨w.heap.size, 0, none⟩)) (w.alloc (.mapIter (some m) clock #[] clock)) := by
  simp only [Instr.range, Sem.run_bind, run_underlying ht, Result.andThen_ok, Sem.run_pure, getObj, Sem.run, hm, run_newObj_alloc]
theorem R.rangeNil {x : Operand} (hc : c = .act) (hx : aev E x = some (.v (.map none))) (hk : ∀ b, h b = none → K (.v (.pointer (some ⟨b, 0, none⟩))) (h.set b (.keep (.mapIter none 0 #[] 0)))) : ROpS P c (.rangeMap x) E h K := by
  subst hc
  intro o ho
  refine AOp.act fun ρ w hops hr => ?_
  have hres := resOp_sound ho
  generalize hop : o.op = op' at hres hops
  cases hres with
  | rangeMap t k e _ ht =>
    have e1 := (hops x (by simp [Op.operands]) _ hx).inv_v
    refine ⟨_, _, _, _, ?_, hk w.heap.size hr.fresh, .v _, hr.alloc_own rfl, .alloc hr fun x hx => AHeap.set_other _ _ hx⟩
    simp only [execOp, hop, Sem.run_bind, e1, run_rangeNil ht, Result.andThen_ok, Sem.run_pure]
theorem R.rangeMap {x : Operand} {m : Nat} {ents : List (Value × AV)} (hc : c = .act) (hx : aev E x = some (.v (.map (some m)))) (hm : h m = some (.map ents))
    (hk : ∀ b s, h b = none → K (.v (.pointer (some ⟨b, 0, none⟩))) (h.set b (.keep (.mapIter (some m) s #[] s)))) : ROpS P c (.rangeMap x) E h K := by
  subst hc
  intro o ho
  refine AOp.act fun ρ w hops hr => ?_
  have hres := resOp_sound ho
  generalize hop : o.op = op' at hres hops
  cases hres with
  | rangeMap t k e _ ht =>
    have e1 := (hops x (by simp [Op.operands]) _ hx).inv_v
    obtain ⟨es, clock, g1, _⟩ := map_at hr hm
    refine ⟨_, _, _, _, ?_, hk w.heap.size clock hr.fresh, .v _, hr.alloc_own rfl, .alloc hr fun x hx => AHeap.set_other _ _ hx⟩
    simp only [execOp, hop, Sem.run_bind, e1, run_rangeMap ht g1, Result.andThen_ok, Sem.run_pure]
theorem R.nextNil {x : Operand} {b : Nat} (hc : c = .act) (hx : aev E x = some (.v (.pointer (some ⟨b, 0, none⟩)))) (hb : h b = some (.keep (.mapIter none 0 #[] 0))) (hk : K (.tu [.v (.bool false)]) h) : ROpS P c (.nextMap x) E h K := by
  subst hc
  intro o ho
  refine AOp.act fun ρ w hops hr => ?_
  have hres := resOp_sound ho
  generalize hop : o.op = op' at hres hops
  cases hres with
  | nextMap _ =>
    have e1 := (hops x (by simp [Op.operands]) _ hx).inv_v
    obtain ⟨y, hy, rfl⟩ := hr b _ hb
    refine ⟨.tuple #[.bool false], w, _, _, ?_, hk, .tu _ _ (.cons (.v _) .nil), hr, .refl h w⟩
    simp only [execOp, hop, Sem.run_bind, e1, Instr.next, getObj, Sem.run, hy, Result.andThen_ok, Result.andThen, Sem.run_pure]
theorem R.nextNone {x : Operand} {b m s : Nat} (hc : c = .act) (hx : aev E x = some (.v (.pointer (some ⟨b, 0, none⟩)))) (hb : h b = some (.keep (.mapIter (some m) s #[] s))) (hm : h m = some (.map [])) (hk : K (.tu [.v (.bool false)]) h) : ROpS P c (.nextMap x) E h K := by
  subst hc
  intro o ho
  refine AOp.act fun ρ w hops hr => ?_
  have hres := resOp_sound ho
  generalize hop : o.op = op' at hres hops
  cases hres with
  | nextMap _ =>
    have e1 := (hops x (by simp [Op.operands]) _ hx).inv_v
    obtain ⟨y, hy, rfl⟩ := hr b _ hb
    obtain ⟨es, clock, g1, g2, _⟩ := map_at hr hm
    have he : es = #[] := by cases es; simp_all
    subst he
    have hrun : (Instr.next (.pointer (some ⟨b, 0, none⟩)) false o.type).run P w = .ok (.tuple #[.bool false]) w := by
      rcases run_next_at (P := P) w o.type b m s s #[] #[] clock hy g1 (by simp) (Nat.le_refl _) with ⟨_, g⟩ | ⟨e, he, _⟩
      · exact g
      · simp [leftOf] at he
    refine ⟨.tuple #[.bool false], w, _, _, ?_, hk, .tu _ _ (.cons (.v _) .nil), hr, .refl h w⟩
    simp only [execOp, hop, Sem.run_bind, e1, hrun, Result.andThen_ok, Sem.run_pure]
end
end Go.Av
