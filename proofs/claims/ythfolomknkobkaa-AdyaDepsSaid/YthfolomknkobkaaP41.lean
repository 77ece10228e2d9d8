/-
  AdyaDeps answers true for every history
-/
import Derived.Test.YthfolomknkobkaaP38
import Derived.Test.YthfolomknkobkaaP40
import Derived.DeepKeys4
import Derived.Test.YthfolomknkobkaaP33
set_option linter.unusedVariables false
set_option linter.unusedSimpArgs false
namespace Go.Proofs.Ythfolomknkobkaa
open Go.Av
open Go.Ad (Seen Span Run Dep addD)
def depV (d : Dep) : Value := .agg #[.int .u64 d.src.toNat, .int .u64 d.dst.toNat, .int .i64 d.kind]
def wfD (d : Dep) : Prop := d.kind = 1 ∨ d.kind = 2 ∨ d.kind = 3
theorem depV_inj {a b : Dep} (h : depV a = depV b) : a = b := by
  obtain ⟨a1, a2, a3⟩ := a
  obtain ⟨b1, b2, b3⟩ := b
  simp only [depV, Value.agg.injEq, Array.mk.injEq, List.cons.injEq, Value.int.injEq, true_and, and_true] at h
  obtain ⟨h1, h2, h3⟩ := h
  have e1 : a1 = b1 := UInt64.toNat_inj.1 (by exact_mod_cast h1)
  have e2 : a2 = b2 := UInt64.toNat_inj.1 (by exact_mod_cast h2)
  subst e1; subst e2; subst h3; rfl
theorem laid : laidOutB Try.prog = true := by kernel_rfl
theorem types_pos : ∃ m, Try.prog.types.size = m + 1 := ⟨Try.prog.types.size - 1, by
  have : 0 < Try.prog.types.size := of_decide_eq_true (by kernel_rfl)
  omega⟩
theorem depLaw : WideMaps.KeyLaw Try.prog 31 := deep_law_laid laid (m := 3) (by decide) (of_decide_eq_true (by kernel_rfl)) (by kernel_rfl) (by kernel_rfl)
theorem wf_u64 (x : UInt64) : (Lit.int .u64 (x.toNat : Int)).wf = true := by
  have := x.toNat_lt
  simp [Lit.wf, IntKind.min, IntKind.max, IntKind.signed, IntKind.bits]
  omega
theorem depKey (d : Dep) (hd : wfD d) : ∃ l, keyOf Try.prog 31 (depV d) = some l := by
  obtain ⟨m, hm⟩ := types_pos
  have hkt : Try.prog.keyType 31 = true := by kernel_rfl
  have hc : Try.prog.cellsOf 31 = 3 := by kernel_rfl
  have w3 : (Lit.int .i64 d.kind).wf = true := by rcases hd with h | h | h <;> rw [h] <;> rfl
  refine ⟨.string (keyBytes [.int .u64 d.src.toNat, .int .u64 d.dst.toNat, .int .i64 d.kind]), ?_⟩
  unfold keyOf
  simp only [Try.underlying31]
  rw [if_pos (by simp [hkt, Value.formed, depV, Try.underlying31, hc]), hm]
  unfold Program.keyLits
  simp only [Try.underlying31, depV, Value.cells]
  have c29 : Try.prog.cellsOf 29 = 1 := by kernel_rfl
  have c3 : Try.prog.cellsOf 3 = 1 := by kernel_rfl
  rw [if_pos ⟨by rw [hc]; rfl, by first | decide | simp⟩]
  simp only [List.mapM_cons, List.mapM_nil, c29, c3, List.drop_zero, List.drop_succ_cons, List.take_succ_cons, List.take_zero]
  unfold Program.keyLits
  simp [Try.underlying29, Try.underlying3, wf_u64, w3]
def entsD (out : List Dep) : List (Value × AV) := out.map fun d => (depV d, bl true)
theorem depA_key (d : Dep) : ∀ st u, VRel st (.ag (depC d)) u → u = depV d := fun st u hu => by
  cases hu with
  | ag _ vs hv =>
    obtain ⟨l⟩ := vs
    have hv' : VRels st ([.int .u64 d.src.toNat, .int .u64 d.dst.toNat, .int .i64 d.kind].map AV.v) l := hv
    rw [hv'.atoms]; rfl
theorem entsD_keys {out : List Dep} (hw : ∀ d ∈ out, wfD d) : ∀ p ∈ entsD out, ∃ l, keyOf Try.prog 31 p.1 = some l := fun p hp => by
  obtain ⟨d, hd, rfl⟩ := List.mem_map.1 hp
  exact depKey d (hw d hd)
theorem S.lookupD {c : Cls} {E : AEnv} {h : AHeap} {K : AV → AHeap → Prop} {x y : Operand} {bm : Nat} {out : List Dep} {d : Dep} (hw : ∀ d ∈ out, wfD d) (hd : wfD d) (hc : c ≠ .pure) (hx : aev E x = some (.v (.map (some bm)))) (hb : h bm = some (.map (entsD out)))
    {bb : Bool} (hbb : decide (d ∈ out) = bb) (hy : aev E y = some (.ag (depC d))) (hk : K (bl bb) h) : ROpS Try.prog c (.lookup 31 (.bool false) x y false) E h K := by
  subst hbb
  obtain ⟨lk, hlk⟩ := depKey d hd
  refine R.lookup (key := depV d) (l := lk) depLaw hc hx hb hy (depA_key d) hlk (entsD_keys hw) ?_ ?_ hk
  · intro hno
    rw [decide_eq_false (fun hm => hno _ (List.mem_map.2 ⟨d, hm, rfl⟩) rfl)]
  · intro j av hj
    obtain ⟨q, hq, he⟩ := List.mem_map.1 (List.mem_of_getElem? hj)
    have h1 : depV q = depV d := congrArg Prod.fst he
    have h2 : bl true = av := congrArg Prod.snd he
    rw [decide_eq_true (depV_inj h1 ▸ hq), ← h2]
theorem S.updateD {c : Cls} {E : AEnv} {h : AHeap} {K : AV → AHeap → Prop} {x y : Operand} {bm : Nat} {out : List Dep} {d : Dep} (hw : ∀ d ∈ out, wfD d) (hd : wfD d) (hn : d ∉ out) (hc : c = .act) (hx : aev E x = some (.v (.map (some bm)))) (hb : h bm = some (.map (entsD out)))
    (hy : aev E y = some (.ag (depC d))) (hk : K (.v undef) (h.set bm (.map (entsD (out ++ [d]))))) : ROpS Try.prog c (.mapUpdate 31 x y (.const (.bool true))) E h K := by
  obtain ⟨lk, hlk⟩ := depKey d hd
  refine R.mapUpdate (key := depV d) (l := lk) depLaw hc hx hb hy (depA_key d) rfl hlk (entsD_keys hw) (fun hno => ?_) (fun j av hj => ?_)
  · have e : entsD (out ++ [d]) = entsD out ++ [(depV d, .v (.bool true))] := by simp [entsD]
    rw [e] at hk; exact hk
  · exfalso
    obtain ⟨q, hq, he⟩ := List.mem_map.1 (List.mem_of_getElem? hj)
    exact hn (depV_inj (congrArg Prod.fst he) ▸ hq)
structure GAt (l : List Run) (gp mp : Nat) (b0 : AHeap) (out : List Dep) (h : AHeap) : Prop where
  ex : ∃ c, OwnT h c ∧ (∀ x, TokC c x → b0 x = none) ∧ h gp = some (.box [runsA l, .v (.map (some mp)), .sl 3 (out.map depC) c])
  map : h mp = some (.map (entsD out))
  fr : ∀ x o, b0 x = some o → h x = some o
  g0 : b0 gp = none
  m0 : b0 mp = none
  wf : ∀ d ∈ out, wfD d
theorem GAt.nn {l : List Run} {gp mp : Nat} {b0 h : AHeap} {out : List Dep} (G : GAt l gp mp b0 out h) {b : Nat} (hb : h b = none) : b0 b = none := by
  cases e : b0 b with
  | none => rfl
  | some o => rw [G.fr b o e] at hb; cases hb
theorem GAt.loc {l : List Run} {gp mp : Nat} {b0 h : AHeap} {out : List Dep} (G : GAt l gp mp b0 out h) {b : Nat} (o : ABlk) (hb : h b = none) : GAt l gp mp (b0.set b o) out (h.set b o) := by
  obtain ⟨⟨c, g1, g2, g3⟩, g4, g5, g6, g7, g8⟩ := G
  have hgb : gp ≠ b := fun e => by subst e; rw [g3] at hb; cases hb
  have hmb : mp ≠ b := fun e => by subst e; rw [g4] at hb; cases hb
  refine ⟨⟨c, ownT_loc g1 fun x hx => AHeap.set_other _ _ (fun e => by subst e; exact ownT_own g1 x hx hb), fun x hx => ?_, by rw [AHeap.set_other _ _ hgb]; exact g3⟩, by rw [AHeap.set_other _ _ hmb]; exact g4, fun x o2 hx => ?_, by rw [AHeap.set_other _ _ hgb]; exact g6, by rw [AHeap.set_other _ _ hmb]; exact g7, g8⟩
  · rw [AHeap.set_other _ _ (fun e => by subst e; exact ownT_own g1 x hx hb)]; exact g2 x hx
  · by_cases hxb : x = b
    · subst hxb; rw [AHeap.set_same] at hx ⊢; exact hx
    · rw [AHeap.set_other _ _ hxb] at hx ⊢; exact g5 x o2 hx
theorem GAt.weak {l : List Run} {gp mp : Nat} {b0 b1 h : AHeap} {out : List Dep} (G : GAt l gp mp b1 out h) (hs : ∀ x o, b0 x = some o → b1 x = some o) : GAt l gp mp b0 out h := by
  obtain ⟨⟨c, g1, g2, g3⟩, g4, g5, g6, g7, g8⟩ := G
  have hn : ∀ x, b1 x = none → b0 x = none := fun x e => by
    cases e0 : b0 x with
    | none => rfl
    | some o => rw [hs x o e0] at e; cases e
  exact ⟨⟨c, g1, fun x hx => hn x (g2 x hx), g3⟩, g4, fun x o hx => g5 x o (hs x o hx), hn gp g6, hn mp g7, g8⟩
theorem GAt.drop {l : List Run} {gp mp : Nat} {b0 h : AHeap} {out : List Dep} {b : Nat} {o : ABlk} (G : GAt l gp mp (b0.set b o) out h) (hb : b0 b = none) : GAt l gp mp b0 out h :=
  G.weak fun x o2 hx => by rw [AHeap.set_other _ _ (fun e => by subst e; rw [hb] at hx; cases hx)]; exact hx
def r27 : RCode :=
  (.seq (.region [
    ⟨(some 3), none, .act, .box (.tmp 1)⟩])
  (.seq (.region [
    ⟨(some 4), none, .pure, .mv (.tmp 0)⟩,
    ⟨(some 5), none, .pure, .nilCheck (.tmp 4)⟩,
    ⟨(some 6), none, .pure, .fieldAddr 1 (.tmp 5)⟩,
    ⟨(some 7), none, .read, .load false 1 (.tmp 6)⟩,
    ⟨(some 8), none, .read, .load true 3 (.tmp 3)⟩,
    ⟨(some 9), none, .read, .lookup 31 (.bool false) (.tmp 7) (.tmp 8) false⟩,
    ⟨(some 10), none, .pure, .un .not (.tmp 9)⟩])
  (.cond (.tmp 10)
   (.seq (.region [
     ⟨(some 11), none, .pure, .mv (.tmp 0)⟩,
     ⟨(some 12), none, .pure, .nilCheck (.tmp 11)⟩,
     ⟨(some 13), none, .pure, .fieldAddr 1 (.tmp 12)⟩,
     ⟨(some 14), none, .read, .load false 1 (.tmp 13)⟩,
     ⟨(some 15), none, .read, .load true 3 (.tmp 3)⟩,
     ⟨none, none, .act, .mapUpdate 31 (.tmp 14) (.tmp 15) (.const (.bool true))⟩])
   (.region [
     ⟨(some 16), none, .pure, .mv (.tmp 0)⟩,
     ⟨(some 17), none, .pure, .mv (.tmp 0)⟩,
     ⟨(some 18), none, .pure, .nilCheck (.tmp 17)⟩,
     ⟨(some 19), none, .pure, .fieldAddr 2 (.tmp 18)⟩,
     ⟨(some 20), none, .read, .load false 1 (.tmp 19)⟩,
     ⟨(some 21), none, .read, .load true 3 (.tmp 3)⟩,
     ⟨(some 22), none, .pure, .buildSl 3 [(.int .u64 0), (.int .u64 0), (.int .i64 0)] 1 [(0, (.tmp 21))]⟩,
     ⟨(some 23), none, .act, .append 3 24 [(.int .u64 0), (.int .u64 0), (.int .i64 0)] (.tmp 20) (.tmp 22)⟩,
     ⟨(some 24), none, .pure, .nilCheck (.tmp 16)⟩,
     ⟨(some 25), none, .pure, .fieldAddr 2 (.tmp 24)⟩,
     ⟨none, none, .act, .store 1 (.tmp 25) (.tmp 23)⟩]))
   .skip)))
theorem res27 : ∃ c, Try.f27.body = some c ∧ resCode Try.prog 26 c = some r27 := ⟨_, rfl, by kernel_rfl⟩
theorem rr27 : resRes Try.prog Try.f27.results.toList = some [] := by kernel_rfl
theorem add_spec {l : List Run} {gp mp : Nat} {b0 h : AHeap} {out : List Dep} (G : GAt l gp mp b0 out h) (d : Dep) (hd : wfD d) (hlen : out.length ≤ 1000000) :
    ACalls Try.prog 27 [ptr gp, .ag (depC d)] h (fun _ h' => GAt l gp mp b0 (addD out d) h') := by
  obtain ⟨c, hc1, hc2⟩ := res27
  refine ACalls.enter Try.func27 hc1 Try.ntmps27 hc2 (Nat.le_of_ble_eq_true rfl) rfl ?_
  have G0 := G
  obtain ⟨⟨cc, g1, g2, g3⟩, g4, g5, g6, g7, g8⟩ := G
  have hgm : gp ≠ mp := fun e => by subst e; rw [g3] at g4; cases g4
  by_cases hin : d ∈ out
  · have hadd : addD out d = out := by unfold addD; rw [if_pos hin]
    rw [hadd]
    have hbb := decide_eq_true hin
    repeat' (first | refine S.nilK ?_ | (refine S.op rfl ?_; first | refine S.lookupD (d := d) g8 hd (by decide) rfl (by (repeat' (first | assumption | refine AHeap.get_fresh ‹_› ?_)); first | done | fail) hbb rfl ?_ | refine R.mv rfl ?_ | refine R.fieldAddr rfl ?_ | refine R.nilCheck rfl ?_ | refine R.load (by decide) rfl (by (repeat' (first | assumption | exact AHeap.set_same _ _ _ | refine AHeap.get_fresh ‹_› ?_)); first | done | fail) rfl ?_ | refine R.not rfl ?_ | refine R.box rfl rfl rfl (fun b hb => ?_)) | refine S.seq ?_ | refine S.region ?_ | refine S.condF rfl ?_ | refine RRun.skip ?_)
    apply S.done rr27
    case hx => repeat (first | exact ResAt.nil)
    exact (G0.loc _ hb).drop (G0.nn hb)
  · have hadd : addD out d = out ++ [d] := by unfold addD; rw [if_neg hin]
    rw [hadd]
    have hbb := decide_eq_false hin
    repeat' (first | (refine S.op0 rfl (S.updateD (d := d) g8 hd hin rfl rfl (by (repeat' (first | assumption | refine AHeap.get_fresh ‹_› ?_)); first | done | fail) rfl ?_)) | refine S.nilK ?_ | (refine S.op rfl ?_; first | refine S.lookupD (d := d) g8 hd (by decide) rfl (by (repeat' (first | assumption | refine AHeap.get_fresh ‹_› ?_)); first | done | fail) hbb rfl ?_ | refine R.mv rfl ?_ | refine R.fieldAddr rfl ?_ | refine R.nilCheck rfl ?_ | refine R.load (by decide) rfl (by (repeat' (first | assumption | exact AHeap.set_same _ _ _ | refine AHeap.get_fresh ‹_› ?_ | refine AHeap.so ?_ ?_ | exact AHeap.n4 ‹_› ‹_›)); first | done | fail) rfl ?_ | refine R.not rfl ?_ | refine R.box rfl rfl rfl (fun b hb => ?_) | refine R.buildSl rfl rfl rfl (by decide) ?_) | refine S.seq ?_ | refine S.region ?_ | refine S.condT rfl ?_)
    have hgb : gp ≠ b := AHeap.ne_of hb g3
    have hmb : mp ≠ b := AHeap.ne_of hb g4
    have hn1 : ¬ TokC cc gp := fun ⟨u, s, e⟩ => by
      rcases g1 with e2 | ⟨b', u', s', e2, e3⟩
      · rw [e2] at e; cases e
      · rw [e2] at e; cases e; rw [g3] at e3; cases e3
    have hn2 : ¬ TokC cc mp := fun ⟨u, s, e⟩ => by
      rcases g1 with e2 | ⟨b', u', s', e2, e3⟩
      · rw [e2] at e; cases e
      · rw [e2] at e; cases e; rw [g4] at e3; cases e3
    have hown : OwnT ((h.set b (.box (depC d))).set mp (.map (entsD (out ++ [d])))) cc := ownT_loc g1 fun x hx => by
      have x1 : x ≠ mp := fun e => hn2 (by rw [← e]; exact hx)
      have x2 : x ≠ b := fun e => ownT_own g1 x hx (by rw [e]; exact hb)
      rw [AHeap.set_other _ _ x1, AHeap.set_other _ _ x2]
    have hH1g : ((h.set b (.box (depC d))).set mp (.map (entsD (out ++ [d])))) gp = some (.box [runsA l, .v (.map (some mp)), .sl 3 (out.map depC) cc]) := by
      rw [AHeap.set_other _ _ hgm, AHeap.set_other _ _ hgb]; exact g3
    have hH1n : ∀ x, ((h.set b (.box (depC d))).set mp (.map (entsD (out ++ [d])))) x = none → h x = none := fun x hx => (AHeap.fresh_set (AHeap.fresh_set hx).2).2
    have hlen2 : (out.map depC).length = out.length := by simp
    refine S.op rfl (S.appendT (ys := [depC d]) rfl hown rfl (.sl _ _) rfl (.sl _ _) (by intro e he a ha; simp only [List.mem_singleton] at he; subst he; exact List.all_eq_true.1 (show (depC d).all AV.one = true from rfl) a ha) (by rw [hlen2]; simp; omega) (by rw [hlen2]; simp; omega) (fun c' h' q1 q2 q3 => ?_))
    have hgp' := q2 gp _ hH1g hn1
    have hmp' := q2 mp _ (AHeap.set_same _ _ _) hn2
    have hn1' : ¬ TokC c' gp := fun hx => (q3 gp hx).elim hn1 (fun e => by rw [hH1g] at e; cases e)
    repeat' (first | refine S.nilK ?_ | (refine S.op rfl ?_; first | refine R.fieldAddr rfl ?_ | refine R.nilCheck rfl ?_) | (refine S.op0 rfl ?_; first | refine S.store rfl rfl (by (repeat' (first | assumption)); first | done | fail) rfl rfl rfl (by rfl) rfl ?_))
    apply S.done rr27
    case hx => repeat (first | exact ResAt.nil)
    refine ⟨⟨c', ownT_loc q1 fun x hx => AHeap.set_other _ _ (fun e => hn1' (by rw [← e]; exact hx)), fun x hx => ?_, ?_⟩, ?_, fun x o hx => ?_, g6, g7, ?_⟩
    · rcases q3 x hx with e | e
      · exact g2 x e
      · exact G0.nn (hH1n x e)
    · rw [AHeap.set_same]; simp; rfl
    · rw [AHeap.set_other _ _ (Ne.symm hgm)]; exact hmp'
    · have hxg : x ≠ gp := fun e => by subst e; rw [g6] at hx; cases hx
      have hxm : x ≠ mp := fun e => by subst e; rw [g7] at hx; cases hx
      have hxb : x ≠ b := fun e => by subst e; rw [G0.nn hb] at hx; cases hx
      rw [AHeap.set_other _ _ hxg]
      refine q2 x o (by rw [AHeap.set_other _ _ hxm, AHeap.set_other _ _ hxb]; exact g5 x o hx) (fun ht => by rw [g2 x ht] at hx; cases hx)
    · intro d' hd'
      rcases List.mem_append.1 hd' with e | e
      · exact g8 d' e
      · simp only [List.mem_singleton] at e; subst e; exact hd
end Go.Proofs.Ythfolomknkobkaa

namespace Go.Proofs.Ythfolomknkobkaa
open Go.Av
open Go.Ad (Seen Span Run Dep addD wwL order depsW comm)
theorem addD_len (out : List Dep) (d : Dep) : (addD out d).length ≤ out.length + 1 := by
  unfold addD; split <;> simp
theorem wwL_drop {o : List UInt64} {i : Nat} (h1 : 1 ≤ i) (hi : i < o.length) : wwL (o.drop (i - 1)) = ⟨o[i - 1], o[i], 1⟩ :: wwL (o.drop i) := by
  obtain ⟨j, rfl⟩ : ∃ j, i = j + 1 := ⟨i - 1, by omega⟩
  simp only [Nat.add_sub_cancel]
  rw [List.drop_eq_getElem_cons (show j < o.length by omega), List.drop_eq_getElem_cons hi, wwL]
theorem wwL_end {o : List UInt64} {i : Nat} (hi : o.length ≤ i) : wwL (o.drop (i - 1)) = [] := by
  have hl : (o.drop (i - 1)).length ≤ 1 := by rw [List.length_drop]; omega
  match o.drop (i - 1), hl with
  | [], _ => rfl
  | [a], _ => rfl
theorem ww_loop (l : List Run) (gp mp : Nat) (b0 : AHeap) (o : List UInt64) (ho : o.length ≤ 1000) (A B C : AV) (k : List RT) (Q : AV → AHeap → Prop) : ∀ (m i : Nat) (out : List Dep) (h : AHeap), o.length ≤ i + m → 1 ≤ i → i ≤ 1001 → GAt l gp mp b0 out h → out.length + (wwL (o.drop (i - 1))).length ≤ 1000000 →
    (∀ h', GAt l gp mp b0 ((wwL (o.drop (i - 1))).foldl addD out) h' → RRun Try.prog Try.f10 41 k (Env.get [(0, ptr gp), (10, A), (11, B), (12, C)]) h' Q) →
    RRun Try.prog Try.f10 41 (.inLoop r10l1 :: .inBlock 2 :: k) (Env.get [(0, ptr gp), (4, numsA o), (5, i64 i), (10, A), (11, B), (12, C)]) h Q := by
  have hlen : (o.map fun n => [u64 n]).length = o.length := by simp
  intro m
  induction m with
  | zero =>
    intro i out h hi h1 hi2 G hN H
    rw [wwL_end (by omega)] at H
    refine RRun.inLoop ?_
    repeat' (first | refine S.nilK ?_ | (refine S.op rfl ?_; first | refine R.mv rfl ?_ | refine R.len rfl ?_ | ((first | refine S.lss rfl rfl ?_ ?_) <;> intro hlt <;> try (exfalso; omega))) | refine S.seq ?_ | refine S.region ?_ | refine S.condF rfl ?_ | refine RRun.exit rfl ?_)
    exact S.keep [0, 10, 11, 12] rfl (H h G)
  | succ m ih =>
    intro i out h hi h1 hi2 G hN H
    by_cases hlt : i < o.length
    · rw [wwL_drop h1 hlt] at H hN
      simp only [List.length_cons] at hN
      rw [List.foldl_cons] at H
      have g1 : (o.map fun n => [u64 n])[(((i : Nat) : Int) - 1).toNat]? = some [u64 o[i - 1]] := by
        have e : (((i : Nat) : Int) - 1).toNat = i - 1 := by omega
        rw [e, List.getElem?_map, List.getElem?_eq_getElem (by omega)]; rfl
      have g2 : (o.map fun n => [u64 n])[((i : Nat) : Int).toNat]? = some [u64 o[i]] := by simp [hlt]
      generalize o[i] = y at g2 H hN
      generalize o[i - 1] = x at g1 H hN
      have cadd := add_spec G ⟨x, y, 1⟩ (.inl rfl) (by omega)
      refine RRun.inLoop ?_
      repeat' (first | refine S.nilK ?_ | (refine S.op rfl ?_; first | (show ROpS _ _ (.bin .sub _ _) _ _ _; refine S.subI rfl rfl (by omega) ?_) | refine R.indexAddr rfl rfl (by omega) g1 ?_ | refine R.indexAddr rfl rfl (by omega) g2 ?_ | refine R.mv rfl ?_ | refine R.loadR rfl rfl ?_ | refine R.len rfl ?_ | refine R.build rfl rfl ?_ | ((first | refine S.lss rfl rfl ?_ ?_) <;> intro hlt <;> try (exfalso; omega))) | refine S.seq ?_ | refine S.region ?_ | refine S.condT rfl ?_ | refine RRun.skip ?_ | refine RRun.block ?_)
      refine S.op rfl (R.call rfl (show avs _ _ = some [ptr gp, .ag (depC ⟨x, y, 1⟩)] from rfl) (cadd.mono fun x' h' G' => ?_))
      repeat' (first | refine S.nilK ?_ | (refine S.op rfl ?_; first | refine R.mv rfl ?_ | refine S.addI rfl rfl (by omega) ?_) | refine S.region ?_ | refine RRun.inBlock ?_)
      rw [show ((i : Int) + 1) = ((i + 1 : Nat) : Int) by omega]
      have hal := addD_len out ⟨x, y, 1⟩
      exact S.keep [0, 4, 5, 10, 11, 12] rfl (ih (i + 1) _ h' (by omega) (by omega) (by omega) G' (by simp only [Nat.add_sub_cancel]; omega) (by simp only [Nat.add_sub_cancel]; exact H))
    · rw [wwL_end (by omega)] at H
      refine RRun.inLoop ?_
      repeat' (first | refine S.nilK ?_ | (refine S.op rfl ?_; first | refine R.mv rfl ?_ | refine R.len rfl ?_ | ((first | refine S.lss rfl rfl ?_ ?_) <;> intro hlt <;> try (exfalso; omega))) | refine S.seq ?_ | refine S.region ?_ | refine S.condF rfl ?_ | refine RRun.exit rfl ?_)
      exact S.keep [0, 10, 11, 12] rfl (H h G)
end Go.Proofs.Ythfolomknkobkaa

namespace Go.Proofs.Ythfolomknkobkaa
open Go.Av
open Go.Ad (Seen Span Run Dep addD wwL order depsW comm findR commit wrote next)
theorem addDs_len : ∀ (ds out : List Dep), (ds.foldl addD out).length ≤ out.length + ds.length
  | [], out => by simp
  | d :: ds, out => by
    rw [List.foldl_cons]
    have h1 := addDs_len ds (addD out d)
    have h2 := addD_len out d
    simp only [List.length_cons]; omega
theorem wrote_len (l : List Run) (k : List UInt8) : (wrote l k).length ≤ l.length := by
  unfold wrote
  rw [St.isort_length]
  exact List.length_filter_le _ _
theorem order_len (l : List Run) (k : List UInt8) : (order l k).length ≤ l.length := by
  unfold order
  rw [List.length_map]
  exact wrote_len l k
theorem depsW_cons (l : List Run) (k : List UInt8) (ks : List (List UInt8)) : depsW l (k :: ks) = wwL (order l k) ++ depsW l ks := by
  unfold depsW; rw [List.flatMap_cons]
theorem w_out (l : List Run) (hl : l.length ≤ 39) (hk : ∀ r ∈ l, r.keys.length ≤ 1000) (gp mp : Nat) (b0 : AHeap) (ks : List (List UInt8)) (hks : ks.length ≤ 1000000) (outN : List Dep) (k : List RT) (Q : AV → AHeap → Prop) (H : ∀ h', GAt l gp mp b0 outN h' → RRun Try.prog Try.f10 41 k (Env.get [(0, ptr gp)]) h' Q) : ∀ (n i : Nat) (out : List Dep) (h : AHeap), i + n = ks.length → (depsW l (ks.drop i)).foldl addD out = outN → out.length + (depsW l (ks.drop i)).length ≤ 1000000 → GAt l gp mp b0 out h →
    RRun Try.prog Try.f10 41 (.inLoop r10l0 :: .inBlock 0 :: k) (Env.get [(0, ptr gp), (10, keysA ks), (11, i64 ks.length), (12, i64 i)]) h Q := by
  intro n
  induction n with
  | zero =>
    intro i out h hi hf hN G
    rw [List.drop_of_length_le (by omega)] at hf
    have hf2 : out = outN := hf
    subst hf2
    refine RRun.inLoop ?_
    repeat' (first | refine S.nilK ?_ | (refine S.op rfl ?_; first | ((first | refine S.lss rfl rfl ?_ ?_) <;> intro hlt <;> try (exfalso; omega))) | refine S.seq ?_ | refine S.region ?_ | refine S.condF rfl ?_ | refine RRun.exit rfl ?_)
    exact S.keep [0] rfl (H h G)
  | succ n ih =>
    intro i out h hi hf hN G
    have hie : i < ks.length := by omega
    have h1 : (ks.map fun k => [bys k])[((i : Nat) : Int).toNat]? = some [bys ks[i]] := by simp [hie]
    rw [List.drop_eq_getElem_cons hie, depsW_cons] at hf hN
    rw [List.foldl_append] at hf
    rw [List.length_append] at hN
    generalize ks[i] = key at h1 hf hN
    have hol := order_len l key
    have co := order_spec l hl (fun r hr => Nat.le_trans (hk r hr) (by decide)) key
    obtain ⟨cc, g1, g2, g3⟩ := G.ex
    refine RRun.inLoop ?_
    repeat' (first | refine S.nilK ?_ | (refine S.op rfl ?_; first | refine R.indexAddr rfl rfl (by omega) h1 ?_ | refine R.callQ (by decide) rfl (co _) ?_ | refine R.mv rfl ?_ | refine R.fieldAddr rfl ?_ | refine R.nilCheck rfl ?_ | refine R.loadR rfl rfl ?_ | refine R.load (by decide) rfl (by (repeat' (first | assumption)); first | done | fail) rfl ?_ | ((first | refine S.lss rfl rfl ?_ ?_) <;> intro hlt <;> try (exfalso; omega))) | refine S.seq ?_ | refine S.region ?_ | refine S.condT rfl ?_ | refine RRun.skip ?_ | refine RRun.block ?_)
    generalize order l key = o at hf hN hol
    have ha := addDs_len (wwL o) out
    refine RRun.loopIn (S.keep [0, 4, 5, 10, 11, 12] rfl (ww_loop l gp mp b0 o (by omega) _ _ _ _ _ o.length 1 out h (by omega) (by omega) (by omega) G (by simp only [Nat.sub_self, List.drop_zero]; omega) (fun h2 G2 => ?_)))
    simp only [Nat.sub_self, List.drop_zero] at G2
    repeat' (first | refine S.nilK ?_ | (refine S.op rfl ?_; first | refine R.mv rfl ?_ | refine S.addI rfl rfl (by omega) ?_) | refine S.region ?_ | refine RRun.inBlock ?_)
    rw [show ((i : Int) + 1) = ((i + 1 : Nat) : Int) by omega]
    exact S.keep [0, 10, 11, 12] rfl (ih (i + 1) _ h2 (by omega) hf (by omega) G2)
structure Few (l : List Run) : Prop where
  len : l.length ≤ 30
  dif : (l.map (·.txn)).Nodup
  keys : ∀ r ∈ l, r.keys.length ≤ 8
  seen : ∀ r ∈ l, r.seen.length ≤ 300
  spans : ∀ r ∈ l, r.spans.length ≤ 300
  key : ∀ r ∈ l, ∀ k ∈ r.keys, k.length ≤ maxLen
theorem keysOf_len (l : List Run) (hk : ∀ r ∈ l, r.keys.length ≤ 8) : (Go.Ad.keysOf l).length ≤ l.length * 8 := by
  induction l with
  | nil => simp [Go.Ad.keysOf]
  | cons r l ih =>
    have h1 := ih (fun r hr => hk r (List.mem_cons_of_mem _ hr))
    have h2 := hk r List.mem_cons_self
    rw [keysOf_cons]
    simp only [List.length_cons]
    split
    · rw [List.length_append]; omega
    · omega
theorem wwL_len : ∀ (o : List UInt64), (wwL o).length ≤ o.length
  | [] => by simp [wwL]
  | [a] => by simp [wwL]
  | a :: b :: r => by
    have := wwL_len (b :: r)
    simp only [wwL, List.length_cons] at this ⊢
    omega
theorem depsW_len (l : List Run) (hl : l.length ≤ 30) : ∀ ks : List (List UInt8), (depsW l ks).length ≤ ks.length * 30
  | [] => by simp [depsW]
  | k :: ks => by
    rw [depsW_cons, List.length_append, List.length_cons]
    have h1 := depsW_len l hl ks
    have h2 := wwL_len (order l k)
    have h3 := order_len l k
    omega
theorem Few.keysS {l : List Run} (F : Few l) : (keysS l).length ≤ 240 := by
  rw [keysS_len]
  have h1 := addKs_len (Go.Ad.keysOf l) []
  have h2 := keysOf_len l F.keys
  have h3 := F.len
  unfold keysD
  simp only [List.length_nil] at h1
  omega
theorem Few.keys_spec {l : List Run} (F : Few l) (h : AHeap) : ACalls Try.prog 25 [runsA l] h (fun x h' => x = keysA (Ythfolomknkobkaa.keysS l) ∧ h' = h) := by
  have h2 := keysOf_len l F.keys
  have h3 := F.len
  exact Ythfolomknkobkaa.keys_spec l (by omega) (fun r hr => Nat.le_trans (F.keys r hr) (by decide)) F.key (by omega) h
theorem writes_spec {l : List Run} (F : Few l) {gp mp : Nat} {b0 h : AHeap} {out : List Dep} (hN : out.length ≤ 100000) (G : GAt l gp mp b0 out h) :
    ACalls Try.prog 10 [ptr gp] h (fun _ h' => GAt l gp mp b0 ((depsW l (keysS l)).foldl addD out) h') := by
  have h3 := F.len
  have h4 := F.keysS
  have h5 := depsW_len l F.len (keysS l)
  have ck := F.keys_spec
  have hlen : ((keysS l).map fun k => [bys k]).length = (keysS l).length := by simp
  obtain ⟨c, hc1, hc2⟩ := res10
  refine ACalls.enter Try.func10 hc1 Try.ntmps10 hc2 (Nat.le_of_ble_eq_true rfl) rfl ?_
  obtain ⟨cc, g1, g2, g3⟩ := G.ex
  repeat' (first | refine S.nilK ?_ | (refine S.op rfl ?_; first | refine R.callQ (by decide) rfl (ck _) ?_ | refine R.mv rfl ?_ | refine R.fieldAddr rfl ?_ | refine R.nilCheck rfl ?_ | refine R.load (by decide) rfl (by (repeat' (first | assumption)); first | done | fail) rfl ?_ | refine R.len rfl ?_) | refine S.seq ?_ | refine S.region ?_ | refine RRun.block ?_)
  rw [hlen]
  refine RRun.loopIn (S.keep [0, 10, 11, 12] rfl (w_out l (by omega) (fun r hr => Nat.le_trans (F.keys r hr) (by decide)) gp mp b0 (keysS l) (by omega) _ _ _ (fun h1 G1 => ?_) (keysS l).length 0 out h (by omega) rfl (by rw [List.drop_zero]; omega) G))
  repeat' (fail)
  apply S.done rr10
  case hx => repeat (first | exact ResAt.nil)
  exact G1
def nextT (l : List Run) (k : List UInt8) (ts : UInt64) : UInt64 × Bool := match next l k ts with | some n => (n, true) | none => (0, false)
abbrev nextA (p : UInt64 × Bool) : AV := .tu [u64 p.1, bl p.2]
def nextF (ts : UInt64) : List Run → UInt64 × Bool
  | [] => (0, false)
  | r :: T => if ts < r.ts then (r.txn, true) else nextF ts T
theorem nextT_eq (l : List Run) (k : List UInt8) (ts : UInt64) : nextT l k ts = nextF ts (wrote l k) := by
  unfold nextT next
  generalize wrote l k = T
  induction T with
  | nil => rfl
  | cons r T ih =>
    rw [List.find?_cons]
    by_cases h : ts < r.ts
    · rw [decide_eq_true h]; simp only [nextF, if_pos h]; rfl
    · rw [decide_eq_false h]; simp only [nextF, if_neg h]; exact ih
theorem commT_wrote {l : List Run} (hd : (l.map (·.txn)).Nodup) {k : List UInt8} {r : Run} (hr : r ∈ wrote l k) : commT l r.txn = (r, true) := by
  have h1 := Go.Ad.comm_wrote hd hr
  unfold comm at h1
  unfold commT findT
  cases e : findR l r.txn with
  | none => rw [e] at h1; cases h1
  | some r2 =>
    rw [e] at h1
    by_cases hc : commit r2 = true
    · rw [Option.filter_some, if_pos hc] at h1
      have e2 : r2 = r := Option.some.inj h1
      subst e2
      simp [hc]
    · rw [Option.filter_some, if_neg hc] at h1; cases h1
def r30l0 : RCode :=
  (.seq (.region [
    ⟨(some 20), none, .act, .bin .lss (.tmp 19) (.tmp 18)⟩])
  (.seq (.cond (.tmp 20)
   .skip
   (.exit 0))
  (.seq (.block 1
   (.seq (.region [
     ⟨(some 21), none, .act, .indexAddr 1 (.tmp 17) (.tmp 19)⟩,
     ⟨(some 22), none, .act, .load false 1 (.tmp 21)⟩,
     ⟨(some 9), none, .act, .mv (.tmp 22)⟩])
   (.seq (.region [
     ⟨(some 24), none, .act, .mv (.tmp 0)⟩,
     ⟨(some 25), none, .act, .nilCheck (.tmp 24)⟩,
     ⟨(some 26), none, .act, .fieldAddr 0 (.tmp 25)⟩,
     ⟨(some 27), none, .act, .load false 1 (.tmp 26)⟩,
     ⟨(some 28), none, .act, .mv (.tmp 9)⟩,
     ⟨(some 29), none, .act, .call 28 [(.tmp 27), (.tmp 28)]⟩,
     ⟨(some 23), none, .act, .mv (.tmp 29)⟩,
     ⟨(some 30), none, .act, .extract (.tmp 23) 0⟩,
     ⟨(some 31), none, .act, .extract (.tmp 23) 1⟩,
     ⟨(some 10), none, .act, .alloc [(.int .u64 0), (.int .i64 0), (.int .i64 0), (.int .u64 0), (.int .u64 0), (.slice none 0 0), (.slice none 0 0), (.slice none 0 0)]⟩,
     ⟨none, none, .act, .store 8 (.tmp 10) (.tmp 30)⟩,
     ⟨(some 11), none, .act, .mv (.tmp 31)⟩])
   (.seq (.region [
     ⟨(some 32), none, .act, .mv (.tmp 11)⟩,
     ⟨(some 33), none, .act, .mv (.tmp 32)⟩,
     ⟨(some 34), (some (33, true)), .act, .fieldAddr 4 (.tmp 10)⟩,
     ⟨(some 35), (some (33, true)), .act, .load false 1 (.tmp 34)⟩,
     ⟨(some 36), (some (33, true)), .act, .mv (.tmp 2)⟩,
     ⟨(some 37), (some (33, true)), .act, .bin .gtr (.tmp 35) (.tmp 36)⟩,
     ⟨(some 38), none, .act, .pick (.tmp 33) (.tmp 37) (.const (.bool false))⟩])
   (.cond (.tmp 38)
    (.seq (.region [
      ⟨(some 39), none, .act, .mv (.tmp 9)⟩,
      ⟨(some 6), none, .act, .mv (.tmp 39)⟩,
      ⟨(some 7), none, .act, .mv (.const (.bool true))⟩])
    .ret)
    .skip)))))
  (.region [
    ⟨(some 40), none, .act, .bin .add (.tmp 19) (.const (.int .i64 1))⟩,
    ⟨(some 19), none, .act, .mv (.tmp 40)⟩]))))
def r30 : RCode :=
  (.seq (.region [
    ⟨(some 6), none, .act, .mv (.const (.int .u64 0))⟩,
    ⟨(some 7), none, .act, .mv (.const (.bool false))⟩])
  (.seq (.seq (.region [
    ⟨(some 12), none, .act, .mv (.tmp 0)⟩,
    ⟨(some 13), none, .act, .nilCheck (.tmp 12)⟩,
    ⟨(some 14), none, .act, .fieldAddr 0 (.tmp 13)⟩,
    ⟨(some 15), none, .act, .load false 1 (.tmp 14)⟩,
    ⟨(some 16), none, .act, .mv (.tmp 1)⟩,
    ⟨(some 17), none, .act, .call 26 [(.tmp 15), (.tmp 16)]⟩,
    ⟨(some 18), none, .act, .len (.tmp 17)⟩,
    ⟨(some 19), none, .act, .mv (.const (.int .i64 0))⟩])
  (.block 0
   (.loop r30l0)))
  (.seq (.region [
    ⟨(some 6), none, .act, .mv (.const (.int .u64 0))⟩,
    ⟨(some 7), none, .act, .mv (.const (.bool false))⟩])
  .ret)))
theorem res30 : ∃ c, Try.f30.body = some c ∧ resCode Try.prog 41 c = some r30 := ⟨_, rfl, by kernel_rfl⟩
theorem rr30 : resRes Try.prog Try.f30.results.toList = some [.tmp 6, .tmp 7] := by kernel_rfl
theorem next_loop (l : List Run) (hl : l.length ≤ 1000) (gp : Nat) (T : List Run) (hTl : T.length ≤ 1000) (hT : ∀ r ∈ T, commT l r.txn = (r, true)) (ts : UInt64) (h : AHeap) (rest : List AV) (hg : h gp = some (.box (runsA l :: rest))) (k : List RT) (Q : AV → AHeap → Prop)
    (H : nextF ts T = (0, false) → RRun Try.prog Try.f30 41 k (Env.get []) h Q) (Hq : ∀ h', h.le h' → Q (nextA (nextF ts T)) h') : ∀ (m i : Nat), i + m = T.length → nextF ts (T.drop i) = nextF ts T →
    RRun Try.prog Try.f30 41 (.inLoop r30l0 :: .inBlock 0 :: k) (Env.get [(0, ptr gp), (2, u64 ts), (17, numsA (T.map (·.txn))), (18, i64 T.length), (19, i64 i)]) h Q := by
  intro m
  induction m with
  | zero =>
    intro i hi hf
    rw [List.drop_of_length_le (by omega)] at hf
    refine RRun.inLoop ?_
    repeat' (first | refine S.nilK ?_ | (refine S.op rfl ?_; first | ((first | refine S.lss rfl rfl ?_ ?_) <;> intro hlt <;> try (exfalso; omega))) | refine S.seq ?_ | refine S.region ?_ | refine S.condF rfl ?_ | refine RRun.exit rfl ?_)
    exact S.keep [] rfl (H hf.symm)
  | succ m ih =>
    intro i hi hf
    have hie : i < T.length := by omega
    have h1 : ((T.map (·.txn)).map fun n => [u64 n])[((i : Nat) : Int).toNat]? = some [u64 T[i].txn] := by simp [hie]
    have hr := hT T[i] (List.getElem_mem hie)
    rw [List.drop_eq_getElem_cons hie] at hf
    generalize T[i] = r at h1 hf hr
    have c28 := committed_spec l hl r.txn
    rw [hr] at c28
    replace c28 : ∀ h, ACalls Try.prog 28 [runsA l, u64 r.txn] h (fun x h' => x = .tu [.ag (runC r), bl true] ∧ h' = h) := c28
    refine RRun.inLoop ?_
    by_cases hlt : ts < r.ts
    · have hlt2 := UInt64.lt_iff_toNat_lt.1 hlt
      simp only [nextF, if_pos hlt] at hf
      rw [← hf] at Hq
      repeat' (first | refine S.nilK ?_ | (refine S.op rfl ?_; first | refine R.indexAddr rfl rfl (by omega) h1 ?_ | refine R.callQ (by decide) rfl (c28 _) ?_ | refine R.mv rfl ?_ | refine R.fieldAddr rfl ?_ | refine R.nilCheck rfl ?_ | refine R.loadR rfl rfl ?_ | refine R.load (by decide) rfl (by (repeat' (first | assumption | exact AHeap.set_same _ _ _)); first | done | fail) rfl ?_ | refine R.pickT rfl rfl ?_ | refine R.extract rfl rfl ?_ | refine R.alloc rfl (fun b hb => ?_) | ((first | refine S.lss rfl rfl ?_ ?_ | refine S.gtr rfl rfl ?_ ?_) <;> intro hlt <;> try (exfalso; omega))) | (refine S.op0 rfl ?_; first | refine S.storeS rfl rfl rfl (by rfl) rfl (by first | decide | exact Nat.le_refl _ | exact Nat.le_of_ble_eq_true rfl) ?_) | refine S.seq ?_ | refine S.region ?_ | refine S.condT rfl ?_ | refine RRun.skip ?_ | refine RRun.block ?_)
      all_goals first
        | (exfalso; omega)
        | skip
      apply S.ret rr30
      case hx => repeat (first | exact ResAt.nil | apply ResAt.tmp rfl)
      exact Hq _ (by repeat (first | exact AHeap.le.refl _ | refine AHeap.le.set ?_ _ (by (repeat' (first | assumption)); first | done | fail)))
    · have hlt2 : ¬ ts.toNat < r.ts.toNat := fun e => hlt (UInt64.lt_iff_toNat_lt.2 e)
      simp only [nextF, if_neg hlt] at hf
      repeat' (first | refine S.nilK ?_ | (refine S.op rfl ?_; first | refine R.indexAddr rfl rfl (by omega) h1 ?_ | refine R.callQ (by decide) rfl (c28 _) ?_ | refine R.mv rfl ?_ | refine R.fieldAddr rfl ?_ | refine R.nilCheck rfl ?_ | refine R.loadR rfl rfl ?_ | refine R.load (by decide) rfl (by (repeat' (first | assumption | exact AHeap.set_same _ _ _)); first | done | fail) rfl ?_ | refine S.addI rfl rfl (by omega) ?_ | refine R.pickT rfl rfl ?_ | refine R.extract rfl rfl ?_ | refine R.alloc rfl (fun b hb => ?_) | ((first | refine S.lss rfl rfl ?_ ?_ | refine S.gtr rfl rfl ?_ ?_) <;> intro hlt <;> try (exfalso; omega))) | (refine S.op0 rfl ?_; first | refine S.storeS rfl rfl rfl (by rfl) rfl (by first | decide | exact Nat.le_refl _ | exact Nat.le_of_ble_eq_true rfl) ?_) | refine S.seq ?_ | refine S.region ?_ | refine S.condT rfl ?_ | refine S.condF rfl ?_ | refine RRun.skip ?_ | refine RRun.block ?_ | refine RRun.inBlock ?_)
      all_goals first
        | (exfalso; omega)
        | skip
      rw [show ((i : Int) + 1) = ((i + 1 : Nat) : Int) by omega]
      exact S.keep [0, 2, 17, 18, 19] rfl (S.drop (by repeat (first | exact AHeap.le.refl _ | refine AHeap.le.set ?_ _ (by (repeat' (first | assumption)); first | done | fail))) (ih (i + 1) (by omega) hf))
theorem next_spec {l : List Run} (F : Few l) (key : List UInt8) (ts : UInt64) (gp : Nat) (h : AHeap) (rest : List AV) (hg : h gp = some (.box (runsA l :: rest))) :
    ACalls Try.prog 30 [ptr gp, bys key, u64 ts] h (fun x h' => x = nextA (nextT l key ts) ∧ h' = h) := by
  have h3 := F.len
  have h4 := wrote_len l key
  have co := order_spec l (by omega) (fun r hr => Nat.le_trans (F.keys r hr) (by decide)) key
  have hT : ∀ r ∈ wrote l key, commT l r.txn = (r, true) := fun r hr => commT_wrote F.dif hr
  have ho : order l key = (wrote l key).map (·.txn) := rfl
  rw [ho] at co
  rw [nextT_eq]
  generalize wrote l key = T at co h4 hT
  have hlen : ((T.map (·.txn)).map fun n => [u64 n]).length = T.length := by simp
  obtain ⟨c, hc1, hc2⟩ := res30
  refine ACalls.weak (ACalls.enter Try.func30 hc1 Try.ntmps30 hc2 (Nat.le_of_ble_eq_true rfl) rfl ?_)
  repeat' (first | refine S.nilK ?_ | (refine S.op rfl ?_; first | refine R.callQ (by decide) rfl (co _) ?_ | refine R.mv rfl ?_ | refine R.fieldAddr rfl ?_ | refine R.nilCheck rfl ?_ | refine R.load (by decide) rfl (by (repeat' (first | assumption)); first | done | fail) rfl ?_ | refine R.len rfl ?_) | refine S.seq ?_ | refine S.region ?_ | refine RRun.block ?_)
  rw [hlen]
  refine RRun.loopIn (S.keep [0, 2, 17, 18, 19] rfl (next_loop l (by omega) gp T (by omega) hT ts h rest hg _ _ (fun e => ?_) (fun h1 hle => ⟨_, h, .refl _, hle, rfl, rfl⟩) T.length 0 (by omega) rfl))
  rw [e]
  repeat' (first | refine S.nilK ?_ | (refine S.op rfl ?_; first | refine R.mv rfl ?_) | refine S.seq ?_ | refine S.region ?_)
  apply S.ret rr30
  case hx => repeat (first | exact ResAt.nil | apply ResAt.tmp rfl)
  exact ⟨_, h, .refl _, (by repeat (first | exact AHeap.le.refl _)), rfl, rfl⟩
end Go.Proofs.Ythfolomknkobkaa

namespace Go.Proofs.Ythfolomknkobkaa
open Go.Av
open Go.Ad (Seen Span Run Dep addD comm findR commit readD depsR)
theorem commT_some (l : List Run) (t : UInt64) : (commT l t).2 = (comm l t).isSome := by
  unfold commT findT comm
  cases findR l t with
  | none => rfl
  | some r =>
    cases hc : commit r <;> simp [Option.filter, hc]
def readsL (l : List Run) (r : Run) (S0 : List Seen) : List Dep := S0.filterMap (readD l r)
theorem readsL_cons (l : List Run) (r : Run) (s : Seen) (S0 : List Seen) : readsL l r (s :: S0) = (match readD l r s with | some d => d :: readsL l r S0 | none => readsL l r S0) := by
  unfold readsL
  rw [List.filterMap_cons]
  cases readD l r s <;> rfl
theorem readD_yes {l : List Run} {r : Run} {s : Seen} (h0 : commit r = true) (h1 : (commT l s.txn).2 = true) (h2 : 0 < s.ts.toNat) (h3 : s.txn.toNat ≠ r.txn.toNat) : readD l r s = some ⟨s.txn, r.txn, 2⟩ := by
  unfold readD
  rw [if_pos ⟨h0, by rw [← commT_some]; exact h1, UInt64.lt_iff_toNat_lt.2 h2, fun e => h3 (by rw [e])⟩]
theorem readD_no1 {l : List Run} {r : Run} {s : Seen} (h1 : (commT l s.txn).2 = false) : readD l r s = none := by
  unfold readD
  rw [if_neg (fun e => by rw [← commT_some, h1] at e; exact absurd e.2.1 (by decide))]
theorem readD_no2 {l : List Run} {r : Run} {s : Seen} (h2 : ¬ 0 < s.ts.toNat) : readD l r s = none := by
  unfold readD
  rw [if_neg (fun e => h2 (by have := UInt64.lt_iff_toNat_lt.1 e.2.2.1; exact this))]
theorem readD_no3 {l : List Run} {r : Run} {s : Seen} (h3 : s.txn.toNat = r.txn.toNat) : readD l r s = none := by
  unfold readD
  rw [if_neg (fun e => e.2.2.2 (UInt64.toNat_inj.1 h3))]
theorem readD_no0 {l : List Run} {r : Run} {s : Seen} (h0 : commit r = false) : readD l r s = none := by
  unfold readD
  rw [if_neg (fun e => by rw [h0] at e; exact absurd e.1 (by decide))]
def t11 : RTree :=
  (.step ⟨(some 28), none, .pure, .mv (.tmp 0)⟩ (.step ⟨(some 29), none, .pure, .nilCheck (.tmp 28)⟩ (.step ⟨(some 30), none, .pure, .fieldAddr 0 (.tmp 29)⟩ (.step ⟨(some 32), none, .pure, .fieldAddr 2 (.tmp 5)⟩ (.alt ⟨(some 31), none, .read, .load false 1 (.tmp 30)⟩ (.alt ⟨(some 33), none, .read, .load false 1 (.tmp 32)⟩ (.alt ⟨(some 34), none, .read, .call 28 [(.tmp 31), (.tmp 33)]⟩ (.step ⟨(some 27), none, .pure, .mv (.tmp 34)⟩ (.step ⟨(some 35), none, .pure, .extract (.tmp 27) 0⟩ (.step ⟨(some 36), none, .pure, .extract (.tmp 27) 1⟩ (.alt ⟨(some 6), none, .act, .alloc [(.int .u64 0), (.int .i64 0), (.int .i64 0), (.int .u64 0), (.int .u64 0), (.slice none 0 0), (.slice none 0 0), (.slice none 0 0)]⟩ (.alt ⟨none, none, .act, .store 8 (.tmp 6) (.tmp 35)⟩ (.step ⟨(some 7), none, .pure, .mv (.tmp 36)⟩ .done)
    .stop)
    .stop))))
    (.alt ⟨(some 6), none, .act, .alloc [(.int .u64 0), (.int .i64 0), (.int .i64 0), (.int .u64 0), (.int .u64 0), (.slice none 0 0), (.slice none 0 0), (.slice none 0 0)]⟩ (.step ⟨(some 34), none, .read, .call 28 [(.tmp 31), (.tmp 33)]⟩ (.step ⟨(some 27), none, .pure, .mv (.tmp 34)⟩ (.step ⟨(some 35), none, .pure, .extract (.tmp 27) 0⟩ (.step ⟨(some 36), none, .pure, .extract (.tmp 27) 1⟩ (.alt ⟨none, none, .act, .store 8 (.tmp 6) (.tmp 35)⟩ (.step ⟨(some 7), none, .pure, .mv (.tmp 36)⟩ .done)
    .stop)))))
    .stop))
    (.alt ⟨(some 6), none, .act, .alloc [(.int .u64 0), (.int .i64 0), (.int .i64 0), (.int .u64 0), (.int .u64 0), (.slice none 0 0), (.slice none 0 0), (.slice none 0 0)]⟩ (.step ⟨(some 33), none, .read, .load false 1 (.tmp 32)⟩ (.step ⟨(some 34), none, .read, .call 28 [(.tmp 31), (.tmp 33)]⟩ (.step ⟨(some 27), none, .pure, .mv (.tmp 34)⟩ (.step ⟨(some 35), none, .pure, .extract (.tmp 27) 0⟩ (.step ⟨(some 36), none, .pure, .extract (.tmp 27) 1⟩ (.alt ⟨none, none, .act, .store 8 (.tmp 6) (.tmp 35)⟩ (.step ⟨(some 7), none, .pure, .mv (.tmp 36)⟩ .done)
    .stop))))))
    .stop))
    (.alt ⟨(some 33), none, .read, .load false 1 (.tmp 32)⟩ (.alt ⟨(some 31), none, .read, .load false 1 (.tmp 30)⟩ (.alt ⟨(some 34), none, .read, .call 28 [(.tmp 31), (.tmp 33)]⟩ (.step ⟨(some 27), none, .pure, .mv (.tmp 34)⟩ (.step ⟨(some 35), none, .pure, .extract (.tmp 27) 0⟩ (.step ⟨(some 36), none, .pure, .extract (.tmp 27) 1⟩ (.alt ⟨(some 6), none, .act, .alloc [(.int .u64 0), (.int .i64 0), (.int .i64 0), (.int .u64 0), (.int .u64 0), (.slice none 0 0), (.slice none 0 0), (.slice none 0 0)]⟩ (.alt ⟨none, none, .act, .store 8 (.tmp 6) (.tmp 35)⟩ (.step ⟨(some 7), none, .pure, .mv (.tmp 36)⟩ .done)
    .stop)
    .stop))))
    (.alt ⟨(some 6), none, .act, .alloc [(.int .u64 0), (.int .i64 0), (.int .i64 0), (.int .u64 0), (.int .u64 0), (.slice none 0 0), (.slice none 0 0), (.slice none 0 0)]⟩ (.step ⟨(some 34), none, .read, .call 28 [(.tmp 31), (.tmp 33)]⟩ (.step ⟨(some 27), none, .pure, .mv (.tmp 34)⟩ (.step ⟨(some 35), none, .pure, .extract (.tmp 27) 0⟩ (.step ⟨(some 36), none, .pure, .extract (.tmp 27) 1⟩ (.alt ⟨none, none, .act, .store 8 (.tmp 6) (.tmp 35)⟩ (.step ⟨(some 7), none, .pure, .mv (.tmp 36)⟩ .done)
    .stop)))))
    .stop))
    (.alt ⟨(some 6), none, .act, .alloc [(.int .u64 0), (.int .i64 0), (.int .i64 0), (.int .u64 0), (.int .u64 0), (.slice none 0 0), (.slice none 0 0), (.slice none 0 0)]⟩ (.step ⟨(some 31), none, .read, .load false 1 (.tmp 30)⟩ (.step ⟨(some 34), none, .read, .call 28 [(.tmp 31), (.tmp 33)]⟩ (.step ⟨(some 27), none, .pure, .mv (.tmp 34)⟩ (.step ⟨(some 35), none, .pure, .extract (.tmp 27) 0⟩ (.step ⟨(some 36), none, .pure, .extract (.tmp 27) 1⟩ (.alt ⟨none, none, .act, .store 8 (.tmp 6) (.tmp 35)⟩ (.step ⟨(some 7), none, .pure, .mv (.tmp 36)⟩ .done)
    .stop))))))
    .stop))
    (.alt ⟨(some 6), none, .act, .alloc [(.int .u64 0), (.int .i64 0), (.int .i64 0), (.int .u64 0), (.int .u64 0), (.slice none 0 0), (.slice none 0 0), (.slice none 0 0)]⟩ (.step ⟨(some 31), none, .read, .load false 1 (.tmp 30)⟩ (.step ⟨(some 33), none, .read, .load false 1 (.tmp 32)⟩ (.step ⟨(some 34), none, .read, .call 28 [(.tmp 31), (.tmp 33)]⟩ (.step ⟨(some 27), none, .pure, .mv (.tmp 34)⟩ (.step ⟨(some 35), none, .pure, .extract (.tmp 27) 0⟩ (.step ⟨(some 36), none, .pure, .extract (.tmp 27) 1⟩ (.alt ⟨none, none, .act, .store 8 (.tmp 6) (.tmp 35)⟩ (.step ⟨(some 7), none, .pure, .mv (.tmp 36)⟩ .done)
    .stop)))))))
    .stop)))))))
abbrev l11 (gp rb sb : Nat) (w : Bool) (A B C D E F : AV) (a : Nat) : List (Nat × AV) := [(0, ptr gp), (3, ptr rb), (5, ptr sb), (6, ptr a), (7, bl w), (11, A), (12, B), (13, C), (21, D), (22, E), (23, F)]
theorem t11_ok (l : List Run) (s : Seen) (rr : Run) (w : Bool) (cc : ∀ h, ACalls Try.prog 28 [runsA l, u64 s.txn] h (fun x h' => x = .tu [.ag (runC rr), bl w] ∧ h' = h)) (gp rb sb : Nat) (rest : List AV) (A B C D E F : AV) (h : AHeap) (hg : h gp = some (.box (runsA l :: rest))) (hs : h sb = some (.box (seenC s))) :
    RTreeS Try.prog (fun E' h' => ∃ a, h a = none ∧ h' = h.set a (.box (runC rr)) ∧ ∀ t x, Env.get (l11 gp rb sb w A B C D E F a) t = some x → E' t = some x) t11 (Env.get [(0, ptr gp), (3, ptr rb), (5, ptr sb), (11, A), (12, B), (13, C), (21, D), (22, E), (23, F)]) h := by
  unfold t11
  repeat' (first | refine S.nilK ?_ | (refine S.op rfl ?_; first | refine R.callQ (by decide) rfl (cc _) ?_ | refine R.mv rfl ?_ | refine R.fieldAddr rfl ?_ | refine R.nilCheck rfl ?_ | refine R.load (by decide) rfl (by (repeat' (first | assumption | refine AHeap.get_fresh ‹_› ?_)); first | done | fail) rfl ?_ | refine R.extract rfl rfl ?_ | refine R.alloc rfl (fun b hb => ?_)) | (refine S.op0 rfl ?_; first | refine S.storeS rfl rfl rfl (by rfl) rfl (by first | decide | exact Nat.le_refl _ | exact Nat.le_of_ble_eq_true rfl) ?_) | refine S.talt ?_ ?_ | exact S.tstop)
  all_goals
    refine S.tdone ?_
    exact ⟨_, by assumption, rfl, fun t x hx => Env.keep_get [0, 3, 5, 6, 7, 11, 12, 13, 21, 22, 23] _ t x hx⟩
theorem r_in (l : List Run) (hl : l.length ≤ 1000) (r : Run) (hcr : commit r = true) (rb gp mp : Nat) (b0 : AHeap) (hrb : b0 rb = some (.box (runC r))) (S0 : List Seen) (hS : S0.length ≤ 1000000) (outN : List Dep) (A B C : AV) (k : List RT) (Q : AV → AHeap → Prop)
    (H : ∀ h', GAt l gp mp b0 outN h' → RRun Try.prog Try.f11 59 k (Env.get [(0, ptr gp), (11, A), (12, B), (13, C)]) h' Q) : ∀ (n i : Nat) (out : List Dep) (h : AHeap), i + n = S0.length → (readsL l r (S0.drop i)).foldl addD out = outN → out.length + (readsL l r (S0.drop i)).length ≤ 1000000 → GAt l gp mp b0 out h →
    RRun Try.prog Try.f11 59 (.inLoop r11l1 :: .inBlock 2 :: k) (Env.get [(0, ptr gp), (3, ptr rb), (11, A), (12, B), (13, C), (21, seenA S0), (22, i64 S0.length), (23, i64 i)]) h Q := by
  intro n
  induction n with
  | zero =>
    intro i out h hi hf hN G
    rw [List.drop_of_length_le (by omega)] at hf
    have hf2 : out = outN := hf
    subst hf2
    refine RRun.inLoop ?_
    repeat' (first | refine S.nilK ?_ | (refine S.op rfl ?_; first | ((first | refine S.lss rfl rfl ?_ ?_) <;> intro hlt <;> try (exfalso; omega))) | refine S.seq ?_ | refine S.region ?_ | refine S.condF rfl ?_ | refine RRun.exit rfl ?_)
    exact S.keep [0, 11, 12, 13] rfl (H h G)
  | succ n ih =>
    intro i out h hi hf hN G
    have hie : i < S0.length := by omega
    have h1 : (S0.map seenC)[((i : Nat) : Int).toNat]? = some (seenC S0[i]) := by simp [hie]
    rw [List.drop_eq_getElem_cons hie, readsL_cons] at hf hN
    generalize S0[i] = s at h1 hf hN
    have cc := committed_spec l hl s.txn
    have n0 := fun (e : (commT l s.txn).2 = false) => readD_no1 (r := r) e
    have n2 := readD_yes (l := l) (r := r) (s := s) hcr
    generalize commT l s.txn = p at cc n0 n2
    obtain ⟨rr, w⟩ := p
    replace cc : ∀ h, ACalls Try.prog 28 [runsA l, u64 s.txn] h (fun x h' => x = .tu [.ag (runC rr), bl w] ∧ h' = h) := cc
    replace n0 : w = false → readD l r s = none := n0
    replace n2 : w = true → 0 < s.ts.toNat → s.txn.toNat ≠ r.txn.toNat → readD l r s = some ⟨s.txn, r.txn, 2⟩ := n2
    obtain ⟨ccap, g1, g2, g3⟩ := G.ex
    have hrb' := G.fr _ _ hrb
    refine RRun.inLoop ?_
    repeat' (first | refine S.nilK ?_ | (refine S.op rfl ?_; first | refine R.indexAddr rfl rfl (by omega) h1 ?_ | refine R.loadR rfl rfl ?_ | refine R.alloc rfl (fun b hb => ?_) | ((first | refine S.lss rfl rfl ?_ ?_) <;> intro hlt <;> try (exfalso; omega))) | (refine S.op0 rfl ?_; first | refine S.storeS rfl rfl rfl (by rfl) rfl (by first | decide | exact Nat.le_refl _ | exact Nat.le_of_ble_eq_true rfl) ?_) | refine S.seq ?_ | refine S.region ?_ | refine S.condT rfl ?_ | refine RRun.skip ?_ | refine RRun.block ?_)
    revert b hb
    intro sb hsb
    refine S.keep [0, 3, 5, 11, 12, 13, 21, 22, 23] rfl ?_
    have hsr : rb ≠ sb := fun e => by subst e; rw [hrb'] at hsb; cases hsb
    have hgs : gp ≠ sb := fun e => by subst e; rw [g3] at hsb; cases hsb
    have hsb2 : (h.set sb (.box (seenC s))) sb = some (.box (seenC s)) := AHeap.set_same _ _ _
    have hrb2 : (h.set sb (.box (seenC s))) rb = some (.box (runC r)) := (AHeap.set_other _ _ hsr).trans hrb'
    refine S.tree (l11 gp rb sb w A B C (seenA S0) (i64 S0.length) (i64 i)) (fun a => (h.set sb (.box (seenC s))).set a (.box (runC rr))) (fun a => (h.set sb (.box (seenC s))) a = none) (t11_ok l s rr w cc gp rb sb _ A B C _ _ _ (h.set sb (.box (seenC s))) ((AHeap.set_other _ _ hgs).trans g3) hsb2) (fun a ha => ?_)
    have G1 := (G.loc (.box (seenC s)) hsb).loc (.box (runC rr)) ha
    have hGd : ∀ h' o, GAt l gp mp ((b0.set sb (.box (seenC s))).set a (.box (runC rr))) o h' → GAt l gp mp b0 o h' := fun h' o g => (g.drop ((G.loc (.box (seenC s)) hsb).nn ha)).drop (G.nn hsb)
    clear cc
    have hnext := fun out2 h' (hf2 : (readsL l r (S0.drop (i + 1))).foldl addD out2 = outN) hN2 g => ih (i + 1) out2 h' (by omega) hf2 hN2 (hGd h' out2 g)
    by_cases hw : w = true
    · subst hw
      by_cases ht : 0 < s.ts.toNat
      · by_cases hx : s.txn.toNat = r.txn.toNat
        · rw [readD_no3 hx] at hf hN
          repeat' (first | refine S.nilK ?_ | (refine S.op rfl ?_; first | refine R.mv rfl ?_ | refine R.fieldAddr rfl ?_ | refine R.load (by decide) rfl (by (repeat' (first | assumption | refine AHeap.get_fresh ‹_› ?_)); first | done | fail) rfl ?_ | refine S.addI rfl rfl (by omega) ?_ | refine R.pickT rfl rfl ?_ | ((first | refine S.gtr rfl rfl ?_ ?_ | refine S.eqInt rfl rfl ?_ ?_) <;> intro hlt <;> try (exfalso; omega))) | refine S.seq ?_ | refine S.region ?_ | refine S.condF rfl ?_ | refine RRun.skip ?_ | refine RRun.inBlock ?_)
          all_goals first
            | (exfalso; omega)
            | skip
          rw [show ((i : Int) + 1) = ((i + 1 : Nat) : Int) by omega]
          exact S.keep [0, 3, 11, 12, 13, 21, 22, 23] rfl (hnext _ _ hf hN G1)
        · rw [n2 rfl ht hx] at hf hN
          simp only [List.length_cons] at hN
          rw [List.foldl_cons] at hf
          have hal := addD_len out ⟨s.txn, r.txn, 2⟩
          have cadd := add_spec G1 ⟨s.txn, r.txn, 2⟩ (.inr (.inl rfl)) (by omega)
          repeat' (first | refine S.nilK ?_ | (refine S.op rfl ?_; first | refine R.mv rfl ?_ | refine R.fieldAddr rfl ?_ | refine R.load (by decide) rfl (by (repeat' (first | assumption | refine AHeap.get_fresh ‹_› ?_)); first | done | fail) rfl ?_ | refine R.pickT rfl rfl ?_ | refine R.build rfl rfl ?_ | ((first | refine S.gtr rfl rfl ?_ ?_ | refine S.eqInt rfl rfl ?_ ?_) <;> intro hlt <;> try (exfalso; omega))) | refine S.seq ?_ | refine S.region ?_ | refine S.condT rfl ?_)
          all_goals first
            | (exfalso; omega)
            | skip
          refine S.op rfl (R.call rfl (show avs _ _ = some [ptr gp, .ag (depC ⟨s.txn, r.txn, 2⟩)] from rfl) (cadd.mono fun x' h' G' => ?_))
          repeat' (first | refine S.nilK ?_ | (refine S.op rfl ?_; first | refine R.mv rfl ?_ | refine S.addI rfl rfl (by omega) ?_) | refine S.region ?_ | refine RRun.inBlock ?_)
          rw [show ((i : Int) + 1) = ((i + 1 : Nat) : Int) by omega]
          exact S.keep [0, 3, 11, 12, 13, 21, 22, 23] rfl (hnext _ _ hf (by omega) G')
      · rw [readD_no2 ht] at hf hN
        repeat' (first | refine S.nilK ?_ | (refine S.op rfl ?_; first | refine R.mv rfl ?_ | refine R.fieldAddr rfl ?_ | refine R.load (by decide) rfl (by (repeat' (first | assumption | refine AHeap.get_fresh ‹_› ?_)); first | done | fail) rfl ?_ | refine S.addI rfl rfl (by omega) ?_ | refine R.pickT rfl rfl ?_ | refine R.pickF rfl rfl ?_ | ((first | refine S.gtr rfl rfl ?_ ?_) <;> intro hlt <;> try (exfalso; omega))) | refine S.skip rfl ?_ | refine S.seq ?_ | refine S.region ?_ | refine S.condF rfl ?_ | refine RRun.skip ?_ | refine RRun.inBlock ?_)
        all_goals first
          | (exfalso; omega)
          | skip
        rw [show ((i : Int) + 1) = ((i + 1 : Nat) : Int) by omega]
        exact S.keep [0, 3, 11, 12, 13, 21, 22, 23] rfl (hnext _ _ hf hN G1)
    · have hw2 : w = false := by simpa using hw
      subst hw2
      rw [n0 rfl] at hf hN
      repeat' (first | refine S.nilK ?_ | (refine S.op rfl ?_; first | refine R.mv rfl ?_ | refine S.addI rfl rfl (by omega) ?_ | refine R.pickF rfl rfl ?_) | refine S.skip rfl ?_ | refine S.seq ?_ | refine S.region ?_ | refine S.condF rfl ?_ | refine RRun.skip ?_ | refine RRun.inBlock ?_)
      all_goals first
        | (exfalso; omega)
        | skip
      rw [show ((i : Int) + 1) = ((i + 1 : Nat) : Int) by omega]
      exact S.keep [0, 3, 11, 12, 13, 21, 22, 23] rfl (hnext _ _ hf hN G1)
theorem depsR_cons (l : List Run) (r : Run) (rs : List Run) : (r :: rs).flatMap (fun r => r.seen.filterMap (readD l r)) = readsL l r r.seen ++ rs.flatMap (fun r => r.seen.filterMap (readD l r)) := by
  rw [List.flatMap_cons]; rfl
theorem readsL_len (l : List Run) (r : Run) (S0 : List Seen) : (readsL l r S0).length ≤ S0.length := List.length_filterMap_le _ _
theorem readsL_none {l : List Run} {r : Run} (h : commit r = false) (S0 : List Seen) : readsL l r S0 = [] := by
  unfold readsL
  rw [List.filterMap_eq_nil_iff]
  intro s hs
  exact readD_no0 h
theorem r_out {l : List Run} (F : Few l) (gp mp : Nat) (b0 : AHeap) (outN : List Dep) (k : List RT) (Q : AV → AHeap → Prop) (H : ∀ h', GAt l gp mp b0 outN h' → RRun Try.prog Try.f11 59 k (Env.get [(0, ptr gp)]) h' Q) : ∀ (n i : Nat) (out : List Dep) (h : AHeap), i + n = l.length → ((l.drop i).flatMap (fun r => r.seen.filterMap (readD l r))).foldl addD out = outN → out.length + ((l.drop i).flatMap (fun r => r.seen.filterMap (readD l r))).length ≤ 1000000 → GAt l gp mp b0 out h →
    RRun Try.prog Try.f11 59 (.inLoop r11l0 :: .inBlock 0 :: k) (Env.get [(0, ptr gp), (11, runsA l), (12, i64 l.length), (13, i64 i)]) h Q := by
  have hfl := F.len
  intro n
  induction n with
  | zero =>
    intro i out h hi hf hN G
    rw [List.drop_of_length_le (by omega)] at hf
    have hf2 : out = outN := hf
    subst hf2
    refine RRun.inLoop ?_
    repeat' (first | refine S.nilK ?_ | (refine S.op rfl ?_; first | ((first | refine S.lss rfl rfl ?_ ?_) <;> intro hlt <;> try (exfalso; omega))) | refine S.seq ?_ | refine S.region ?_ | refine S.condF rfl ?_ | refine RRun.exit rfl ?_)
    exact S.keep [0] rfl (H h G)
  | succ n ih =>
    intro i out h hi hf hN G
    have hie : i < l.length := by omega
    have h1 : (l.map fun k => runC k)[((i : Nat) : Int).toNat]? = some (runC l[i]) := by simp [hie]
    have hsl := F.seen l[i] (List.getElem_mem hie)
    rw [List.drop_eq_getElem_cons hie, depsR_cons] at hf hN
    rw [List.foldl_append] at hf
    rw [List.length_append] at hN
    generalize l[i] = r at h1 hf hN hsl
    have hcm : commit r = decide (r.state = 1) := rfl
    have ha := addDs_len (readsL l r r.seen) out
    have hlen : (r.seen.map seenC).length = r.seen.length := by simp
    refine RRun.inLoop ?_
    by_cases hs : r.state = 1
    · rw [decide_eq_true hs] at hcm
      repeat' (first | refine S.nilK ?_ | (refine S.op rfl ?_; first | refine R.indexAddr rfl rfl (by omega) h1 ?_ | refine R.mv rfl ?_ | refine R.fieldAddr rfl ?_ | refine R.loadR rfl rfl ?_ | refine R.load (by decide) rfl (by (repeat' (first | exact AHeap.set_same _ _ _)); first | done | fail) rfl ?_ | refine R.len rfl ?_ | refine R.alloc rfl (fun b hb => ?_) | ((first | refine S.lss rfl rfl ?_ ?_ | refine S.eqInt rfl rfl ?_ ?_) <;> intro hlt <;> try (exfalso; omega))) | (refine S.op0 rfl ?_; first | refine S.storeS rfl rfl rfl (by rfl) rfl (by first | decide | exact Nat.le_refl _ | exact Nat.le_of_ble_eq_true rfl) ?_) | refine S.seq ?_ | refine S.region ?_ | refine S.condT rfl ?_ | refine S.condF rfl ?_ | refine RRun.skip ?_ | refine RRun.block ?_)
      all_goals first
        | (exfalso; omega)
        | skip
      revert b hb
      intro rb hrb
      have G1 := G.loc (.box (runC r)) hrb
      rw [hlen]
      refine RRun.loopIn (S.keep [0, 3, 11, 12, 13, 21, 22, 23] rfl (r_in l (by omega) r hcm rb gp mp _ (AHeap.set_same _ _ _) r.seen (by omega) _ _ _ _ _ _ (fun h2 G2 => ?_) r.seen.length 0 out _ (by omega) rfl (by rw [List.drop_zero]; omega) G1))
      have G3 := G2.drop (G.nn hrb)
      repeat' (first | refine S.nilK ?_ | (refine S.op rfl ?_; first | refine R.mv rfl ?_ | refine S.addI rfl rfl (by omega) ?_) | refine S.region ?_ | refine RRun.inBlock ?_)
      rw [show ((i : Int) + 1) = ((i + 1 : Nat) : Int) by omega]
      exact S.keep [0, 11, 12, 13] rfl (ih (i + 1) _ h2 (by omega) hf (by omega) G3)
    · rw [decide_eq_false hs] at hcm
      rw [readsL_none hcm] at hf hN
      repeat' (first | refine S.nilK ?_ | (refine S.op rfl ?_; first | refine R.indexAddr rfl rfl (by omega) h1 ?_ | refine R.mv rfl ?_ | refine R.fieldAddr rfl ?_ | refine R.loadR rfl rfl ?_ | refine R.load (by decide) rfl (by (repeat' (first | exact AHeap.set_same _ _ _)); first | done | fail) rfl ?_ | refine S.addI rfl rfl (by omega) ?_ | refine R.alloc rfl (fun b hb => ?_) | ((first | refine S.lss rfl rfl ?_ ?_ | refine S.eqInt rfl rfl ?_ ?_) <;> intro hlt <;> try (exfalso; omega))) | (refine S.op0 rfl ?_; first | refine S.storeS rfl rfl rfl (by rfl) rfl (by first | decide | exact Nat.le_refl _ | exact Nat.le_of_ble_eq_true rfl) ?_) | refine S.seq ?_ | refine S.region ?_ | refine S.condT rfl ?_ | refine RRun.skip ?_ | refine RRun.block ?_ | refine RRun.exit rfl ?_)
      all_goals first
        | (exfalso; omega)
        | skip
      rw [show ((i : Int) + 1) = ((i + 1 : Nat) : Int) by omega]
      exact S.keep [0, 11, 12, 13] rfl (ih (i + 1) _ _ (by omega) hf (by simpa using hN) ((G.loc _ hb).drop (G.nn hb)))
theorem depsR_len (l : List Run) : ∀ rs : List Run, (∀ r ∈ rs, r.seen.length ≤ 300) → (rs.flatMap (fun r => r.seen.filterMap (readD l r))).length ≤ rs.length * 300
  | [], _ => by simp
  | r :: rs, h => by
    rw [depsR_cons, List.length_append, List.length_cons]
    have h1 := depsR_len l rs (fun r hr => h r (List.mem_cons_of_mem _ hr))
    have h2 := readsL_len l r r.seen
    have h3 := h r List.mem_cons_self
    omega
theorem reads_spec {l : List Run} (F : Few l) {gp mp : Nat} {b0 h : AHeap} {out : List Dep} (hN : out.length ≤ 100000) (G : GAt l gp mp b0 out h) :
    ACalls Try.prog 11 [ptr gp] h (fun _ h' => GAt l gp mp b0 ((depsR l).foldl addD out) h') := by
  have h3 := F.len
  have h5 := depsR_len l l F.seen
  have hlen : (l.map fun k => runC k).length = l.length := by simp
  obtain ⟨c, hc1, hc2⟩ := res11
  refine ACalls.enter Try.func11 hc1 Try.ntmps11 hc2 (Nat.le_of_ble_eq_true rfl) rfl ?_
  obtain ⟨cc, g1, g2, g3⟩ := G.ex
  repeat' (first | refine S.nilK ?_ | (refine S.op rfl ?_; first | refine R.mv rfl ?_ | refine R.fieldAddr rfl ?_ | refine R.nilCheck rfl ?_ | refine R.load (by decide) rfl (by (repeat' (first | assumption)); first | done | fail) rfl ?_ | refine R.len rfl ?_) | refine S.seq ?_ | refine S.region ?_ | refine RRun.block ?_)
  rw [hlen]
  refine RRun.loopIn (S.keep [0, 11, 12, 13] rfl (r_out F gp mp b0 _ _ _ (fun h1 G1 => ?_) l.length 0 out h (by omega) rfl (by rw [List.drop_zero]; omega) G))
  repeat' (fail)
  apply S.done rr11
  case hx => repeat (first | exact ResAt.nil)
  exact G1
end Go.Proofs.Ythfolomknkobkaa

namespace Go.Proofs.Ythfolomknkobkaa
open Go.Av
open Go.Ad (Seen Span Run Dep addD comm findR commit depsO overD serial spanned next readT)
def oversL (l : List Run) (r : Run) (ks : List (List UInt8)) : List Dep := ks.filterMap (overD l r)
theorem oversL_cons (l : List Run) (r : Run) (k : List UInt8) (ks : List (List UInt8)) : oversL l r (k :: ks) = (match overD l r k with | some d => d :: oversL l r ks | none => oversL l r ks) := by
  unfold oversL
  rw [List.filterMap_cons]
  cases overD l r k <;> rfl
theorem overD_no1 {l : List Run} {r : Run} {k : List UInt8} (h : spanned r k = false) : overD l r k = none := by
  unfold overD
  rw [if_neg (by rw [h]; decide)]
theorem overD_no2 {l : List Run} {r : Run} {k : List UInt8} (h : (nextT l k (readT r k)).2 = false) : overD l r k = none := by
  unfold overD nextT at *
  cases e : next l k (readT r k) with
  | none => split <;> rfl
  | some n => rw [e] at h; cases h
theorem overD_no3 {l : List Run} {r : Run} {k : List UInt8} (h : (nextT l k (readT r k)).1.toNat = r.txn.toNat) : overD l r k = none := by
  unfold overD nextT at *
  cases e : next l k (readT r k) with
  | none => split <;> rfl
  | some n =>
    rw [e] at h
    split
    · simp only
      rw [if_neg (fun e2 => e2 (UInt64.toNat_inj.1 h))]
    · rfl
theorem overD_yes {l : List Run} {r : Run} {k : List UInt8} (h1 : spanned r k = true) (h2 : (nextT l k (readT r k)).2 = true) (h3 : (nextT l k (readT r k)).1.toNat ≠ r.txn.toNat) : overD l r k = some ⟨r.txn, (nextT l k (readT r k)).1, 3⟩ := by
  unfold overD nextT at *
  rw [if_pos h1]
  cases e : next l k (readT r k) with
  | none => rw [e] at h2; cases h2
  | some n =>
    rw [e] at h3
    simp only
    rw [if_pos (fun e2 => h3 (by rw [e2]))]
theorem o_in {l : List Run} (F : Few l) (r : Run) (hsp : r.spans.length ≤ 1000000) (hse : r.seen.length ≤ 1000000) (rb gp mp : Nat) (b0 : AHeap) (hrb : b0 rb = some (.box (runC r))) (ks : List (List UInt8)) (hS : ks.length ≤ 1000000) (outN : List Dep) (A B C D : AV) (k : List RT) (Q : AV → AHeap → Prop)
    (H : ∀ h', GAt l gp mp b0 outN h' → RRun Try.prog Try.f12 65 k (Env.get [(0, ptr gp), (2, D), (17, A), (18, B), (19, C)]) h' Q) : ∀ (n i : Nat) (out : List Dep) (h : AHeap), i + n = ks.length → (oversL l r (ks.drop i)).foldl addD out = outN → out.length + (oversL l r (ks.drop i)).length ≤ 1000000 → GAt l gp mp b0 out h →
    RRun Try.prog Try.f12 65 (.inLoop r12l1 :: .inBlock 2 :: k) (Env.get [(0, ptr gp), (2, D), (4, ptr rb), (17, A), (18, B), (19, C), (31, keysA ks), (32, i64 ks.length), (33, i64 i)]) h Q := by
  intro n
  induction n with
  | zero =>
    intro i out h hi hf hN G
    rw [List.drop_of_length_le (by omega)] at hf
    have hf2 : out = outN := hf
    subst hf2
    refine RRun.inLoop ?_
    repeat' (first | refine S.nilK ?_ | (refine S.op rfl ?_; first | ((first | refine S.lss rfl rfl ?_ ?_) <;> intro hlt <;> try (exfalso; omega))) | refine S.seq ?_ | refine S.region ?_ | refine S.condF rfl ?_ | refine RRun.exit rfl ?_)
    exact S.keep [0, 2, 17, 18, 19] rfl (H h G)
  | succ n ih =>
    intro i out h hi hf hN G
    have hie : i < ks.length := by omega
    have h1 : (ks.map fun k => [bys k])[((i : Nat) : Int).toNat]? = some [bys ks[i]] := by simp [hie]
    rw [List.drop_eq_getElem_cons hie, oversL_cons] at hf hN
    generalize ks[i] = key at h1 hf hN
    have hnext := fun out2 h' (hf2 : (oversL l r (ks.drop (i + 1))).foldl addD out2 = outN) hN2 g => ih (i + 1) out2 h' (by omega) hf2 hN2 g
    obtain ⟨ccap, g1, g2, g3⟩ := G.ex
    have hrb' := G.fr _ _ hrb
    have c29 := spanned_spec r hsp key
    have c31 := read_spec r hse key
    have c30 := next_spec F key (readT r key) gp h _ g3
    have n1 := overD_no1 (l := l) (r := r) (k := key)
    have n2 := overD_no2 (l := l) (r := r) (k := key)
    have n3 := overD_no3 (l := l) (r := r) (k := key)
    have n4 := overD_yes (l := l) (r := r) (k := key)
    generalize spanned r key = w at c29 n1 n4
    generalize nextT l key (readT r key) = p at c30 n2 n3 n4
    obtain ⟨nx, w2⟩ := p
    replace c30 : ACalls Try.prog 30 [ptr gp, bys key, u64 (readT r key)] h (fun x h' => x = .tu [u64 nx, bl w2] ∧ h' = h) := c30
    replace n2 : w2 = false → overD l r key = none := n2
    replace n3 : nx.toNat = r.txn.toNat → overD l r key = none := n3
    replace n4 : w = true → w2 = true → nx.toNat ≠ r.txn.toNat → overD l r key = some ⟨r.txn, nx, 3⟩ := n4
    refine RRun.inLoop ?_
    cases w with
    | false =>
      rw [n1 rfl] at hf hN
      repeat' (first | refine S.nilK ?_ | (refine S.op rfl ?_; first | refine R.indexAddr rfl rfl (by omega) h1 ?_ | refine R.callQ (by decide) rfl (c29 _) ?_ | refine R.mv rfl ?_ | refine R.loadR rfl rfl ?_ | refine R.load (by decide) rfl (by (repeat' (first | assumption)); first | done | fail) rfl ?_ | refine S.addI rfl rfl (by omega) ?_ | refine R.not rfl ?_ | ((first | refine S.lss rfl rfl ?_ ?_) <;> intro hlt <;> try (exfalso; omega))) | refine S.seq ?_ | refine S.region ?_ | refine S.condT rfl ?_ | refine RRun.skip ?_ | refine RRun.block ?_ | refine RRun.exit rfl ?_)
      rw [show ((i : Int) + 1) = ((i + 1 : Nat) : Int) by omega]
      exact S.keep [0, 2, 4, 17, 18, 19, 31, 32, 33] rfl (hnext _ _ hf hN G)
    | true =>
      cases w2 with
      | false =>
        rw [n2 rfl] at hf hN
        repeat' (first | refine S.nilK ?_ | (refine S.op rfl ?_; first | refine R.indexAddr rfl rfl (by omega) h1 ?_ | refine R.callQ (by decide) rfl (c29 _) ?_ | refine R.callQ (by decide) rfl (c31 _) ?_ | refine R.callQ (by decide) rfl c30 ?_ | refine R.mv rfl ?_ | refine R.loadR rfl rfl ?_ | refine R.load (by decide) rfl (by (repeat' (first | assumption)); first | done | fail) rfl ?_ | refine S.addI rfl rfl (by omega) ?_ | refine R.pickF rfl rfl ?_ | refine R.not rfl ?_ | refine R.extract rfl rfl ?_ | ((first | refine S.lss rfl rfl ?_ ?_) <;> intro hlt <;> try (exfalso; omega))) | refine S.skip rfl ?_ | refine S.seq ?_ | refine S.region ?_ | refine S.condT rfl ?_ | refine S.condF rfl ?_ | refine RRun.skip ?_ | refine RRun.block ?_ | refine RRun.inBlock ?_)
        rw [show ((i : Int) + 1) = ((i + 1 : Nat) : Int) by omega]
        exact S.keep [0, 2, 4, 17, 18, 19, 31, 32, 33] rfl (hnext _ _ hf hN G)
      | true =>
        by_cases hx : nx.toNat = r.txn.toNat
        · rw [n3 hx] at hf hN
          repeat' (first | refine S.nilK ?_ | (refine S.op rfl ?_; first | refine R.indexAddr rfl rfl (by omega) h1 ?_ | refine R.callQ (by decide) rfl (c29 _) ?_ | refine R.callQ (by decide) rfl (c31 _) ?_ | refine R.callQ (by decide) rfl c30 ?_ | refine R.mv rfl ?_ | refine R.fieldAddr rfl ?_ | refine R.loadR rfl rfl ?_ | refine R.load (by decide) rfl (by (repeat' (first | assumption)); first | done | fail) rfl ?_ | refine S.addI rfl rfl (by omega) ?_ | refine R.pickT rfl rfl ?_ | refine R.not rfl ?_ | refine R.extract rfl rfl ?_ | ((first | refine S.lss rfl rfl ?_ ?_ | refine S.eqInt rfl rfl ?_ ?_) <;> intro hlt <;> try (exfalso; omega))) | refine S.seq ?_ | refine S.region ?_ | refine S.condT rfl ?_ | refine S.condF rfl ?_ | refine RRun.skip ?_ | refine RRun.block ?_ | refine RRun.inBlock ?_)
          all_goals first
            | (exfalso; omega)
            | skip
          rw [show ((i : Int) + 1) = ((i + 1 : Nat) : Int) by omega]
          exact S.keep [0, 2, 4, 17, 18, 19, 31, 32, 33] rfl (hnext _ _ hf hN G)
        · rw [n4 rfl rfl hx] at hf hN
          simp only [List.length_cons] at hN
          rw [List.foldl_cons] at hf
          have hal := addD_len out ⟨r.txn, nx, 3⟩
          have cadd := add_spec G ⟨r.txn, nx, 3⟩ (.inr (.inr rfl)) (by omega)
          repeat' (first | refine S.nilK ?_ | (refine S.op rfl ?_; first | refine R.indexAddr rfl rfl (by omega) h1 ?_ | refine R.callQ (by decide) rfl (c29 _) ?_ | refine R.callQ (by decide) rfl (c31 _) ?_ | refine R.callQ (by decide) rfl c30 ?_ | refine R.mv rfl ?_ | refine R.fieldAddr rfl ?_ | refine R.loadR rfl rfl ?_ | refine R.load (by decide) rfl (by (repeat' (first | assumption)); first | done | fail) rfl ?_ | refine R.pickT rfl rfl ?_ | refine R.not rfl ?_ | refine R.extract rfl rfl ?_ | refine R.build rfl rfl ?_ | ((first | refine S.lss rfl rfl ?_ ?_ | refine S.eqInt rfl rfl ?_ ?_) <;> intro hlt <;> try (exfalso; omega))) | refine S.seq ?_ | refine S.region ?_ | refine S.condT rfl ?_ | refine S.condF rfl ?_ | refine RRun.skip ?_ | refine RRun.block ?_)
          all_goals first
            | (exfalso; omega)
            | skip
          refine S.op rfl (R.call rfl (show avs _ _ = some [ptr gp, .ag (depC ⟨r.txn, nx, 3⟩)] from rfl) (cadd.mono fun x' h' G' => ?_))
          repeat' (first | refine S.nilK ?_ | (refine S.op rfl ?_; first | refine R.mv rfl ?_ | refine S.addI rfl rfl (by omega) ?_) | refine S.region ?_ | refine RRun.inBlock ?_)
          rw [show ((i : Int) + 1) = ((i + 1 : Nat) : Int) by omega]
          exact S.keep [0, 2, 4, 17, 18, 19, 31, 32, 33] rfl (hnext _ _ hf (by omega) G')
def oversLs (l : List Run) (ks : List (List UInt8)) (rs : List Run) : List Dep := (rs.filter serial).flatMap fun r => oversL l r ks
theorem oversLs_cons (l : List Run) (ks : List (List UInt8)) (r : Run) (rs : List Run) : oversLs l ks (r :: rs) = (if serial r = true then oversL l r ks ++ oversLs l ks rs else oversLs l ks rs) := by
  unfold oversLs
  rw [List.filter_cons]
  split
  · rw [List.flatMap_cons]
  · rfl
theorem oversL_len (l : List Run) (r : Run) (ks : List (List UInt8)) : (oversL l r ks).length ≤ ks.length := List.length_filterMap_le _ _
theorem oversLs_len (l : List Run) (ks : List (List UInt8)) : ∀ rs : List Run, (oversLs l ks rs).length ≤ rs.length * ks.length
  | [] => by simp [oversLs]
  | r :: rs => by
    rw [oversLs_cons, List.length_cons, Nat.add_mul, Nat.one_mul]
    have h1 := oversLs_len l ks rs
    have h2 := oversL_len l r ks
    split
    · rw [List.length_append]; omega
    · omega
theorem o_out {l : List Run} (F : Few l) (gp mp : Nat) (b0 : AHeap) (ks : List (List UInt8)) (hS : ks.length ≤ 1000000) (outN : List Dep) (k : List RT) (Q : AV → AHeap → Prop) (H : ∀ h', GAt l gp mp b0 outN h' → RRun Try.prog Try.f12 65 k (Env.get [(0, ptr gp)]) h' Q) : ∀ (n i : Nat) (out : List Dep) (h : AHeap), i + n = l.length → (oversLs l ks (l.drop i)).foldl addD out = outN → out.length + (oversLs l ks (l.drop i)).length ≤ 1000000 → GAt l gp mp b0 out h →
    RRun Try.prog Try.f12 65 (.inLoop r12l0 :: .inBlock 0 :: k) (Env.get [(0, ptr gp), (2, keysA ks), (17, runsA l), (18, i64 l.length), (19, i64 i)]) h Q := by
  have hfl := F.len
  intro n
  induction n with
  | zero =>
    intro i out h hi hf hN G
    rw [List.drop_of_length_le (by omega)] at hf
    have hf2 : out = outN := hf
    subst hf2
    refine RRun.inLoop ?_
    repeat' (first | refine S.nilK ?_ | (refine S.op rfl ?_; first | ((first | refine S.lss rfl rfl ?_ ?_) <;> intro hlt <;> try (exfalso; omega))) | refine S.seq ?_ | refine S.region ?_ | refine S.condF rfl ?_ | refine RRun.exit rfl ?_)
    exact S.keep [0] rfl (H h G)
  | succ n ih =>
    intro i out h hi hf hN G
    have hie : i < l.length := by omega
    have h1 : (l.map fun k => runC k)[((i : Nat) : Int).toNat]? = some (runC l[i]) := by simp [hie]
    have hsl := F.seen l[i] (List.getElem_mem hie)
    have hpl := F.spans l[i] (List.getElem_mem hie)
    rw [List.drop_eq_getElem_cons hie, oversLs_cons] at hf hN
    generalize l[i] = r at h1 hf hN hsl hpl
    have hsr : serial r = (decide (r.state = 1) && decide (r.level = 4)) := rfl
    rw [hsr] at hf hN
    have ha := addDs_len (oversL l r ks) out
    have hlen : (ks.map fun k => [bys k]).length = ks.length := by simp
    refine RRun.inLoop ?_
    by_cases hs : r.state = 1
    · by_cases hl4 : r.level = 4
      · rw [decide_eq_true hs, decide_eq_true hl4, Bool.and_self, if_pos rfl] at hf hN
        rw [List.foldl_append] at hf
        rw [List.length_append] at hN
        repeat' (first | refine S.nilK ?_ | (refine S.op rfl ?_; first | refine R.indexAddr rfl rfl (by omega) h1 ?_ | refine R.mv rfl ?_ | refine R.fieldAddr rfl ?_ | refine R.loadR rfl rfl ?_ | refine R.load (by decide) rfl (by (repeat' (first | exact AHeap.set_same _ _ _)); first | done | fail) rfl ?_ | refine R.pickF rfl rfl ?_ | refine R.len rfl ?_ | refine R.alloc rfl (fun b hb => ?_) | ((first | refine S.lss rfl rfl ?_ ?_ | refine S.eqInt rfl rfl ?_ ?_) <;> intro hlt <;> try (exfalso; omega))) | (refine S.op0 rfl ?_; first | refine S.storeS rfl rfl rfl (by rfl) rfl (by first | decide | exact Nat.le_refl _ | exact Nat.le_of_ble_eq_true rfl) ?_) | refine S.seq ?_ | refine S.region ?_ | refine S.condT rfl ?_ | refine S.condF rfl ?_ | refine RRun.skip ?_ | refine RRun.block ?_)
        all_goals first
          | (exfalso; omega)
          | skip
        revert b hb
        intro rb hrb
        have G1 := G.loc (.box (runC r)) hrb
        rw [hlen]
        refine RRun.loopIn (S.keep [0, 2, 4, 17, 18, 19, 31, 32, 33] rfl (o_in F r (by omega) (by omega) rb gp mp _ (AHeap.set_same _ _ _) ks hS _ _ _ _ _ _ _ (fun h2 G2 => ?_) ks.length 0 out _ (by omega) rfl (by rw [List.drop_zero]; omega) G1))
        have G3 := G2.drop (G.nn hrb)
        repeat' (first | refine S.nilK ?_ | (refine S.op rfl ?_; first | refine R.mv rfl ?_ | refine S.addI rfl rfl (by omega) ?_) | refine S.region ?_ | refine RRun.inBlock ?_)
        rw [show ((i : Int) + 1) = ((i + 1 : Nat) : Int) by omega]
        exact S.keep [0, 2, 17, 18, 19] rfl (ih (i + 1) _ h2 (by omega) hf (by omega) G3)
      · rw [decide_eq_true hs, decide_eq_false hl4, Bool.and_false, if_neg (by decide)] at hf hN
        repeat' (first | refine S.nilK ?_ | (refine S.op rfl ?_; first | refine R.indexAddr rfl rfl (by omega) h1 ?_ | refine R.mv rfl ?_ | refine R.fieldAddr rfl ?_ | refine R.loadR rfl rfl ?_ | refine R.load (by decide) rfl (by (repeat' (first | exact AHeap.set_same _ _ _)); first | done | fail) rfl ?_ | refine S.addI rfl rfl (by omega) ?_ | refine R.pickF rfl rfl ?_ | refine R.alloc rfl (fun b hb => ?_) | ((first | refine S.lss rfl rfl ?_ ?_ | refine S.eqInt rfl rfl ?_ ?_) <;> intro hlt <;> try (exfalso; omega))) | (refine S.op0 rfl ?_; first | refine S.storeS rfl rfl rfl (by rfl) rfl (by first | decide | exact Nat.le_refl _ | exact Nat.le_of_ble_eq_true rfl) ?_) | refine S.seq ?_ | refine S.region ?_ | refine S.condT rfl ?_ | refine RRun.skip ?_ | refine RRun.block ?_ | refine RRun.exit rfl ?_)
        all_goals first
          | (exfalso; omega)
          | skip
        rw [show ((i : Int) + 1) = ((i + 1 : Nat) : Int) by omega]
        exact S.keep [0, 2, 17, 18, 19] rfl (ih (i + 1) _ _ (by omega) hf hN ((G.loc _ hb).drop (G.nn hb)))
    · rw [decide_eq_false hs, Bool.false_and, if_neg (by decide)] at hf hN
      repeat' (first | refine S.nilK ?_ | (refine S.op rfl ?_; first | refine R.indexAddr rfl rfl (by omega) h1 ?_ | refine R.mv rfl ?_ | refine R.fieldAddr rfl ?_ | refine R.loadR rfl rfl ?_ | refine R.load (by decide) rfl (by (repeat' (first | exact AHeap.set_same _ _ _)); first | done | fail) rfl ?_ | refine S.addI rfl rfl (by omega) ?_ | refine R.pickT rfl rfl ?_ | refine R.alloc rfl (fun b hb => ?_) | ((first | refine S.lss rfl rfl ?_ ?_ | refine S.eqInt rfl rfl ?_ ?_) <;> intro hlt <;> try (exfalso; omega))) | (refine S.op0 rfl ?_; first | refine S.storeS rfl rfl rfl (by rfl) rfl (by first | decide | exact Nat.le_refl _ | exact Nat.le_of_ble_eq_true rfl) ?_) | refine S.skip rfl ?_ | refine S.seq ?_ | refine S.region ?_ | refine S.condT rfl ?_ | refine RRun.skip ?_ | refine RRun.block ?_ | refine RRun.exit rfl ?_)
      all_goals first
        | (exfalso; omega)
        | skip
      rw [show ((i : Int) + 1) = ((i + 1 : Nat) : Int) by omega]
      exact S.keep [0, 2, 17, 18, 19] rfl (ih (i + 1) _ _ (by omega) hf hN ((G.loc _ hb).drop (G.nn hb)))
theorem overs_spec {l : List Run} (F : Few l) {gp mp : Nat} {b0 h : AHeap} {out : List Dep} (hN : out.length ≤ 100000) (G : GAt l gp mp b0 out h) :
    ACalls Try.prog 12 [ptr gp] h (fun _ h' => GAt l gp mp b0 ((depsO l (keysS l)).foldl addD out) h') := by
  have h3 := F.len
  have h4 := F.keysS
  have ck := F.keys_spec
  have h5 := oversLs_len l (keysS l) l
  have h6 : l.length * (keysS l).length ≤ 30 * 240 := Nat.mul_le_mul h3 h4
  have hlen : (l.map fun k => runC k).length = l.length := by simp
  obtain ⟨c, hc1, hc2⟩ := res12
  refine ACalls.enter Try.func12 hc1 Try.ntmps12 hc2 (Nat.le_of_ble_eq_true rfl) rfl ?_
  obtain ⟨cc, g1, g2, g3⟩ := G.ex
  repeat' (first | refine S.nilK ?_ | (refine S.op rfl ?_; first | refine R.callQ (by decide) rfl (ck _) ?_ | refine R.mv rfl ?_ | refine R.fieldAddr rfl ?_ | refine R.nilCheck rfl ?_ | refine R.load (by decide) rfl (by (repeat' (first | assumption)); first | done | fail) rfl ?_ | refine R.len rfl ?_) | refine S.seq ?_ | refine S.region ?_ | refine RRun.block ?_)
  rw [hlen]
  refine RRun.loopIn (S.keep [0, 2, 17, 18, 19] rfl (o_out F gp mp b0 (keysS l) (by omega) _ _ _ (fun h1 G1 => ?_) l.length 0 out h (by omega) rfl (by rw [List.drop_zero]; omega) G))
  repeat' (fail)
  apply S.done rr12
  case hx => repeat (first | exact ResAt.nil)
  exact G1
end Go.Proofs.Ythfolomknkobkaa

namespace Go.Proofs.Ythfolomknkobkaa
open Go.Av
open Go.Ad (Seen Span Run Dep addD deps depsW depsR depsO)
abbrev depsA (ds : List Dep) : AV := .sl 3 (ds.map depC) .ro
theorem deps_eq (l : List Run) (ks : List (List UInt8)) : deps l ks = (depsO l ks).foldl addD ((depsR l).foldl addD ((depsW l ks).foldl addD [])) := by
  unfold deps
  rw [List.foldl_append, List.foldl_append]
theorem depsO_len {l : List Run} (F : Few l) : (depsO l (keysS l)).length ≤ 30 * 240 := Nat.le_trans (oversLs_len l (keysS l) l) (Nat.mul_le_mul F.len F.keysS)
theorem few_deps_len {l : List Run} (F : Few l) : (deps l (keysS l)).length ≤ 100000 := by
  rw [deps_eq]
  have h1 := addDs_len (depsO l (keysS l)) ((depsR l).foldl addD ((depsW l (keysS l)).foldl addD []))
  have h2 := addDs_len (depsR l) ((depsW l (keysS l)).foldl addD [])
  have h3 := addDs_len (depsW l (keysS l)) []
  have h4 := depsO_len F
  have h5 := depsR_len l l F.seen
  have h6 := depsW_len l F.len (keysS l)
  have h7 := F.len
  have h8 := F.keysS
  simp only [List.length_nil] at h3
  have h9 : (depsR l).length ≤ l.length * 300 := h5
  omega
theorem deps_spec {l : List Run} (F : Few l) (h : AHeap) : ACalls Try.prog 7 [runsA l] h (fun x h' => x = depsA (deps l (keysS l)) ∧ h' = h) := by
  have h5 : (depsR l).length ≤ l.length * 300 := depsR_len l l F.seen
  have h6 := depsW_len l F.len (keysS l)
  have h7 := F.len
  have h8 := F.keysS
  have h3 := addDs_len (depsW l (keysS l)) []
  have h2 := addDs_len (depsR l) ((depsW l (keysS l)).foldl addD [])
  simp only [List.length_nil] at h3
  rw [deps_eq]
  obtain ⟨c, hc1, hc2⟩ := res7
  refine ACalls.weak (ACalls.enter Try.func7 hc1 Try.ntmps7 hc2 (Nat.le_of_ble_eq_true rfl) rfl ?_)
  repeat' (first | ((show RRunG _ _ _ (.code (.seq (.region (⟨(some 8), _, _, _⟩ :: _)) _) :: _) _ _ _; refine Halt.h ?_)) | refine S.nilK ?_ | (refine S.op rfl ?_; first | refine R.makeMap rfl (fun m hm0 => ?_) | refine R.mv rfl ?_ | refine R.box rfl rfl rfl (fun b hb => ?_) | refine R.build rfl rfl ?_) | refine S.seq ?_ | refine S.region ?_)
  refine ⟨?_⟩
  revert b hb
  intro gp hgp
  have hgm : gp ≠ m := fun e => by subst e; rw [AHeap.set_same] at hgp; cases hgp
  have hgp0 : h gp = none := (AHeap.fresh_set hgp).2
  refine S.drop (h₀ := (h.set m (.map [])).set gp (.box [runsA l, .v (.map (some m)), .sl 3 [] .full])) ((AHeap.le.refl _).bothW gp (.box (.cons (.refl _) (.cons (.refl _) (.cons (.nilSl 3 (c := .full) trivial) .nil))))) ?_
  have G0 : GAt l gp m h [] ((h.set m (.map [])).set gp (.box [runsA l, .v (.map (some m)), .sl 3 [] .full])) := by
    refine ⟨⟨.full, .inl rfl, fun x hx => ?_, AHeap.set_same _ _ _⟩, (AHeap.set_other _ _ (Ne.symm hgm)).trans (AHeap.set_same _ _ _), fun x o hx => ?_, hgp0, hm0, fun d hd => by cases hd⟩
    · obtain ⟨u, s, e⟩ := hx; cases e
    · rw [AHeap.set_other _ _ (fun e => by subst e; rw [hgp0] at hx; cases hx), AHeap.set_other _ _ (fun e => by subst e; rw [hm0] at hx; cases hx)]
      exact hx
  generalize (h.set m (.map [])).set gp (.box [runsA l, .v (.map (some m)), .sl 3 [] .full]) = h1 at G0
  have c10 := writes_spec F (by simp) G0
  repeat' (first | ((show RRunG _ _ _ (.code (.seq (.region (⟨(some 10), _, _, _⟩ :: _)) _) :: _) _ _ _; refine Halt.h ?_)) | (refine S.op rfl ?_; first | refine R.call rfl rfl (c10.mono fun x1 h2 G1 => ?_) | refine R.mv rfl ?_) | refine S.seq ?_ | refine S.region ?_)
  refine ⟨?_⟩
  have c11 := reads_spec F (by omega) G1
  repeat' (first | ((show RRunG _ _ _ (.code (.seq (.region (⟨(some 12), _, _, _⟩ :: _)) _) :: _) _ _ _; refine Halt.h ?_)) | (refine S.op rfl ?_; first | refine R.call rfl rfl (c11.mono fun x2 h3 G2 => ?_) | refine R.mv rfl ?_) | refine S.seq ?_ | refine S.region ?_)
  refine ⟨?_⟩
  have c12 := overs_spec F (by omega) G2
  repeat' (first | ((show RRunG _ _ _ (.code (.seq (.region (⟨(some 14), _, _, _⟩ :: _)) _) :: _) _ _ _; refine Halt.h ?_)) | (refine S.op rfl ?_; first | refine R.call rfl rfl (c12.mono fun x3 h4 G3 => ?_) | refine R.mv rfl ?_) | refine S.seq ?_ | refine S.region ?_)
  refine ⟨?_⟩
  obtain ⟨cc, g1, g2, g3⟩ := G3.ex
  repeat' (first | refine S.nilK ?_ | (refine S.op rfl ?_; first | refine R.mv rfl ?_ | refine R.fieldAddr rfl ?_ | refine R.nilCheck rfl ?_ | refine R.load (by decide) rfl (by (repeat' (first | assumption)); first | done | fail) rfl ?_) | refine S.seq ?_ | refine S.region ?_)
  apply S.ret rr7
  case hx => repeat (first | exact ResAt.nil | apply ResAt.tmp rfl)
  exact ⟨_, h, .toRo _ _ _, fun b o e => ⟨o, G3.fr b o e, .refl o⟩, rfl, rfl⟩
end Go.Proofs.Ythfolomknkobkaa

namespace Go.Av
namespace Ade
theorem bytesLess_lt : ∀ a b : List UInt8, Op.bytesLess a b = decide (Lib.compareBytes a b < 0)
  | [], [] => by simp [Op.bytesLess, Lib.compareBytes]
  | [], _ :: _ => by simp [Op.bytesLess, Lib.compareBytes]
  | _ :: _, [] => by simp [Op.bytesLess, Lib.compareBytes]
  | a :: x, b :: y => by
    have ih := bytesLess_lt x y
    simp only [Op.bytesLess, Lib.compareBytes]
    by_cases h1 : a < b
    · simp [h1]
    · by_cases h2 : b < a
      · have h3 : a ≠ b := fun e => by subst e; exact h1 h2
        simp [h1, h2, h3]
      · have h3 : a = b := by
          rw [UInt8.lt_iff_toNat_lt] at h1 h2
          exact UInt8.toNat_inj.1 (by omega)
        subst h3
        simp [h1, ih]
end Ade
theorem S.strLssD {P : Program} {c : Cls} {E : AEnv} {h : AHeap} {K : AV → AHeap → Prop} {x y : Operand} {a b : List UInt8} (hx : aev E x = some (str a)) (hy : aev E y = some (str b)) (hk : K (bl (decide (Lib.compareBytes a b < 0))) h) : ROpS P c (.bin .lss x y) E h K :=
  R.binStr hx hy rfl (by
    rw [mk_toList, mk_toList, Ade.bytesLess_lt]; exact hk)
theorem S.strGeqD {P : Program} {c : Cls} {E : AEnv} {h : AHeap} {K : AV → AHeap → Prop} {x y : Operand} {a b : List UInt8} (hx : aev E x = some (str a)) (hy : aev E y = some (str b)) (hk : K (bl (decide (0 ≤ Lib.compareBytes a b))) h) : ROpS P c (.bin .geq x y) E h K :=
  R.binStr hx hy rfl (by
    rw [mk_toList, mk_toList, Ade.bytesLess_lt]
    have : (!decide (Lib.compareBytes a b < 0)) = decide (0 ≤ Lib.compareBytes a b) := by
      by_cases hc : Lib.compareBytes a b < 0
      · rw [decide_eq_true hc, decide_eq_false (by omega)]; rfl
      · rw [decide_eq_false hc, decide_eq_true (by omega)]; rfl
    rw [this]; exact hk)
end Go.Av
namespace Go.Proofs.Ythfolomknkobkaa
open Go.Av
open Go.Ad (Seen Span Run Dep addD inSpan spanned findR)
def r32l0 : RCode :=
  (.seq (.region [
    ⟨(some 10), none, .act, .bin .lss (.tmp 9) (.tmp 8)⟩])
  (.seq (.cond (.tmp 10)
   .skip
   (.exit 0))
  (.seq (.block 1
   (.seq (.region [
     ⟨(some 11), none, .act, .indexAddr 1 (.tmp 7) (.tmp 9)⟩,
     ⟨(some 12), none, .act, .load false 1 (.tmp 11)⟩,
     ⟨(some 6), none, .act, .mv (.tmp 12)⟩])
   (.seq (.region [
     ⟨(some 13), none, .act, .mv (.tmp 6)⟩,
     ⟨(some 14), none, .act, .toStr (.tmp 13)⟩,
     ⟨(some 15), none, .act, .mv (.tmp 1)⟩,
     ⟨(some 16), none, .act, .toStr (.tmp 15)⟩,
     ⟨(some 17), none, .act, .eq false .str (.tmp 14) (.tmp 16)⟩])
   (.cond (.tmp 17)
    (.seq (.region [
      ⟨(some 4), none, .act, .mv (.const (.bool true))⟩])
    .ret)
    .skip))))
  (.region [
    ⟨(some 18), none, .act, .bin .add (.tmp 9) (.const (.int .i64 1))⟩,
    ⟨(some 9), none, .act, .mv (.tmp 18)⟩]))))
def r32 : RCode :=
  (.seq (.region [
    ⟨(some 4), none, .act, .mv (.const (.bool false))⟩])
  (.seq (.seq (.region [
    ⟨(some 7), none, .act, .mv (.tmp 0)⟩,
    ⟨(some 8), none, .act, .len (.tmp 7)⟩,
    ⟨(some 9), none, .act, .mv (.const (.int .i64 0))⟩])
  (.block 0
   (.loop r32l0)))
  (.seq (.region [
    ⟨(some 4), none, .act, .mv (.const (.bool false))⟩])
  .ret)))
theorem res32 : ∃ c, Try.f32.body = some c ∧ resCode Try.prog 19 c = some r32 := ⟨_, rfl, by kernel_rfl⟩
theorem rr32 : resRes Try.prog Try.f32.results.toList = some [.tmp 4] := by kernel_rfl
theorem has_loop (ks : List (List UInt8)) (hks : ks.length ≤ 1000000) (key : List UInt8) (h : AHeap) (k : List RT) (Q : AV → AHeap → Prop)
    (hk : key ∉ ks → RRun Try.prog Try.f32 19 k (Env.get []) h Q) (hq : key ∈ ks → Q (bl true) h) : ∀ (m i : Nat), i + m = ks.length → (∀ x ∈ ks.take i, x ≠ key) →
    RRun Try.prog Try.f32 19 (.inLoop r32l0 :: .inBlock 0 :: k) (Env.get [(1, bys key), (7, keysA ks), (8, i64 ks.length), (9, i64 i)]) h Q := by
  intro m
  induction m with
  | zero =>
    intro i hi hno
    rw [List.take_of_length_le (by omega)] at hno
    refine RRun.inLoop ?_
    repeat' (first | refine S.nilK ?_ | (refine S.op rfl ?_; first | ((first | refine S.lss rfl rfl ?_ ?_) <;> intro hlt <;> try (exfalso; omega))) | refine S.seq ?_ | refine S.region ?_ | refine S.condF rfl ?_ | refine RRun.exit rfl ?_)
    exact S.keep [] rfl (hk fun hm => hno _ hm rfl)
  | succ m ih =>
    intro i hi hno
    have hie : i < ks.length := by omega
    have h1 : (ks.map fun k => [bys k])[((i : Nat) : Int).toNat]? = some [bys ks[i]] := by simp [hie]
    have hmem := List.getElem_mem hie
    have ht : ks.take (i + 1) = ks.take i ++ [ks[i]] := by rw [List.take_add_one, List.getElem?_eq_getElem hie]; rfl
    have hih := ih (i + 1) (by omega)
    rw [ht] at hih
    generalize ks[i] = x at h1 hmem hih
    refine RRun.inLoop ?_
    by_cases hx : x = key
    · have hd := decide_eq_true hx
      repeat' (first | refine S.nilK ?_ | (refine S.op rfl ?_; first | refine R.indexAddr rfl rfl (by omega) h1 ?_ | refine R.toStr (l := x) rfl ?_ | refine R.toStr (l := key) rfl ?_ | (refine S.eqStrD (a := x) (b := key) rfl rfl ?_; rw [hd]) | refine R.mv rfl ?_ | refine R.loadR rfl rfl ?_ | ((first | refine S.lss rfl rfl ?_ ?_) <;> intro hlt <;> try (exfalso; omega))) | refine S.seq ?_ | refine S.region ?_ | refine S.condT rfl ?_ | refine RRun.skip ?_ | refine RRun.block ?_)
      apply S.ret rr32
      case hx => repeat (first | exact ResAt.nil | apply ResAt.tmp rfl)
      exact hq (hx ▸ hmem)
    · have hd := decide_eq_false hx
      repeat' (first | refine S.nilK ?_ | (refine S.op rfl ?_; first | refine R.indexAddr rfl rfl (by omega) h1 ?_ | refine R.toStr (l := x) rfl ?_ | refine R.toStr (l := key) rfl ?_ | (refine S.eqStrD (a := x) (b := key) rfl rfl ?_; rw [hd]) | refine R.mv rfl ?_ | refine R.loadR rfl rfl ?_ | refine S.addI rfl rfl (by omega) ?_ | ((first | refine S.lss rfl rfl ?_ ?_) <;> intro hlt <;> try (exfalso; omega))) | refine S.seq ?_ | refine S.region ?_ | refine S.condT rfl ?_ | refine S.condF rfl ?_ | refine RRun.skip ?_ | refine RRun.block ?_ | refine RRun.inBlock ?_)
      rw [show ((i : Int) + 1) = ((i + 1 : Nat) : Int) by omega]
      exact S.keep [1, 7, 8, 9] rfl (hih fun y hy => by
        rcases List.mem_append.1 hy with hy | hy
        · exact hno y hy
        · rw [List.mem_singleton.1 hy]; exact hx)
theorem has_spec (ks : List (List UInt8)) (hks : ks.length ≤ 1000000) (key : List UInt8) (h : AHeap) : ACalls Try.prog 32 [keysA ks, bys key] h (fun x h' => x = bl (decide (key ∈ ks)) ∧ h' = h) := by
  obtain ⟨c, hc1, hc2⟩ := res32
  refine ACalls.weak (ACalls.enter Try.func32 hc1 Try.ntmps32 hc2 (Nat.le_of_ble_eq_true rfl) rfl ?_)
  have hlen : (ks.map fun k => [bys k]).length = ks.length := by simp
  repeat' (first | refine S.nilK ?_ | (refine S.op rfl ?_; first | refine R.mv rfl ?_ | refine R.len rfl ?_) | refine S.seq ?_ | refine S.region ?_ | refine RRun.block ?_)
  rw [hlen]
  refine RRun.loopIn (S.keep [1, 7, 8, 9] rfl (has_loop ks hks key h _ _ (fun hno => ?_) (fun hm => ⟨_, h, .refl _, .refl _, by rw [decide_eq_true hm], rfl⟩) ks.length 0 (by omega) (fun x hx => by cases hx)))
  repeat' (first | refine S.nilK ?_ | (refine S.op rfl ?_; first | refine R.mv rfl ?_) | refine S.seq ?_ | refine S.region ?_)
  apply S.ret rr32
  case hx => repeat (first | exact ResAt.nil | apply ResAt.tmp rfl)
  exact ⟨_, h, .refl _, .refl _, by rw [decide_eq_false hno]; rfl, rfl⟩
def r16l0 : RCode :=
  (.seq (.region [
    ⟨(some 11), none, .act, .bin .lss (.tmp 10) (.tmp 9)⟩])
  (.seq (.cond (.tmp 11)
   .skip
   (.exit 0))
  (.seq (.block 1
   (.seq (.region [
     ⟨(some 12), none, .act, .indexAddr 8 (.tmp 8) (.tmp 10)⟩,
     ⟨(some 13), none, .act, .load true 8 (.tmp 12)⟩,
     ⟨(some 7), none, .act, .alloc [(.int .u64 0), (.int .i64 0), (.int .i64 0), (.int .u64 0), (.int .u64 0), (.slice none 0 0), (.slice none 0 0), (.slice none 0 0)]⟩,
     ⟨none, none, .act, .store 8 (.tmp 7) (.tmp 13)⟩])
   (.seq (.region [
     ⟨(some 14), none, .act, .fieldAddr 0 (.tmp 7)⟩,
     ⟨(some 15), none, .act, .load false 1 (.tmp 14)⟩,
     ⟨(some 16), none, .act, .mv (.tmp 1)⟩,
     ⟨(some 17), none, .act, .eq false .int (.tmp 15) (.tmp 16)⟩])
   (.cond (.tmp 17)
    (.seq (.region [
      ⟨(some 18), none, .act, .load true 8 (.tmp 7)⟩,
      ⟨none, none, .act, .store 8 (.tmp 4) (.tmp 18)⟩,
      ⟨(some 5), none, .act, .mv (.const (.bool true))⟩])
    .ret)
    .skip))))
  (.region [
    ⟨(some 19), none, .act, .bin .add (.tmp 10) (.const (.int .i64 1))⟩,
    ⟨(some 10), none, .act, .mv (.tmp 19)⟩]))))
def r16 : RCode :=
  (.seq (.region [
    ⟨(some 4), none, .act, .alloc [(.int .u64 0), (.int .i64 0), (.int .i64 0), (.int .u64 0), (.int .u64 0), (.slice none 0 0), (.slice none 0 0), (.slice none 0 0)]⟩,
    ⟨(some 5), none, .act, .mv (.const (.bool false))⟩])
  (.seq (.seq (.region [
    ⟨(some 8), none, .act, .mv (.tmp 0)⟩,
    ⟨(some 9), none, .act, .len (.tmp 8)⟩,
    ⟨(some 10), none, .act, .mv (.const (.int .i64 0))⟩])
  (.block 0
   (.loop r16l0)))
  (.seq (.region [
    ⟨(some 20), none, .act, .build [(.int .u64 0), (.int .i64 0), (.int .i64 0), (.int .u64 0), (.int .u64 0), (.slice none 0 0), (.slice none 0 0), (.slice none 0 0)] []⟩,
    ⟨none, none, .act, .store 8 (.tmp 4) (.tmp 20)⟩,
    ⟨(some 5), none, .act, .mv (.const (.bool false))⟩])
  .ret)))
theorem res16 : ∃ c, Try.f16.body = some c ∧ resCode Try.prog 21 c = some r16 := ⟨_, rfl, by kernel_rfl⟩
theorem rr16 : resRes Try.prog Try.f16.results.toList = some [.cell 4 true 8, .tmp 5] := by kernel_rfl
theorem rfind_loop (l : List Run) (hl : l.length ≤ 1000000) (t : UInt64) (zb : Nat) (h : AHeap) (hz0 : h zb = none) (k : List RT) (Q : AV → AHeap → Prop)
    (hk : findR l t = none → RRun Try.prog Try.f16 21 k (Env.get [(4, ptr zb)]) (h.set zb (.box zRunA)) Q) (hq : ∀ r h', findR l t = some r → h.le h' → Q (foundA (r, true)) h') : ∀ (m i : Nat), i + m = l.length → findR (l.drop i) t = findR l t →
    RRun Try.prog Try.f16 21 (.inLoop r16l0 :: .inBlock 0 :: k) (Env.get [(1, u64 t), (4, ptr zb), (8, runsA l), (9, i64 l.length), (10, i64 i)]) (h.set zb (.box zRunA)) Q := by
  have hz : (h.set zb (.box zRunA)) zb = some (.box zRunA) := AHeap.set_same _ _ _
  intro m
  induction m with
  | zero =>
    intro i hi hf
    rw [List.drop_of_length_le (by omega)] at hf
    refine RRun.inLoop ?_
    repeat' (first | refine S.nilK ?_ | (refine S.op rfl ?_; first | ((first | refine S.lss rfl rfl ?_ ?_) <;> intro hlt <;> try (exfalso; omega))) | refine S.seq ?_ | refine S.region ?_ | refine S.condF rfl ?_ | refine RRun.exit rfl ?_)
    exact S.keep [4] rfl (hk hf.symm)
  | succ m ih =>
    intro i hi hf
    have hie : i < l.length := by omega
    have h1 : (l.map fun k => runC k)[((i : Nat) : Int).toNat]? = some (runC l[i]) := by simp [hie]
    rw [List.drop_eq_getElem_cons hie] at hf
    have hih := ih (i + 1) (by omega)
    unfold findR at hf hq hih
    rw [List.find?_cons] at hf
    generalize l[i] = r at h1 hf
    refine RRun.inLoop ?_
    by_cases hx : r.txn.toNat = t.toNat
    · rw [decide_eq_true (UInt64.toNat_inj.1 hx)] at hf
      repeat' (first | refine S.nilK ?_ | (refine S.op rfl ?_; first | refine R.indexAddr rfl rfl (by omega) h1 ?_ | refine R.mv rfl ?_ | refine R.fieldAddr rfl ?_ | refine R.loadR rfl rfl ?_ | refine R.load (by decide) rfl (by (repeat' (first | exact AHeap.set_same _ _ _)); first | done | fail) rfl ?_ | refine R.alloc rfl (fun b hb => ?_) | ((first | refine S.lss rfl rfl ?_ ?_ | refine S.eqInt rfl rfl ?_ ?_) <;> intro hlt <;> try (exfalso; omega))) | (refine S.op0 rfl ?_; first | refine S.storeS rfl rfl rfl (by rfl) rfl (by first | decide | exact Nat.le_refl _ | exact Nat.le_of_ble_eq_true rfl) ?_ | refine S.store rfl rfl (by (repeat' (first | assumption | refine AHeap.get_fresh ‹_› ?_)); first | done | fail) rfl rfl rfl (by rfl) rfl ?_) | refine S.seq ?_ | refine S.region ?_ | refine S.condT rfl ?_ | refine RRun.skip ?_ | refine RRun.block ?_)
      all_goals first
        | (exfalso; omega)
        | skip
      apply S.ret rr16
      case hx => repeat (first | exact ResAt.nil | apply ResAt.tmp rfl | apply ResAt.cellA rfl (by (repeat' (first | exact AHeap.set_same _ _ _)); first | done | fail) (by rfl))
      refine hq r _ hf.symm (by repeat (first | exact AHeap.le.refl _ | refine AHeap.le.set ?_ _ (by (repeat' (first | assumption | exact AHeap.z1 ‹_›)); first | done | fail)))
    · rw [decide_eq_false (fun e => hx (by rw [e]))] at hf
      repeat' (first | refine S.nilK ?_ | (refine S.op rfl ?_; first | refine R.indexAddr rfl rfl (by omega) h1 ?_ | refine R.mv rfl ?_ | refine R.fieldAddr rfl ?_ | refine R.loadR rfl rfl ?_ | refine R.load (by decide) rfl (by (repeat' (first | exact AHeap.set_same _ _ _)); first | done | fail) rfl ?_ | refine S.addI rfl rfl (by omega) ?_ | refine R.alloc rfl (fun b hb => ?_) | ((first | refine S.lss rfl rfl ?_ ?_ | refine S.eqInt rfl rfl ?_ ?_) <;> intro hlt <;> try (exfalso; omega))) | (refine S.op0 rfl ?_; first | refine S.storeS rfl rfl rfl (by rfl) rfl (by first | decide | exact Nat.le_refl _ | exact Nat.le_of_ble_eq_true rfl) ?_) | refine S.seq ?_ | refine S.region ?_ | refine S.condT rfl ?_ | refine S.condF rfl ?_ | refine RRun.skip ?_ | refine RRun.block ?_ | refine RRun.inBlock ?_)
      all_goals first
        | (exfalso; omega)
        | skip
      rw [show ((i : Int) + 1) = ((i + 1 : Nat) : Int) by omega]
      exact S.keep [1, 4, 8, 9, 10] rfl (S.drop (by repeat (first | exact AHeap.le.refl _ | refine AHeap.le.set ?_ _ (by (repeat' (first | assumption)); first | done | fail))) (hih hf))
theorem rfind_spec (l : List Run) (hl : l.length ≤ 1000000) (t : UInt64) (h : AHeap) : ACalls Try.prog 16 [runsA l, u64 t] h (fun x h' => x = foundA (findT l t) ∧ h' = h) := by
  obtain ⟨c, hc1, hc2⟩ := res16
  refine ACalls.weak (ACalls.enter Try.func16 hc1 Try.ntmps16 hc2 (Nat.le_of_ble_eq_true rfl) rfl ?_)
  have hlen : (l.map fun k => runC k).length = l.length := by simp
  repeat' (first | refine S.nilK ?_ | (refine S.op rfl ?_; first | refine R.mv rfl ?_ | refine R.len rfl ?_ | refine R.alloc rfl (fun b hb => ?_)) | refine S.seq ?_ | refine S.region ?_ | refine RRun.block ?_)
  rw [hlen]
  revert b hb
  intro zb hzb
  refine RRun.loopIn (S.keep [1, 4, 8, 9, 10] rfl (rfind_loop l hl t zb h hzb _ _ (fun hno => ?_) (fun r h' hm hle => ⟨_, h, .refl _, hle, by unfold findT; rw [hm], rfl⟩) l.length 0 (by omega) rfl))
  repeat' (first | refine S.nilK ?_ | (refine S.op rfl ?_; first | refine R.mv rfl ?_ | refine R.build rfl rfl ?_) | (refine S.op0 rfl ?_; first | refine S.storeS rfl rfl rfl (by rfl) rfl (by first | decide | exact Nat.le_refl _ | exact Nat.le_of_ble_eq_true rfl) ?_) | refine S.seq ?_ | refine S.region ?_)
  apply S.ret rr16
  case hx => repeat (first | exact ResAt.nil | apply ResAt.tmp rfl | apply ResAt.cellA rfl (by (repeat' (first | exact AHeap.set_same _ _ _)); first | done | fail) (by rfl))
  refine ⟨_, h, .tu (.cons (.ag zRun_le) (.cons (.refl _) .nil)), (by repeat (first | exact AHeap.le.refl _ | refine AHeap.le.set ?_ _ (by (repeat' (first | assumption)); first | done | fail))), ?_, rfl⟩
  unfold findT
  rw [hno]
def r33 : RCode :=
  (.seq (.region [
    ⟨(some 6), none, .act, .mv (.const (.bool false))⟩])
  (.seq (.region [
    ⟨(some 7), none, .act, .mv (.tmp 0)⟩,
    ⟨(some 8), none, .act, .toStr (.tmp 7)⟩,
    ⟨(some 9), none, .act, .mv (.tmp 1)⟩,
    ⟨(some 10), none, .act, .toStr (.tmp 9)⟩,
    ⟨(some 11), none, .act, .bin .geq (.tmp 8) (.tmp 10)⟩,
    ⟨(some 12), none, .act, .mv (.tmp 11)⟩,
    ⟨(some 13), (some (12, true)), .act, .mv (.tmp 2)⟩,
    ⟨(some 14), (some (12, true)), .act, .len (.tmp 13)⟩,
    ⟨(some 15), (some (12, true)), .act, .eq false .int (.tmp 14) (.const (.int .i64 0))⟩,
    ⟨(some 16), (some (12, true)), .act, .mv (.tmp 15)⟩,
    ⟨(some 17), (some (16, false)), .act, .mv (.tmp 0)⟩,
    ⟨(some 18), (some (16, false)), .act, .toStr (.tmp 17)⟩,
    ⟨(some 19), (some (16, false)), .act, .mv (.tmp 2)⟩,
    ⟨(some 20), (some (16, false)), .act, .toStr (.tmp 19)⟩,
    ⟨(some 21), (some (16, false)), .act, .bin .lss (.tmp 18) (.tmp 20)⟩,
    ⟨(some 22), (some (12, true)), .act, .pick (.tmp 16) (.const (.bool true)) (.tmp 21)⟩,
    ⟨(some 23), none, .act, .pick (.tmp 12) (.tmp 22) (.const (.bool false))⟩,
    ⟨(some 6), none, .act, .mv (.tmp 23)⟩])
  .ret))
theorem res33 : ∃ c, Try.f33.body = some c ∧ resCode Try.prog 24 c = some r33 := ⟨_, rfl, by kernel_rfl⟩
theorem rr33 : resRes Try.prog Try.f33.results.toList = some [.tmp 6] := by kernel_rfl
theorem rwithin_spec (k : List UInt8) (p : Span) (h : AHeap) : ACalls Try.prog 33 [bys k, bys p.lo, bys p.hi] h (fun x h' => x = bl (inSpan k p) ∧ h' = h) := by
  unfold inSpan
  have h2 := len_bytes p.hi
  have hz : decide (p.hi = []) = decide (p.hi.length = 0) := by
    cases p.hi <;> simp
  rw [hz]
  have g1 : ∀ {P : Program} {c : Cls} {E : AEnv} {h : AHeap} {K : AV → AHeap → Prop} {x y : Operand}, aev E x = some (str k) → aev E y = some (str p.lo) → K (bl (decide (0 ≤ Lib.compareBytes k p.lo))) h → ROpS P c (.bin .geq x y) E h K := fun hx hy hk => S.strGeqD hx hy hk
  have g2 : ∀ {P : Program} {c : Cls} {E : AEnv} {h : AHeap} {K : AV → AHeap → Prop} {x y : Operand}, aev E x = some (str k) → aev E y = some (str p.hi) → K (bl (decide (Lib.compareBytes k p.hi < 0))) h → ROpS P c (.bin .lss x y) E h K := fun hx hy hk => S.strLssD hx hy hk
  generalize decide (0 ≤ Lib.compareBytes k p.lo) = w1 at g1
  generalize decide (Lib.compareBytes k p.hi < 0) = w2 at g2
  obtain ⟨c, hc1, hc2⟩ := res33
  refine ACalls.weak (ACalls.enter Try.func33 hc1 Try.ntmps33 hc2 (Nat.le_of_ble_eq_true rfl) rfl ?_)
  cases w1 with
  | false =>
    repeat' (first | refine S.nilK ?_ | (refine S.op rfl ?_; first | refine R.toStr (l := k) rfl ?_ | refine R.toStr (l := p.lo) rfl ?_ | refine g1 rfl rfl ?_ | refine R.mv rfl ?_ | refine R.pickF rfl rfl ?_) | refine S.skip rfl ?_ | refine S.seq ?_ | refine S.region ?_)
    apply S.ret rr33
    case hx => repeat (first | exact ResAt.nil | apply ResAt.tmp rfl)
    exact ⟨_, h, .refl _, .refl _, rfl, rfl⟩
  | true =>
    by_cases hl : p.hi.length = 0
    · rw [decide_eq_true hl]
      repeat' (first | refine S.nilK ?_ | (refine S.op rfl ?_; first | refine R.toStr (l := k) rfl ?_ | refine R.toStr (l := p.lo) rfl ?_ | refine g1 rfl rfl ?_ | refine R.mv rfl ?_ | refine R.pickT rfl rfl ?_ | refine R.len rfl ?_ | ((first | refine S.eqInt rfl rfl ?_ ?_) <;> intro hlt <;> try (exfalso; omega))) | refine S.skip rfl ?_ | refine S.seq ?_ | refine S.region ?_)
      all_goals first
        | (exfalso; omega)
        | skip
      apply S.ret rr33
      case hx => repeat (first | exact ResAt.nil | apply ResAt.tmp rfl)
      exact ⟨_, h, .refl _, .refl _, rfl, rfl⟩
    · rw [decide_eq_false hl]
      repeat' (first | refine S.nilK ?_ | (refine S.op rfl ?_; first | refine R.toStr (l := k) rfl ?_ | refine R.toStr (l := p.lo) rfl ?_ | refine g1 rfl rfl ?_ | refine R.toStr (l := p.hi) rfl ?_ | refine g2 rfl rfl ?_ | refine R.mv rfl ?_ | refine R.pickT rfl rfl ?_ | refine R.pickF rfl rfl ?_ | refine R.len rfl ?_ | ((first | refine S.eqInt rfl rfl ?_ ?_) <;> intro hlt <;> try (exfalso; omega))) | refine S.seq ?_ | refine S.region ?_)
      all_goals first
        | (exfalso; omega)
        | skip
      all_goals
        apply S.ret rr33
        case hx => repeat (first | exact ResAt.nil | apply ResAt.tmp rfl)
        exact ⟨_, h, .refl _, .refl _, rfl, rfl⟩
def r17l0 : RCode :=
  (.seq (.region [
    ⟨(some 11), none, .act, .bin .lss (.tmp 10) (.tmp 9)⟩])
  (.seq (.cond (.tmp 11)
   .skip
   (.exit 0))
  (.seq (.block 1
   (.seq (.region [
     ⟨(some 12), none, .act, .indexAddr 2 (.tmp 8) (.tmp 10)⟩,
     ⟨(some 13), none, .act, .load true 2 (.tmp 12)⟩,
     ⟨(some 6), none, .act, .alloc [(.slice none 0 0), (.slice none 0 0)]⟩,
     ⟨none, none, .act, .store 2 (.tmp 6) (.tmp 13)⟩])
   (.seq (.region [
     ⟨(some 14), none, .act, .mv (.tmp 1)⟩,
     ⟨(some 15), none, .act, .fieldAddr 0 (.tmp 6)⟩,
     ⟨(some 16), none, .act, .load false 1 (.tmp 15)⟩,
     ⟨(some 17), none, .act, .fieldAddr 1 (.tmp 6)⟩,
     ⟨(some 18), none, .act, .load false 1 (.tmp 17)⟩,
     ⟨(some 19), none, .act, .call 33 [(.tmp 14), (.tmp 16), (.tmp 18)]⟩])
   (.cond (.tmp 19)
    (.seq (.region [
      ⟨(some 4), none, .act, .mv (.const (.bool true))⟩])
    .ret)
    .skip))))
  (.region [
    ⟨(some 20), none, .act, .bin .add (.tmp 10) (.const (.int .i64 1))⟩,
    ⟨(some 10), none, .act, .mv (.tmp 20)⟩]))))
def r17 : RCode :=
  (.seq (.region [
    ⟨(some 2), none, .act, .box (.tmp 0)⟩,
    ⟨(some 4), none, .act, .mv (.const (.bool false))⟩])
  (.seq (.seq (.region [
    ⟨(some 7), none, .act, .fieldAddr 7 (.tmp 2)⟩,
    ⟨(some 8), none, .act, .load false 1 (.tmp 7)⟩,
    ⟨(some 9), none, .act, .len (.tmp 8)⟩,
    ⟨(some 10), none, .act, .mv (.const (.int .i64 0))⟩])
  (.block 0
   (.loop r17l0)))
  (.seq (.region [
    ⟨(some 4), none, .act, .mv (.const (.bool false))⟩])
  .ret)))
theorem res17 : ∃ c, Try.f17.body = some c ∧ resCode Try.prog 21 c = some r17 := ⟨_, rfl, by kernel_rfl⟩
theorem rr17 : resRes Try.prog Try.f17.results.toList = some [.tmp 4] := by kernel_rfl
theorem rw_loop (l : List Span) (hl : l.length ≤ 1000000) (key : List UInt8) (h : AHeap) (k : List RT) (Q : AV → AHeap → Prop)
    (hk : l.any (inSpan key) = false → RRun Try.prog Try.f17 21 k (Env.get []) h Q) (hq : ∀ h', l.any (inSpan key) = true → h.le h' → Q (bl true) h') : ∀ (m i : Nat), i + m = l.length → (l.drop i).any (inSpan key) = l.any (inSpan key) →
    RRun Try.prog Try.f17 21 (.inLoop r17l0 :: .inBlock 0 :: k) (Env.get [(1, bys key), (8, spansA l), (9, i64 l.length), (10, i64 i)]) h Q := by
  intro m
  induction m with
  | zero =>
    intro i hi hf
    rw [List.drop_of_length_le (by omega)] at hf
    refine RRun.inLoop ?_
    repeat' (first | refine S.nilK ?_ | (refine S.op rfl ?_; first | ((first | refine S.lss rfl rfl ?_ ?_) <;> intro hlt <;> try (exfalso; omega))) | refine S.seq ?_ | refine S.region ?_ | refine S.condF rfl ?_ | refine RRun.exit rfl ?_)
    exact S.keep [] rfl (hk hf.symm)
  | succ m ih =>
    intro i hi hf
    have hie : i < l.length := by omega
    have h1 : (l.map fun k => spanC k)[((i : Nat) : Int).toNat]? = some (spanC l[i]) := by simp [hie]
    rw [List.drop_eq_getElem_cons hie, List.any_cons] at hf
    have hih := ih (i + 1) (by omega)
    generalize l[i] = p at h1 hf
    have c33 := rwithin_spec key p
    generalize inSpan key p = w at c33 hf
    refine RRun.inLoop ?_
    cases w with
    | true =>
      rw [Bool.true_or] at hf
      repeat' (first | refine S.nilK ?_ | (refine S.op rfl ?_; first | refine R.indexAddr rfl rfl (by omega) h1 ?_ | refine R.callQ (by decide) rfl (c33 _) ?_ | refine R.mv rfl ?_ | refine R.fieldAddr rfl ?_ | refine R.loadR rfl rfl ?_ | refine R.load (by decide) rfl (by (repeat' (first | exact AHeap.set_same _ _ _)); first | done | fail) rfl ?_ | refine R.alloc rfl (fun b hb => ?_) | ((first | refine S.lss rfl rfl ?_ ?_) <;> intro hlt <;> try (exfalso; omega))) | (refine S.op0 rfl ?_; first | refine S.storeS rfl rfl rfl (by rfl) rfl (by first | decide | exact Nat.le_refl _ | exact Nat.le_of_ble_eq_true rfl) ?_) | refine S.seq ?_ | refine S.region ?_ | refine S.condT rfl ?_ | refine RRun.skip ?_ | refine RRun.block ?_)
      apply S.ret rr17
      case hx => repeat (first | exact ResAt.nil | apply ResAt.tmp rfl)
      exact hq _ hf.symm (by repeat (first | exact AHeap.le.refl _ | refine AHeap.le.set ?_ _ (by (repeat' (first | assumption)); first | done | fail)))
    | false =>
      rw [Bool.false_or] at hf
      repeat' (first | refine S.nilK ?_ | (refine S.op rfl ?_; first | refine R.indexAddr rfl rfl (by omega) h1 ?_ | refine R.callQ (by decide) rfl (c33 _) ?_ | refine R.mv rfl ?_ | refine R.fieldAddr rfl ?_ | refine R.loadR rfl rfl ?_ | refine R.load (by decide) rfl (by (repeat' (first | exact AHeap.set_same _ _ _)); first | done | fail) rfl ?_ | refine S.addI rfl rfl (by omega) ?_ | refine R.alloc rfl (fun b hb => ?_) | ((first | refine S.lss rfl rfl ?_ ?_) <;> intro hlt <;> try (exfalso; omega))) | (refine S.op0 rfl ?_; first | refine S.storeS rfl rfl rfl (by rfl) rfl (by first | decide | exact Nat.le_refl _ | exact Nat.le_of_ble_eq_true rfl) ?_) | refine S.seq ?_ | refine S.region ?_ | refine S.condT rfl ?_ | refine S.condF rfl ?_ | refine RRun.skip ?_ | refine RRun.block ?_ | refine RRun.inBlock ?_)
      rw [show ((i : Int) + 1) = ((i + 1 : Nat) : Int) by omega]
      exact S.keep [1, 8, 9, 10] rfl (S.drop (by repeat (first | exact AHeap.le.refl _ | refine AHeap.le.set ?_ _ (by (repeat' (first | assumption)); first | done | fail))) (hih hf))
theorem rspanned_spec (r : Run) (hr : r.spans.length ≤ 1000000) (key : List UInt8) (h : AHeap) : ACalls Try.prog 17 [.ag (runC r), bys key] h (fun y h' => y = bl (spanned r key) ∧ h' = h) := by
  obtain ⟨c, hc1, hc2⟩ := res17
  refine ACalls.weak (ACalls.enter Try.func17 hc1 Try.ntmps17 hc2 (Nat.le_of_ble_eq_true rfl) rfl ?_)
  have hlen : (r.spans.map spanC).length = r.spans.length := by simp
  unfold spanned
  repeat' (first | refine S.nilK ?_ | (refine S.op rfl ?_; first | refine R.mv rfl ?_ | refine R.fieldAddr rfl ?_ | refine R.load (by decide) rfl (by (repeat' (first | exact AHeap.set_same _ _ _)); first | done | fail) rfl ?_ | refine R.len rfl ?_ | refine R.box rfl rfl rfl (fun b hb => ?_)) | refine S.seq ?_ | refine S.region ?_ | refine RRun.block ?_)
  rw [hlen]
  refine S.drop (h₀ := h) (by repeat (first | exact AHeap.le.refl _ | refine AHeap.le.set ?_ _ (by (repeat' (first | assumption)); first | done | fail))) ?_
  refine RRun.loopIn (S.keep [1, 8, 9, 10] rfl (rw_loop r.spans hr key h _ _ (fun hno => ?_) (fun h' hm hle => ⟨_, h, .refl _, hle, by rw [hm], rfl⟩) r.spans.length 0 (by omega) rfl))
  repeat' (first | refine S.nilK ?_ | (refine S.op rfl ?_; first | refine R.mv rfl ?_) | refine S.seq ?_ | refine S.region ?_)
  apply S.ret rr17
  case hx => repeat (first | exact ResAt.nil | apply ResAt.tmp rfl)
  exact ⟨_, h, .refl _, .refl _, by rw [hno]; rfl, rfl⟩
end Go.Proofs.Ythfolomknkobkaa

namespace Go.Proofs.Ythfolomknkobkaa
open Go.Av
open Go.Ad (Seen Span Run Dep ltT ltT_iff ltT_sw wrote writes)
theorem ltT_no {x y : Run} (h : ltT x y = false) : ¬ (x.ts.toNat < y.ts.toNat ∨ (x.ts.toNat = y.ts.toNat ∧ x.txn.toNat < y.txn.toNat)) := fun e => by
  rw [ltT_iff.2 e] at h; cases h
theorem getMid {α : Type} (L1 L2 : List α) (y : α) : (L1 ++ y :: L2)[L1.length]? = some y := by
  rw [List.getElem?_append_right (Nat.le_refl _), Nat.sub_self]; rfl
def r14l1 : RCode :=
  (.seq (.seq (.region [
    ⟨(some 27), none, .pure, .mv (.tmp 8)⟩,
    ⟨(some 28), none, .pure, .bin .gtr (.tmp 27) (.const (.int .i64 0))⟩,
    ⟨(some 29), none, .pure, .mv (.tmp 28)⟩,
    ⟨(some 30), (some (29, true)), .pure, .mv (.tmp 5)⟩,
    ⟨(some 31), (some (29, true)), .pure, .mv (.tmp 8)⟩,
    ⟨(some 32), (some (29, true)), .pure, .bin .sub (.tmp 31) (.const (.int .i64 1))⟩,
    ⟨(some 33), (some (29, true)), .pure, .indexAddr 8 (.tmp 30) (.tmp 32)⟩,
    ⟨(some 34), (some (29, true)), .pure, .fieldAddr 4 (.tmp 33)⟩,
    ⟨(some 35), (some (29, true)), .read, .load false 1 (.tmp 34)⟩,
    ⟨(some 36), (some (29, true)), .pure, .fieldAddr 4 (.tmp 7)⟩,
    ⟨(some 37), (some (29, true)), .read, .load false 1 (.tmp 36)⟩,
    ⟨(some 38), (some (29, true)), .pure, .bin .gtr (.tmp 35) (.tmp 37)⟩,
    ⟨(some 39), (some (29, true)), .pure, .mv (.tmp 38)⟩,
    ⟨(some 40), (some (39, false)), .pure, .mv (.tmp 5)⟩,
    ⟨(some 41), (some (39, false)), .pure, .mv (.tmp 8)⟩,
    ⟨(some 42), (some (39, false)), .pure, .bin .sub (.tmp 41) (.const (.int .i64 1))⟩,
    ⟨(some 43), (some (39, false)), .pure, .indexAddr 8 (.tmp 40) (.tmp 42)⟩,
    ⟨(some 44), (some (39, false)), .pure, .fieldAddr 4 (.tmp 43)⟩,
    ⟨(some 45), (some (39, false)), .read, .load false 1 (.tmp 44)⟩,
    ⟨(some 46), (some (39, false)), .pure, .fieldAddr 4 (.tmp 7)⟩,
    ⟨(some 47), (some (39, false)), .read, .load false 1 (.tmp 46)⟩,
    ⟨(some 48), (some (39, false)), .pure, .eq false .int (.tmp 45) (.tmp 47)⟩,
    ⟨(some 49), (some (39, false)), .pure, .mv (.tmp 48)⟩,
    ⟨(some 50), (some (49, true)), .pure, .mv (.tmp 5)⟩,
    ⟨(some 51), (some (49, true)), .pure, .mv (.tmp 8)⟩,
    ⟨(some 52), (some (49, true)), .pure, .bin .sub (.tmp 51) (.const (.int .i64 1))⟩,
    ⟨(some 53), (some (49, true)), .pure, .indexAddr 8 (.tmp 50) (.tmp 52)⟩,
    ⟨(some 54), (some (49, true)), .pure, .fieldAddr 0 (.tmp 53)⟩,
    ⟨(some 55), (some (49, true)), .read, .load false 1 (.tmp 54)⟩,
    ⟨(some 56), (some (49, true)), .pure, .fieldAddr 0 (.tmp 7)⟩,
    ⟨(some 57), (some (49, true)), .read, .load false 1 (.tmp 56)⟩,
    ⟨(some 58), (some (49, true)), .pure, .bin .gtr (.tmp 55) (.tmp 57)⟩,
    ⟨(some 59), (some (39, false)), .pure, .pick (.tmp 49) (.tmp 58) (.const (.bool false))⟩,
    ⟨(some 60), (some (29, true)), .pure, .pick (.tmp 39) (.const (.bool true)) (.tmp 59)⟩,
    ⟨(some 61), none, .pure, .pick (.tmp 29) (.tmp 60) (.const (.bool false))⟩])
  (.cond (.tmp 61)
   .skip
   (.exit 2)))
  (.block 3
   (.region [
     ⟨(some 62), none, .act, .mv (.tmp 8)⟩,
     ⟨(some 63), none, .act, .bin .sub (.tmp 62) (.const (.int .i64 1))⟩,
     ⟨(some 8), none, .act, .mv (.tmp 63)⟩])))
def r14l0 : RCode :=
  (.seq (.region [
    ⟨(some 12), none, .act, .bin .lss (.tmp 11) (.tmp 10)⟩])
  (.seq (.cond (.tmp 12)
   .skip
   (.exit 0))
  (.seq (.block 1
   (.seq (.region [
     ⟨(some 13), none, .act, .indexAddr 8 (.tmp 9) (.tmp 11)⟩,
     ⟨(some 14), none, .act, .load true 8 (.tmp 13)⟩,
     ⟨(some 7), none, .act, .alloc [(.int .u64 0), (.int .i64 0), (.int .i64 0), (.int .u64 0), (.int .u64 0), (.slice none 0 0), (.slice none 0 0), (.slice none 0 0)]⟩,
     ⟨none, none, .act, .store 8 (.tmp 7) (.tmp 14)⟩])
   (.seq (.seq (.region [
     ⟨(some 15), none, .act, .fieldAddr 2 (.tmp 7)⟩,
     ⟨(some 16), none, .act, .load false 1 (.tmp 15)⟩,
     ⟨(some 17), none, .act, .eq true .int (.tmp 16) (.const (.int .i64 1))⟩,
     ⟨(some 18), none, .act, .mv (.tmp 17)⟩,
     ⟨(some 19), (some (18, false)), .act, .fieldAddr 5 (.tmp 7)⟩,
     ⟨(some 20), (some (18, false)), .act, .load false 1 (.tmp 19)⟩,
     ⟨(some 21), (some (18, false)), .act, .mv (.tmp 1)⟩,
     ⟨(some 22), (some (18, false)), .act, .call 32 [(.tmp 20), (.tmp 21)]⟩,
     ⟨(some 23), (some (18, false)), .act, .un .not (.tmp 22)⟩,
     ⟨(some 24), none, .act, .pick (.tmp 18) (.const (.bool true)) (.tmp 23)⟩])
   (.cond (.tmp 24)
    (.exit 1)
    .skip))
   (.seq (.region [
     ⟨(some 25), none, .act, .mv (.tmp 5)⟩,
     ⟨(some 26), none, .act, .len (.tmp 25)⟩,
     ⟨(some 8), none, .act, .mv (.tmp 26)⟩])
   (.seq (.block 2
    (.loop r14l1))
   (.region [
     ⟨(some 64), none, .pure, .mv (.tmp 5)⟩,
     ⟨(some 65), none, .pure, .mv (.tmp 8)⟩,
     ⟨(some 66), none, .pure, .mv (.tmp 8)⟩,
     ⟨(some 67), none, .pure, .sliceSl 8 (.tmp 64) none (some (.tmp 65)) (some (.tmp 66))⟩,
     ⟨(some 68), none, .read, .load true 8 (.tmp 7)⟩,
     ⟨(some 69), none, .pure, .buildSl 8 [(.int .u64 0), (.int .i64 0), (.int .i64 0), (.int .u64 0), (.int .u64 0), (.slice none 0 0), (.slice none 0 0), (.slice none 0 0)] 1 [(0, (.tmp 68))]⟩,
     ⟨(some 70), none, .pure, .mv (.tmp 5)⟩,
     ⟨(some 71), none, .pure, .mv (.tmp 8)⟩,
     ⟨(some 72), none, .pure, .sliceSl 8 (.tmp 70) (some (.tmp 71)) none none⟩,
     ⟨(some 73), none, .act, .append 8 112 [(.int .u64 0), (.int .i64 0), (.int .i64 0), (.int .u64 0), (.int .u64 0), (.slice none 0 0), (.slice none 0 0), (.slice none 0 0)] (.tmp 69) (.tmp 72)⟩,
     ⟨(some 74), none, .act, .append 8 112 [(.int .u64 0), (.int .i64 0), (.int .i64 0), (.int .u64 0), (.int .u64 0), (.slice none 0 0), (.slice none 0 0), (.slice none 0 0)] (.tmp 67) (.tmp 73)⟩,
     ⟨(some 5), none, .pure, .mv (.tmp 74)⟩]))))))
  (.region [
    ⟨(some 75), none, .act, .bin .add (.tmp 11) (.const (.int .i64 1))⟩,
    ⟨(some 11), none, .act, .mv (.tmp 75)⟩]))))
def r14 : RCode :=
  (.seq (.region [
    ⟨(some 4), none, .act, .mv (.const (.slice none 0 0))⟩])
  (.seq (.region [
    ⟨(some 5), none, .act, .mv (.const (.slice none 0 0))⟩])
  (.seq (.seq (.region [
    ⟨(some 9), none, .act, .mv (.tmp 0)⟩,
    ⟨(some 10), none, .act, .len (.tmp 9)⟩,
    ⟨(some 11), none, .act, .mv (.const (.int .i64 0))⟩])
  (.block 0
   (.loop r14l0)))
  (.seq (.region [
    ⟨(some 76), none, .act, .mv (.tmp 5)⟩,
    ⟨(some 4), none, .act, .mv (.tmp 76)⟩])
  .ret))))
theorem res14 : ∃ c, Try.f14.body = some c ∧ resCode Try.prog 77 c = some r14 := ⟨_, rfl, by kernel_rfl⟩
theorem rr14 : resRes Try.prog Try.f14.results.toList = some [.tmp 4] := by kernel_rfl
theorem wr_in (rows : List Run) (key : List UInt8) (n i : Nat) (x : Run) (rb : Nat) (acc : List Run) (hacc : acc.length ≤ 1000) (hs : St.Sorted ltT acc) (h : AHeap) (hrb : h rb = some (.box (runC x))) (ks : List RT) (Q : AV → AHeap → Prop)
    (H : ∀ L1 L2, acc = L1 ++ L2 → St.ins ltT x acc = L1 ++ x :: L2 → RRun Try.prog Try.f14 77 ks (Env.get [(1, bys key), (5, runsA acc), (7, ptr rb), (8, i64 L1.length), (9, runsA rows), (10, i64 n), (11, i64 i)]) h Q) : ∀ (m : Nat) (L1 L2 : List Run), L1.length = m → acc = L1 ++ L2 → (∀ y, L2.head? = some y → ltT x y = true) →
    RRun Try.prog Try.f14 77 (.inLoop r14l1 :: .inBlock 2 :: ks) (Env.get [(1, bys key), (5, runsA acc), (7, ptr rb), (8, i64 m), (9, runsA rows), (10, i64 n), (11, i64 i)]) h Q := by
  intro m
  induction m with
  | zero =>
    intro L1 L2 hm he h2
    have h0 := List.eq_nil_of_length_eq_zero hm
    subst h0
    refine RRun.inLoop ?_
    repeat' (first | refine S.nilK ?_ | (refine S.op rfl ?_; first | refine R.mv rfl ?_ | refine R.pickF rfl rfl ?_ | ((first | refine S.gtr rfl rfl ?_ ?_) <;> intro hlt <;> try (exfalso; omega))) | refine S.skip rfl ?_ | refine S.seq ?_ | refine S.region ?_ | refine S.condF rfl ?_ | refine RRun.exit rfl ?_)
    exact S.keep [1, 5, 7, 8, 9, 10, 11] rfl (H [] L2 he (by rw [he]; exact St.ins_at (fun y hy => by cases hy) h2))
  | succ m ih =>
    intro L1 L2 hm he h2
    rcases List.eq_nil_or_concat L1 with h0 | ⟨L1, y, rfl⟩
    · rw [h0] at hm; simp at hm
    · rw [List.concat_eq_append] at *
      have hm' : L1.length = m := by simpa using hm
      have hY : (acc.map fun r => runC r)[(((m + 1 : Nat) : Int) - 1).toNat]? = some (runC y) := by
        rw [show (((m + 1 : Nat) : Int) - 1).toNat = L1.length by omega, List.getElem?_map, he]
        have e : L1 ++ [y] ++ L2 = L1 ++ y :: L2 := by simp
        rw [e, getMid]; rfl
      have hlen : (acc.map fun r => runC r).length = acc.length := by simp
      have hml : m + 1 ≤ acc.length := by rw [he]; simp; omega
      have i1 := fun hlt => ih L1 (y :: L2) hm' (by rw [he]; simp) (fun z hz => by cases hz; exact hlt)
      have i2 := fun hge : ltT x y = false => H (L1 ++ [y]) L2 he (by
        rw [he]
        refine St.ins_at (fun z hz => ?_) h2
        rcases List.mem_append.1 hz with hz | hz
        · rw [he] at hs
          have h3 := List.pairwise_append.1 (List.pairwise_append.1 hs).1
          exact ltT_sw.neg _ _ _ hge (h3.2.2 z hz y (List.mem_singleton.2 rfl))
        · rw [List.mem_singleton.1 hz]; exact hge)
      rw [hm] at i2
      refine RRun.inLoop ?_
      by_cases hlt : ltT x y = true
      · have hl2 := ltT_iff.1 hlt
        have i1 := i1 hlt
        clear i2 H ih
        repeat' (first | refine S.nilK ?_ | (refine S.op rfl ?_; first | refine R.indexAddr rfl rfl (by omega) hY ?_ | refine R.mv rfl ?_ | refine R.fieldAddr rfl ?_ | refine R.fieldAddrR rfl ?_ | refine R.loadR rfl rfl ?_ | refine R.load (by decide) rfl (by (repeat' (first | assumption)); first | done | fail) rfl ?_ | refine S.subI rfl rfl (by omega) ?_ | refine R.pickT rfl rfl ?_ | refine R.pickF rfl rfl ?_ | ((first | refine S.gtr rfl rfl ?_ ?_ | refine S.eqInt rfl rfl ?_ ?_) <;> intro hlt <;> try (exfalso; omega))) | refine S.skip rfl ?_ | refine S.seq ?_ | refine S.region ?_ | refine S.condT rfl ?_ | refine RRun.skip ?_ | refine RRun.block ?_ | refine RRun.inBlock ?_)
        all_goals first
          | (exfalso; omega)
          | skip
        all_goals
          rw [show (((m + 1 : Nat) : Int) - 1) = ((m : Nat) : Int) by omega]
          exact S.keep [1, 5, 7, 8, 9, 10, 11] rfl i1
      · have hl1 : ltT x y = false := by simpa using hlt
        have hl2 := ltT_no hl1
        have i2 := i2 hl1
        clear i1 H ih
        repeat' (first | refine S.nilK ?_ | (refine S.op rfl ?_; first | refine R.indexAddr rfl rfl (by omega) hY ?_ | refine R.mv rfl ?_ | refine R.fieldAddr rfl ?_ | refine R.fieldAddrR rfl ?_ | refine R.loadR rfl rfl ?_ | refine R.load (by decide) rfl (by (repeat' (first | assumption)); first | done | fail) rfl ?_ | refine S.subI rfl rfl (by omega) ?_ | refine R.pickT rfl rfl ?_ | refine R.pickF rfl rfl ?_ | ((first | refine S.gtr rfl rfl ?_ ?_ | refine S.eqInt rfl rfl ?_ ?_) <;> intro hlt <;> try (exfalso; omega))) | refine S.skip rfl ?_ | refine S.seq ?_ | refine S.region ?_ | refine S.condF rfl ?_ | refine RRun.exit rfl ?_)
        all_goals first
          | (exfalso; omega)
          | skip
        all_goals
          exact S.keep [1, 5, 7, 8, 9, 10, 11] rfl i2
theorem wr_out (l : List Run) (hl : l.length ≤ 1000) (hk : ∀ r ∈ l, r.keys.length ≤ 1000000) (key : List UInt8) (h : AHeap) (ks : List RT) (Q : AV → AHeap → Prop)
    (hkk : RRun Try.prog Try.f14 77 ks (Env.get [(5, runsA (wrote l key))]) h Q) : ∀ (m i : Nat), i + m = l.length →
    RRun Try.prog Try.f14 77 (.inLoop r14l0 :: .inBlock 0 :: ks) (Env.get [(1, bys key), (5, runsA (wrote (l.take i) key)), (9, runsA l), (10, i64 l.length), (11, i64 i)]) h Q := by
  intro m
  induction m with
  | zero =>
    intro i hi
    rw [List.take_of_length_le (by omega)]
    refine RRun.inLoop ?_
    repeat' (first | refine S.nilK ?_ | (refine S.op rfl ?_; first | ((first | refine S.lss rfl rfl ?_ ?_) <;> intro hlt <;> try (exfalso; omega))) | refine S.seq ?_ | refine S.region ?_ | refine S.condF rfl ?_ | refine RRun.exit rfl ?_)
    exact S.keep [5] rfl hkk
  | succ m ih =>
    intro i hi
    have hie : i < l.length := by omega
    have h1 : (l.map fun r => runC r)[((i : Nat) : Int).toNat]? = some (runC l[i]) := by simp [hie]
    have ht : l.take (i + 1) = l.take i ++ [l[i]] := by rw [List.take_add_one, List.getElem?_eq_getElem hie]; rfl
    have hih := ih (i + 1) (by omega)
    rw [ht] at hih
    have hkl := hk _ (List.getElem_mem hie)
    have hwd : ∀ z : Run, wrote (l.take i ++ [z]) key = if writes z key = true then St.ins ltT z (wrote (l.take i) key) else wrote (l.take i) key := fun z => by
      unfold wrote
      rw [List.filter_append, List.filter_cons, List.filter_nil]
      split
      · rw [St.isort_snoc]
      · rw [List.append_nil]
    rw [hwd] at hih
    have hs : St.Sorted ltT (wrote (l.take i) key) := St.isort_sorted ltT_sw _
    have hal := wrote_len (l.take i) key
    rw [List.length_take] at hal
    generalize l[i] = x at h1 hih hkl
    generalize wrote (l.take i) key = acc at hih hs hal ⊢
    have hlen : (acc.map fun r => runC r).length = acc.length := by simp
    have c32 := has_spec x.keys hkl key
    have hwr : writes x key = (decide (x.state = 1) && decide (key ∈ x.keys)) := rfl
    rw [hwr] at hih
    generalize decide (key ∈ x.keys) = w at c32 hih
    refine RRun.inLoop ?_
    by_cases hst : x.state = 1
    · cases w with
      | false =>
        rw [Bool.and_false, if_neg (by decide)] at hih
        repeat' (first | refine S.nilK ?_ | (refine S.op rfl ?_; first | refine R.indexAddr rfl rfl (by omega) h1 ?_ | refine R.callQ (by decide) rfl (c32 _) ?_ | refine R.mv rfl ?_ | refine R.fieldAddr rfl ?_ | refine R.loadR rfl rfl ?_ | refine R.load (by decide) rfl (by (repeat' (first | exact AHeap.set_same _ _ _)); first | done | fail) rfl ?_ | refine S.addI rfl rfl (by omega) ?_ | refine R.pickF rfl rfl ?_ | refine R.not rfl ?_ | refine R.alloc rfl (fun b hb => ?_) | ((first | refine S.lss rfl rfl ?_ ?_ | refine S.eqInt rfl rfl ?_ ?_) <;> intro hlt <;> try (exfalso; omega))) | (refine S.op0 rfl ?_; first | refine S.storeS rfl rfl rfl (by rfl) rfl (by first | decide | exact Nat.le_refl _ | exact Nat.le_of_ble_eq_true rfl) ?_) | refine S.seq ?_ | refine S.region ?_ | refine S.condT rfl ?_ | refine RRun.skip ?_ | refine RRun.block ?_ | refine RRun.exit rfl ?_)
        all_goals first
          | (exfalso; omega)
          | skip
        rw [show ((i : Int) + 1) = ((i + 1 : Nat) : Int) by omega]
        exact S.keep [1, 5, 9, 10, 11] rfl (S.drop (by repeat (first | exact AHeap.le.refl _ | refine AHeap.le.set ?_ _ (by (repeat' (first | assumption)); first | done | fail))) hih)
      | true =>
        rw [decide_eq_true hst, Bool.and_self, if_pos rfl] at hih
        repeat' (first | ((show RRunG _ _ _ (.code (.loop r14l1) :: _) _ _ _; refine Halt.h ?_)) | refine S.nilK ?_ | (refine S.op rfl ?_; first | refine R.indexAddr rfl rfl (by omega) h1 ?_ | refine R.callQ (by decide) rfl (c32 _) ?_ | refine R.mv rfl ?_ | refine R.fieldAddr rfl ?_ | refine R.loadR rfl rfl ?_ | refine R.load (by decide) rfl (by (repeat' (first | exact AHeap.set_same _ _ _)); first | done | fail) rfl ?_ | refine R.pickF rfl rfl ?_ | refine R.len rfl ?_ | refine R.not rfl ?_ | refine R.alloc rfl (fun b hb => ?_) | ((first | refine S.lss rfl rfl ?_ ?_ | refine S.eqInt rfl rfl ?_ ?_) <;> intro hlt <;> try (exfalso; omega))) | (refine S.op0 rfl ?_; first | refine S.storeS rfl rfl rfl (by rfl) rfl (by first | decide | exact Nat.le_refl _ | exact Nat.le_of_ble_eq_true rfl) ?_) | refine S.seq ?_ | refine S.region ?_ | refine S.condT rfl ?_ | refine S.condF rfl ?_ | refine RRun.skip ?_ | refine RRun.block ?_)
        all_goals first
          | (exfalso; omega)
          | skip
        refine ⟨?_⟩
        revert b hb
        intro rb hrb
        rw [hlen]
        refine RRun.loopIn (S.keep [1, 5, 7, 8, 9, 10, 11] rfl (wr_in l key l.length i x rb acc (by omega) hs (h.set rb (.box (runC x))) (AHeap.set_same _ _ _) _ _ (fun L1 L2 he hins => ?_) acc.length acc [] rfl (by simp) (fun y hy => by cases hy)))
        have hL : L1.length ≤ acc.length := by rw [he]; simp
        have et : (acc.map fun r => runC r).take ((L1.length : Int)).toNat = L1.map fun r => runC r := by rw [he]; simp
        have ed : (acc.map fun r => runC r).drop ((L1.length : Int)).toNat = L2.map fun r => runC r := by rw [he]; simp
        have hal2 : L1.length + L2.length = acc.length := by rw [he]; simp
        have h1L : (L1.map fun r => runC r).length = L1.length := by simp
        have h2L : (L2.map fun r => runC r).length = L2.length := by simp
        have hone2 : ∀ e ∈ (L2.map fun r => runC r), ∀ a ∈ e, a.one = true := by
          intro e he a ha
          obtain ⟨r, _, rfl⟩ := List.mem_map.1 he
          exact List.all_eq_true.1 (runC_one r) a ha
        have hone3 : ∀ e ∈ ([runC x] ++ L2.map fun r => runC r), ∀ a ∈ e, a.one = true := by
          intro e he a ha
          rcases List.mem_append.1 he with he | he
          · exact run_one x e he a ha
          · exact hone2 e he a ha
        have efin : (L1.map fun r => runC r) ++ ([runC x] ++ L2.map fun r => runC r) = (St.ins ltT x acc).map fun r => runC r := by rw [hins]; simp
        repeat' (first | ((show RChain _ (⟨(some 73), _, _, _⟩ :: _) _ _ _; refine Halt.h ?_)) | (refine S.op rfl ?_; first | refine S.sliceHM rfl rfl rfl (by omega) (by rw [hlen]; omega) (by decide) ?_ | refine S.sliceL rfl rfl (by omega) (by rw [hlen]; omega) (by decide) ?_ | refine R.mv rfl ?_ | refine R.load (by decide) rfl (by (repeat' (first | exact AHeap.set_same _ _ _)); first | done | fail) rfl ?_ | refine R.buildSl rfl rfl rfl (by decide) ?_) | refine S.region ?_)
        refine ⟨?_⟩
        rw [et, ed]
        refine S.op rfl (R.appendV rfl (.sl [runC x] _) rfl (.sl _ _) hone2 (by rw [h2L]; simp; omega) (by rw [h2L]; simp; omega) ?_)
        refine S.op rfl (R.appendV rfl (.sl _ _) rfl (.sl _ _) hone3 (by rw [h1L, List.length_append, h2L]; simp; omega) (by rw [h1L, List.length_append, h2L]; simp; omega) ?_)
        rw [efin]
        repeat' (first | refine S.nilK ?_ | (refine S.op rfl ?_; first | refine R.mv rfl ?_ | refine S.addI rfl rfl (by omega) ?_) | refine S.region ?_ | refine RRun.inBlock ?_)
        rw [show ((i : Int) + 1) = ((i + 1 : Nat) : Int) by omega]
        exact S.keep [1, 5, 9, 10, 11] rfl (S.drop (by repeat (first | exact AHeap.le.refl _ | refine AHeap.le.set ?_ _ (by (repeat' (first | assumption)); first | done | fail))) hih)
    · rw [decide_eq_false hst, Bool.false_and, if_neg (by decide)] at hih
      repeat' (first | refine S.nilK ?_ | (refine S.op rfl ?_; first | refine R.indexAddr rfl rfl (by omega) h1 ?_ | refine R.mv rfl ?_ | refine R.fieldAddr rfl ?_ | refine R.loadR rfl rfl ?_ | refine R.load (by decide) rfl (by (repeat' (first | exact AHeap.set_same _ _ _)); first | done | fail) rfl ?_ | refine S.addI rfl rfl (by omega) ?_ | refine R.pickT rfl rfl ?_ | refine R.alloc rfl (fun b hb => ?_) | ((first | refine S.lss rfl rfl ?_ ?_ | refine S.eqInt rfl rfl ?_ ?_) <;> intro hlt <;> try (exfalso; omega))) | (refine S.op0 rfl ?_; first | refine S.storeS rfl rfl rfl (by rfl) rfl (by first | decide | exact Nat.le_refl _ | exact Nat.le_of_ble_eq_true rfl) ?_) | refine S.skip rfl ?_ | refine S.seq ?_ | refine S.region ?_ | refine S.condT rfl ?_ | refine RRun.skip ?_ | refine RRun.block ?_ | refine RRun.exit rfl ?_)
      all_goals first
        | (exfalso; omega)
        | skip
      rw [show ((i : Int) + 1) = ((i + 1 : Nat) : Int) by omega]
      exact S.keep [1, 5, 9, 10, 11] rfl (S.drop (by repeat (first | exact AHeap.le.refl _ | refine AHeap.le.set ?_ _ (by (repeat' (first | assumption)); first | done | fail))) hih)
theorem rwrote_spec {l : List Run} (F : Few l) (key : List UInt8) (h : AHeap) : ACalls Try.prog 14 [runsA l, bys key] h (fun x h' => x = runsA (wrote l key) ∧ h' = h) := by
  have h7 := F.len
  obtain ⟨c', hc1, hc2⟩ := res14
  refine ACalls.weak (ACalls.enter Try.func14 hc1 Try.ntmps14 hc2 (Nat.le_of_ble_eq_true rfl) rfl ?_)
  have hlen : (l.map fun r => runC r).length = l.length := by simp
  repeat' (first | refine S.nilK ?_ | (refine S.op rfl ?_; first | refine R.mv rfl ?_ | refine R.len rfl ?_) | refine S.seq ?_ | refine S.region ?_ | refine RRun.block ?_)
  rw [hlen]
  refine RRun.loopIn (S.keep [1, 5, 9, 10, 11] rfl (RRun.envs (.cons 1 (.refl _) (.cons 5 (.nilSl 8 (c := .ro) trivial) (.cons 9 (.refl _) (.cons 10 (.refl _) (.cons 11 (.refl _) .nil))))) (wr_out l (by omega) (fun r hr => Nat.le_trans (F.keys r hr) (by decide)) key h _ _ ?_ l.length 0 (by omega))))
  repeat' (first | refine S.nilK ?_ | (refine S.op rfl ?_; first | refine R.mv rfl ?_) | refine S.seq ?_ | refine S.region ?_)
  apply S.ret rr14
  case hx => repeat (first | exact ResAt.nil | apply ResAt.tmp rfl)
  exact ⟨_, h, .refl _, (by repeat (first | exact AHeap.le.refl _)), rfl, rfl⟩
end Go.Proofs.Ythfolomknkobkaa

namespace Go.Av
theorem Ade.bytesLess_lex : ∀ (x y : List UInt8), Op.bytesLess x y = decide (x < y)
  | [], [] => by simp [Op.bytesLess]
  | _ :: _, [] => by simp [Op.bytesLess]
  | [], _ :: _ => by simp [Op.bytesLess]
  | a :: x, b :: y => by
    have ih := Ade.bytesLess_lex x y
    simp only [Op.bytesLess, List.cons_lt_cons_iff, ih]
    by_cases h1 : a < b <;> by_cases h2 : a = b <;> simp [h1, h2]
theorem S.strLtD {P : Program} {c : Cls} {E : AEnv} {h : AHeap} {K : AV → AHeap → Prop} {x y : Operand} {a b : List UInt8} (hx : aev E x = some (str a)) (hy : aev E y = some (str b)) (hk : K (bl (decide (a < b))) h) : ROpS P c (.bin .lss x y) E h K :=
  R.binStr hx hy rfl (by
    rw [mk_toList, mk_toList, Ade.bytesLess_lex]; exact hk)
end Go.Av
namespace Go.Proofs.Ythfolomknkobkaa
open Go.Av
open Go.Ad (Seen Span Run Dep commit keysOf)
def insS (k : List UInt8) : List (List UInt8) → List (List UInt8)
  | [] => [k]
  | y :: ys => if y < k then y :: insS k ys else k :: y :: ys
def addS (ks : List (List UInt8)) (k : List UInt8) : List (List UInt8) := if k ∈ ks then ks else insS k ks
theorem insS_at {k : List UInt8} : ∀ (L1 L2 : List (List UInt8)), (∀ y ∈ L1, y < k) → (∀ y, L2.head? = some y → ¬ y < k) → insS k (L1 ++ L2) = L1 ++ k :: L2
  | [], [], _, _ => rfl
  | [], y :: L2, _, h2 => by
    show insS k (y :: L2) = _
    rw [insS, if_neg (h2 y rfl)]; rfl
  | x :: L1, L2, h1, h2 => by
    show insS k (x :: (L1 ++ L2)) = _
    rw [insS, if_pos (h1 x List.mem_cons_self), insS_at L1 L2 (fun y hy => h1 y (List.mem_cons_of_mem _ hy)) h2]; rfl
theorem insS_perm {k : List UInt8} : ∀ l : List (List UInt8), (insS k l).Perm (k :: l)
  | [] => .refl _
  | y :: l => by
    rw [insS]
    split
    · exact ((insS_perm l).cons y).trans (.swap _ _ _)
    · exact .refl _
theorem insS_sorted {k : List UInt8} : ∀ l : List (List UInt8), l.Pairwise (· ≤ ·) → (insS k l).Pairwise (· ≤ ·)
  | [], _ => by simp [insS]
  | y :: l, h => by
    have h2 := List.pairwise_cons.1 h
    rw [insS]
    split
    · rename_i hlt
      refine List.pairwise_cons.2 ⟨fun z hz => ?_, insS_sorted l h2.2⟩
      rcases List.mem_cons.1 ((insS_perm l).mem_iff.1 hz) with rfl | hz
      · exact List.le_of_lt hlt
      · exact h2.1 z hz
    · rename_i hlt
      have hky : k ≤ y := List.not_lt.1 hlt
      refine List.pairwise_cons.2 ⟨fun z hz => ?_, h⟩
      rcases List.mem_cons.1 hz with rfl | hz
      · exact hky
      · exact List.le_trans hky (h2.1 z hz)
theorem addS_len (ks : List (List UInt8)) (k : List UInt8) : (addS ks k).length ≤ ks.length + 1 := by
  unfold addS
  split
  · omega
  · rw [(insS_perm ks).length_eq]; simp
theorem addSs_len : ∀ (kl ks : List (List UInt8)), (kl.foldl addS ks).length ≤ ks.length + kl.length
  | [], ks => by simp
  | k :: kl, ks => by
    rw [List.foldl_cons]
    have h1 := addSs_len kl (addS ks k)
    have h2 := addS_len ks k
    simp only [List.length_cons]; omega
def keysR (l : List Run) : List (List UInt8) := (keysOf l).foldl addS []
theorem addSs_sorted : ∀ (kl ks : List (List UInt8)), ks.Pairwise (· ≤ ·) → (kl.foldl addS ks).Pairwise (· ≤ ·)
  | [], ks, h => h
  | k :: kl, ks, h => by
    rw [List.foldl_cons]
    refine addSs_sorted kl _ ?_
    unfold addS
    split
    · exact h
    · exact insS_sorted ks h
theorem addSs_nodup : ∀ (kl ks : List (List UInt8)), ks.Nodup → (kl.foldl addS ks).Nodup
  | [], ks, h => h
  | k :: kl, ks, h => by
    rw [List.foldl_cons]
    refine addSs_nodup kl _ ?_
    unfold addS
    split
    · exact h
    · rename_i hn
      exact (insS_perm ks).nodup_iff.2 (List.nodup_cons.2 ⟨hn, h⟩)
theorem addSs_mem : ∀ (kl ks : List (List UInt8)) (k : List UInt8), k ∈ kl.foldl addS ks ↔ k ∈ ks ∨ k ∈ kl
  | [], ks, k => by simp
  | x :: kl, ks, k => by
    rw [List.foldl_cons, addSs_mem kl]
    have : k ∈ addS ks x ↔ k ∈ ks ∨ k = x := by
      unfold addS
      split
      · rename_i hx
        constructor
        · exact .inl
        · rintro (h | rfl)
          · exact h
          · exact hx
      · rw [(insS_perm ks).mem_iff, List.mem_cons]; exact Or.comm
    rw [this, List.mem_cons, or_assoc]
theorem addKs_nodup : ∀ (kl ks : List (List UInt8)), ks.Nodup → (kl.foldl addK ks).Nodup
  | [], ks, h => h
  | k :: kl, ks, h => by
    rw [List.foldl_cons]
    refine addKs_nodup kl _ ?_
    unfold addK
    split
    · exact h
    · rename_i hn
      exact List.nodup_append.2 ⟨h, by simp, fun a ha b hb e => by rw [List.mem_singleton.1 hb] at e; exact hn (e ▸ ha)⟩
theorem keysR_eq (l : List Run) : keysR l = keysS l := by
  have hp : (keysR l).Perm (keysD l) := (List.perm_ext_iff_of_nodup (addSs_nodup _ _ .nil) (addKs_nodup _ _ .nil)).2 fun k => by
    show k ∈ (keysOf l).foldl addS [] ↔ k ∈ (keysOf l).foldl addK []
    rw [addSs_mem, addKs_mem]
  have tr : ∀ a b c : List UInt8, leB a b = true → leB b c = true → leB a c = true := fun a b c h1 h2 => by simp only [leB, decide_eq_true_eq] at *; exact List.le_trans h1 h2
  have to : ∀ a b : List UInt8, (leB a b || leB b a) = true := fun a b => by simp only [leB, Bool.or_eq_true, decide_eq_true_eq]; exact List.le_total a b
  refine List.Perm.eq_of_pairwise (le := fun a b => leB a b = true) (fun a b _ _ h1 h2 => ?_) ((addSs_sorted _ _ .nil).imp fun h => decide_eq_true h) (List.pairwise_mergeSort tr to _) (hp.trans (List.mergeSort_perm _ leB).symm)
  simp only [leB, decide_eq_true_eq] at h1 h2
  exact List.le_antisymm h1 h2
end Go.Proofs.Ythfolomknkobkaa

namespace Go.Proofs.Ythfolomknkobkaa
open Go.Av
open Go.Ad (Seen Span Run Dep commit keysOf)
abbrev e13 (acc : List (List UInt8)) (rb : Nat) (A B C D E F : AV) : List (Nat × AV) := [(3, keysA acc), (5, ptr rb), (9, A), (10, B), (11, C), (16, D), (17, E), (18, F)]
def r13l2 : RCode :=
  (.seq (.seq (.region [
    ⟨(some 30), none, .pure, .mv (.tmp 8)⟩,
    ⟨(some 31), none, .pure, .mv (.tmp 3)⟩,
    ⟨(some 32), none, .pure, .len (.tmp 31)⟩,
    ⟨(some 33), none, .pure, .bin .lss (.tmp 30) (.tmp 32)⟩,
    ⟨(some 34), none, .pure, .mv (.tmp 33)⟩,
    ⟨(some 35), (some (34, true)), .pure, .mv (.tmp 3)⟩,
    ⟨(some 36), (some (34, true)), .pure, .mv (.tmp 8)⟩,
    ⟨(some 37), (some (34, true)), .pure, .indexAddr 1 (.tmp 35) (.tmp 36)⟩,
    ⟨(some 38), (some (34, true)), .read, .load false 1 (.tmp 37)⟩,
    ⟨(some 39), (some (34, true)), .pure, .toStr (.tmp 38)⟩,
    ⟨(some 40), (some (34, true)), .pure, .mv (.tmp 7)⟩,
    ⟨(some 41), (some (34, true)), .pure, .toStr (.tmp 40)⟩,
    ⟨(some 42), (some (34, true)), .pure, .bin .lss (.tmp 39) (.tmp 41)⟩,
    ⟨(some 43), none, .pure, .pick (.tmp 34) (.tmp 42) (.const (.bool false))⟩])
  (.cond (.tmp 43)
   .skip
   (.exit 4)))
  (.block 5
   (.region [
     ⟨(some 44), none, .act, .mv (.tmp 8)⟩,
     ⟨(some 45), none, .act, .bin .add (.tmp 44) (.const (.int .i64 1))⟩,
     ⟨(some 8), none, .act, .mv (.tmp 45)⟩])))
def r13l1 : RCode :=
  (.seq (.region [
    ⟨(some 19), none, .act, .bin .lss (.tmp 18) (.tmp 17)⟩])
  (.seq (.cond (.tmp 19)
   .skip
   (.exit 2))
  (.seq (.block 3
   (.seq (.region [
     ⟨(some 20), none, .act, .indexAddr 1 (.tmp 16) (.tmp 18)⟩,
     ⟨(some 21), none, .act, .load false 1 (.tmp 20)⟩,
     ⟨(some 7), none, .act, .mv (.tmp 21)⟩])
   (.seq (.seq (.region [
     ⟨(some 22), none, .act, .fieldAddr 2 (.tmp 5)⟩,
     ⟨(some 23), none, .act, .load false 1 (.tmp 22)⟩,
     ⟨(some 24), none, .act, .eq true .int (.tmp 23) (.const (.int .i64 1))⟩,
     ⟨(some 25), none, .act, .mv (.tmp 24)⟩,
     ⟨(some 26), (some (25, false)), .act, .mv (.tmp 3)⟩,
     ⟨(some 27), (some (25, false)), .act, .mv (.tmp 7)⟩,
     ⟨(some 28), (some (25, false)), .act, .call 32 [(.tmp 26), (.tmp 27)]⟩,
     ⟨(some 29), none, .act, .pick (.tmp 25) (.const (.bool true)) (.tmp 28)⟩])
   (.cond (.tmp 29)
    (.exit 3)
    .skip))
   (.seq (.region [
     ⟨(some 8), none, .act, .mv (.const (.int .i64 0))⟩])
   (.seq (.block 4
    (.loop r13l2))
   (.region [
     ⟨(some 46), none, .pure, .mv (.tmp 3)⟩,
     ⟨(some 47), none, .pure, .mv (.tmp 8)⟩,
     ⟨(some 48), none, .pure, .mv (.tmp 8)⟩,
     ⟨(some 49), none, .pure, .sliceSl 1 (.tmp 46) none (some (.tmp 47)) (some (.tmp 48))⟩,
     ⟨(some 50), none, .pure, .mv (.tmp 7)⟩,
     ⟨(some 51), none, .pure, .buildSl 1 [(.slice none 0 0)] 1 [(0, (.tmp 50))]⟩,
     ⟨(some 52), none, .pure, .mv (.tmp 3)⟩,
     ⟨(some 53), none, .pure, .mv (.tmp 8)⟩,
     ⟨(some 54), none, .pure, .sliceSl 1 (.tmp 52) (some (.tmp 53)) none none⟩,
     ⟨(some 55), none, .act, .append 1 24 [(.slice none 0 0)] (.tmp 51) (.tmp 54)⟩,
     ⟨(some 56), none, .act, .append 1 24 [(.slice none 0 0)] (.tmp 49) (.tmp 55)⟩,
     ⟨(some 3), none, .pure, .mv (.tmp 56)⟩]))))))
  (.region [
    ⟨(some 57), none, .act, .bin .add (.tmp 18) (.const (.int .i64 1))⟩,
    ⟨(some 18), none, .act, .mv (.tmp 57)⟩]))))
def r13l0 : RCode :=
  (.seq (.region [
    ⟨(some 12), none, .act, .bin .lss (.tmp 11) (.tmp 10)⟩])
  (.seq (.cond (.tmp 12)
   .skip
   (.exit 0))
  (.seq (.block 1
   (.seq (.region [
     ⟨(some 13), none, .act, .indexAddr 8 (.tmp 9) (.tmp 11)⟩,
     ⟨(some 14), none, .act, .load true 8 (.tmp 13)⟩,
     ⟨(some 5), none, .act, .alloc [(.int .u64 0), (.int .i64 0), (.int .i64 0), (.int .u64 0), (.int .u64 0), (.slice none 0 0), (.slice none 0 0), (.slice none 0 0)]⟩,
     ⟨none, none, .act, .store 8 (.tmp 5) (.tmp 14)⟩])
   (.seq (.region [
     ⟨(some 15), none, .act, .fieldAddr 5 (.tmp 5)⟩,
     ⟨(some 16), none, .act, .load false 1 (.tmp 15)⟩,
     ⟨(some 17), none, .act, .len (.tmp 16)⟩,
     ⟨(some 18), none, .act, .mv (.const (.int .i64 0))⟩])
   (.block 2
    (.loop r13l1)))))
  (.region [
    ⟨(some 58), none, .act, .bin .add (.tmp 11) (.const (.int .i64 1))⟩,
    ⟨(some 11), none, .act, .mv (.tmp 58)⟩]))))
def r13 : RCode :=
  (.seq (.region [
    ⟨(some 2), none, .act, .mv (.const (.slice none 0 0))⟩])
  (.seq (.region [
    ⟨(some 3), none, .act, .mv (.const (.slice none 0 0))⟩])
  (.seq (.seq (.region [
    ⟨(some 9), none, .act, .mv (.tmp 0)⟩,
    ⟨(some 10), none, .act, .len (.tmp 9)⟩,
    ⟨(some 11), none, .act, .mv (.const (.int .i64 0))⟩])
  (.block 0
   (.loop r13l0)))
  (.seq (.region [
    ⟨(some 59), none, .act, .mv (.tmp 3)⟩,
    ⟨(some 2), none, .act, .mv (.tmp 59)⟩])
  .ret))))
theorem res13 : ∃ c, Try.f13.body = some c ∧ resCode Try.prog 60 c = some r13 := ⟨_, rfl, by kernel_rfl⟩
theorem rr13 : resRes Try.prog Try.f13.results.toList = some [.tmp 2] := by kernel_rfl
theorem k13_find (acc : List (List UInt8)) (hacc : acc.length ≤ 1000000) (key : List UInt8) (rb : Nat) (A B C D E F : AV) (h : AHeap) (k : List RT) (Q : AV → AHeap → Prop)
    (H : ∀ L1 L2, acc = L1 ++ L2 → insS key acc = L1 ++ key :: L2 → RRun Try.prog Try.f13 60 k (Env.get [(3, keysA acc), (5, ptr rb), (7, bys key), (8, i64 L1.length), (9, A), (10, B), (11, C), (16, D), (17, E), (18, F)]) h Q) : ∀ (m : Nat) (L1 L2 : List (List UInt8)), acc = L1 ++ L2 → L2.length = m → (∀ y ∈ L1, y < key) →
    RRun Try.prog Try.f13 60 (.inLoop r13l2 :: .inBlock 4 :: k) (Env.get [(3, keysA acc), (5, ptr rb), (7, bys key), (8, i64 L1.length), (9, A), (10, B), (11, C), (16, D), (17, E), (18, F)]) h Q := by
  have hlen : (acc.map fun k => [bys k]).length = acc.length := by simp
  intro m
  induction m with
  | zero =>
    intro L1 L2 he hm h1
    have h0 := List.eq_nil_of_length_eq_zero hm
    subst h0
    have hl : L1.length = acc.length := by rw [he]; simp
    refine RRun.inLoop ?_
    repeat' (first | refine S.nilK ?_ | (refine S.op rfl ?_; first | refine R.mv rfl ?_ | refine R.pickF rfl rfl ?_ | refine R.len rfl ?_ | ((first | refine S.lss rfl rfl ?_ ?_) <;> intro hlt <;> try (exfalso; omega))) | refine S.skip rfl ?_ | refine S.seq ?_ | refine S.region ?_ | refine S.condF rfl ?_ | refine RRun.exit rfl ?_)
    all_goals first
      | (exfalso; omega)
      | skip
    exact S.keep [3, 5, 7, 8, 9, 10, 11, 16, 17, 18] rfl (H L1 [] he (by rw [he]; exact insS_at _ _ h1 (fun y hy => by cases hy)))
  | succ m ih =>
    intro L1 L2 he hm h1
    match L2, hm, he with
    | y :: L2, hm, he =>
      have hm' : L2.length = m := by simpa using hm
      have hY : (acc.map fun k => [bys k])[((L1.length : Nat) : Int).toNat]? = some [bys y] := by
        rw [Int.toNat_natCast, List.getElem?_map, he, getMid]; rfl
      have hl : L1.length < acc.length := by rw [he]; simp
      have i1 := fun hlt : y < key => ih (L1 ++ [y]) L2 (by rw [he]; simp) hm' (fun z hz => by
        rcases List.mem_append.1 hz with hz | hz
        · exact h1 z hz
        · rw [List.mem_singleton.1 hz]; exact hlt)
      have i2 := fun hge : ¬ y < key => H L1 (y :: L2) he (by rw [he]; exact insS_at _ _ h1 (fun z hz => by cases hz; exact hge))
      clear H ih
      refine RRun.inLoop ?_
      by_cases hlt : y < key
      · have hd := decide_eq_true hlt
        have i1 := i1 hlt
        clear i2
        repeat' (first | refine S.nilK ?_ | (refine S.op rfl ?_; first | refine R.indexAddr rfl rfl (by omega) hY ?_ | refine R.toStr (l := y) rfl ?_ | refine R.toStr (l := key) rfl ?_ | (refine S.strLtD (a := y) (b := key) rfl rfl ?_; rw [hd]) | refine R.mv rfl ?_ | refine R.loadR rfl rfl ?_ | refine S.addI rfl rfl (by omega) ?_ | refine R.pickT rfl rfl ?_ | refine R.len rfl ?_ | ((first | refine S.lss rfl rfl ?_ ?_) <;> intro hlt <;> try (exfalso; omega))) | refine S.seq ?_ | refine S.region ?_ | refine S.condT rfl ?_ | refine RRun.skip ?_ | refine RRun.block ?_ | refine RRun.inBlock ?_)
        all_goals first
          | (exfalso; omega)
          | skip
        rw [show ((L1.length : Int) + 1) = (((L1 ++ [y]).length : Nat) : Int) by simp]
        exact S.keep [3, 5, 7, 8, 9, 10, 11, 16, 17, 18] rfl i1
      · have hd := decide_eq_false hlt
        have i2 := i2 hlt
        clear i1
        repeat' (first | refine S.nilK ?_ | (refine S.op rfl ?_; first | refine R.indexAddr rfl rfl (by omega) hY ?_ | refine R.toStr (l := y) rfl ?_ | refine R.toStr (l := key) rfl ?_ | (refine S.strLtD (a := y) (b := key) rfl rfl ?_; rw [hd]) | refine R.mv rfl ?_ | refine R.loadR rfl rfl ?_ | refine R.pickT rfl rfl ?_ | refine R.len rfl ?_ | ((first | refine S.lss rfl rfl ?_ ?_) <;> intro hlt <;> try (exfalso; omega))) | refine S.seq ?_ | refine S.region ?_ | refine S.condF rfl ?_ | refine RRun.exit rfl ?_)
        all_goals first
          | (exfalso; omega)
          | skip
        exact S.keep [3, 5, 7, 8, 9, 10, 11, 16, 17, 18] rfl i2
def addKs (s : Bool) (ks kl : List (List UInt8)) : List (List UInt8) := if s = true then kl.foldl addS ks else ks
theorem key_one : ∀ (L : List (List UInt8)), ∀ e ∈ (L.map fun k => [bys k]), ∀ a ∈ e, a.one = true := by
  intro L e he a ha
  obtain ⟨r, _, rfl⟩ := List.mem_map.1 he
  rw [List.mem_singleton] at ha
  subst ha; rfl
theorem k13_in (r : Run) (rb : Nat) (kl : List (List UInt8)) (hkl : kl.length ≤ 1000) (A B C : AV) (h : AHeap) (hrb : h rb = some (.box (runC r))) (outN : List (List UInt8)) (k : List RT) (Q : AV → AHeap → Prop)
    (H : RRun Try.prog Try.f13 60 k (Env.get [(3, keysA outN), (9, A), (10, B), (11, C)]) h Q) : ∀ (m j : Nat) (acc : List (List UInt8)), j + m = kl.length → acc.length + m ≤ 1000000 → addKs (commit r) acc (kl.drop j) = outN →
    RRun Try.prog Try.f13 60 (.inLoop r13l1 :: .inBlock 2 :: k) (Env.get (e13 acc rb A B C (keysA kl) (i64 kl.length) (i64 j))) h Q := by
  intro m
  induction m with
  | zero =>
    intro j acc hj hN hf
    rw [List.drop_of_length_le (by omega)] at hf
    have hf2 : acc = outN := by
      unfold addKs at hf
      split at hf
      · exact hf
      · exact hf
    subst hf2
    refine RRun.inLoop ?_
    repeat' (first | refine S.nilK ?_ | (refine S.op rfl ?_; first | ((first | refine S.lss rfl rfl ?_ ?_) <;> intro hlt <;> try (exfalso; omega))) | refine S.seq ?_ | refine S.region ?_ | refine S.condF rfl ?_ | refine RRun.exit rfl ?_)
    exact S.keep [3, 9, 10, 11] rfl H
  | succ m ih =>
    intro j acc hj hN hf
    have hje : j < kl.length := by omega
    have h1 : (kl.map fun k => [bys k])[((j : Nat) : Int).toNat]? = some [bys kl[j]] := by simp [hje]
    rw [List.drop_eq_getElem_cons hje] at hf
    generalize kl[j] = key at h1 hf
    have hcm : commit r = decide (r.state = 1) := rfl
    have c32 := has_spec acc (by omega) key
    have hal := addS_len acc key
    have hlen : (acc.map fun k => [bys k]).length = acc.length := by simp
    have ihn := ih (j + 1)
    clear ih H
    refine RRun.inLoop ?_
    by_cases hs : r.state = 1
    · rw [decide_eq_true hs] at hcm
      have hf2 : addKs (commit r) (addS acc key) (kl.drop (j + 1)) = outN := by
        rw [← hf, hcm]; rfl
      by_cases hin : key ∈ acc
      · rw [decide_eq_true hin] at c32
        have e2 : addS acc key = acc := by unfold addS; rw [if_pos hin]
        rw [e2] at hf2
        have i1 := ihn acc (by omega) (by omega) hf2
        clear ihn
        repeat' (first | refine S.nilK ?_ | (refine S.op rfl ?_; first | refine R.indexAddr rfl rfl (by omega) h1 ?_ | refine R.callQ (by decide) rfl (c32 _) ?_ | refine R.mv rfl ?_ | refine R.fieldAddr rfl ?_ | refine R.loadR rfl rfl ?_ | refine R.load (by decide) rfl (by (repeat' (first | assumption)); first | done | fail) rfl ?_ | refine S.addI rfl rfl (by omega) ?_ | refine R.pickF rfl rfl ?_ | ((first | refine S.lss rfl rfl ?_ ?_ | refine S.eqInt rfl rfl ?_ ?_) <;> intro hlt <;> try (exfalso; omega))) | refine S.seq ?_ | refine S.region ?_ | refine S.condT rfl ?_ | refine RRun.skip ?_ | refine RRun.block ?_ | refine RRun.exit rfl ?_)
        all_goals first
          | (exfalso; omega)
          | skip
        rw [show ((j : Int) + 1) = ((j + 1 : Nat) : Int) by omega]
        exact S.keep [3, 5, 9, 10, 11, 16, 17, 18] rfl i1
      · rw [decide_eq_false hin] at c32
        have e2 : addS acc key = insS key acc := by unfold addS; rw [if_neg hin]
        rw [e2] at hf2 hal
        have i1 := ihn (insS key acc) (by omega) (by omega) hf2
        clear ihn
        repeat' (first | ((show RRunG _ _ _ (.code (.loop r13l2) :: _) _ _ _; refine Halt.h ?_)) | refine S.nilK ?_ | (refine S.op rfl ?_; first | refine R.indexAddr rfl rfl (by omega) h1 ?_ | refine R.callQ (by decide) rfl (c32 _) ?_ | refine R.mv rfl ?_ | refine R.fieldAddr rfl ?_ | refine R.loadR rfl rfl ?_ | refine R.load (by decide) rfl (by (repeat' (first | assumption)); first | done | fail) rfl ?_ | refine R.pickF rfl rfl ?_ | ((first | refine S.lss rfl rfl ?_ ?_ | refine S.eqInt rfl rfl ?_ ?_) <;> intro hlt <;> try (exfalso; omega))) | refine S.seq ?_ | refine S.region ?_ | refine S.condT rfl ?_ | refine S.condF rfl ?_ | refine RRun.skip ?_ | refine RRun.block ?_)
        all_goals first
          | (exfalso; omega)
          | skip
        refine ⟨?_⟩
        refine RRun.loopIn (S.keep [3, 5, 7, 8, 9, 10, 11, 16, 17, 18] rfl (k13_find acc (by omega) key rb A B C _ _ _ h _ _ (fun L1 L2 he hins => ?_) acc.length [] acc rfl rfl (fun y hy => by cases hy)))
        have hL : L1.length ≤ acc.length := by rw [he]; simp
        have et : (acc.map fun k => [bys k]).take ((L1.length : Int)).toNat = L1.map fun k => [bys k] := by rw [he]; simp
        have ed : (acc.map fun k => [bys k]).drop ((L1.length : Int)).toNat = L2.map fun k => [bys k] := by rw [he]; simp
        have hal2 : L1.length + L2.length = acc.length := by rw [he]; simp
        have h1L : (L1.map fun k => [bys k]).length = L1.length := by simp
        have h2L : (L2.map fun k => [bys k]).length = L2.length := by simp
        have hone3 : ∀ e ∈ ([[bys key]] ++ L2.map fun k => [bys k]), ∀ a ∈ e, a.one = true := key_one (key :: L2)
        have efin : (L1.map fun k => [bys k]) ++ ([[bys key]] ++ L2.map fun k => [bys k]) = (insS key acc).map fun k => [bys k] := by rw [hins]; simp
        repeat' (first | ((show RChain _ (⟨(some 55), _, _, _⟩ :: _) _ _ _; refine Halt.h ?_)) | (refine S.op rfl ?_; first | refine S.sliceHM rfl rfl rfl (by omega) (by rw [hlen]; omega) (by decide) ?_ | refine S.sliceL rfl rfl (by omega) (by rw [hlen]; omega) (by decide) ?_ | refine R.mv rfl ?_ | refine R.buildSl rfl rfl rfl (by decide) ?_) | refine S.region ?_)
        refine ⟨?_⟩
        rw [et, ed]
        refine S.op rfl (R.appendV rfl (.sl [[bys key]] _) rfl (.sl _ _) (key_one L2) (by rw [h2L]; simp; omega) (by rw [h2L]; simp; omega) ?_)
        refine S.op rfl (R.appendV rfl (.sl _ _) rfl (.sl _ _) hone3 (by rw [h1L, List.length_append, h2L]; simp; omega) (by rw [h1L, List.length_append, h2L]; simp; omega) ?_)
        rw [efin]
        repeat' (first | refine S.nilK ?_ | (refine S.op rfl ?_; first | refine R.mv rfl ?_ | refine S.addI rfl rfl (by omega) ?_) | refine S.region ?_ | refine RRun.inBlock ?_)
        rw [show ((j : Int) + 1) = ((j + 1 : Nat) : Int) by omega]
        exact S.keep [3, 5, 9, 10, 11, 16, 17, 18] rfl i1
    · rw [decide_eq_false hs] at hcm
      have hf2 : addKs (commit r) acc (kl.drop (j + 1)) = outN := by
        rw [← hf, hcm]; rfl
      have i1 := ihn acc (by omega) (by omega) hf2
      clear ihn
      repeat' (first | refine S.nilK ?_ | (refine S.op rfl ?_; first | refine R.indexAddr rfl rfl (by omega) h1 ?_ | refine R.mv rfl ?_ | refine R.fieldAddr rfl ?_ | refine R.loadR rfl rfl ?_ | refine R.load (by decide) rfl (by (repeat' (first | assumption)); first | done | fail) rfl ?_ | refine S.addI rfl rfl (by omega) ?_ | refine R.pickT rfl rfl ?_ | ((first | refine S.lss rfl rfl ?_ ?_ | refine S.eqInt rfl rfl ?_ ?_) <;> intro hlt <;> try (exfalso; omega))) | refine S.skip rfl ?_ | refine S.seq ?_ | refine S.region ?_ | refine S.condT rfl ?_ | refine RRun.skip ?_ | refine RRun.block ?_ | refine RRun.exit rfl ?_)
      all_goals first
        | (exfalso; omega)
        | skip
      rw [show ((j : Int) + 1) = ((j + 1 : Nat) : Int) by omega]
      exact S.keep [3, 5, 9, 10, 11, 16, 17, 18] rfl i1
theorem k13_out {l : List Run} (F : Few l) (h : AHeap) (k : List RT) (Q : AV → AHeap → Prop)
    (H : RRun Try.prog Try.f13 60 k (Env.get [(3, keysA (keysR l))]) h Q) : ∀ (m i : Nat) (acc : List (List UInt8)), i + m = l.length → acc.length ≤ i * 8 → (keysOf (l.drop i)).foldl addS acc = keysR l →
    RRun Try.prog Try.f13 60 (.inLoop r13l0 :: .inBlock 0 :: k) (Env.get [(3, keysA acc), (9, runsA l), (10, i64 l.length), (11, i64 i)]) h Q := by
  have hfl := F.len
  intro m
  induction m with
  | zero =>
    intro i acc hi hN hf
    rw [List.drop_of_length_le (by omega)] at hf
    have hf2 : acc = keysR l := hf
    subst hf2
    refine RRun.inLoop ?_
    repeat' (first | refine S.nilK ?_ | (refine S.op rfl ?_; first | ((first | refine S.lss rfl rfl ?_ ?_) <;> intro hlt <;> try (exfalso; omega))) | refine S.seq ?_ | refine S.region ?_ | refine S.condF rfl ?_ | refine RRun.exit rfl ?_)
    exact S.keep [3] rfl H
  | succ m ih =>
    intro i acc hi hN hf
    have hie : i < l.length := by omega
    have h1 : (l.map fun k => runC k)[((i : Nat) : Int).toNat]? = some (runC l[i]) := by simp [hie]
    have hkl := F.keys l[i] (List.getElem_mem hie)
    rw [List.drop_eq_getElem_cons hie, keysOf_cons] at hf
    generalize l[i] = r at h1 hf hkl
    have hlen : (r.keys.map fun k => [bys k]).length = r.keys.length := by simp
    have hf2 : (keysOf (l.drop (i + 1))).foldl addS (addKs (commit r) acc r.keys) = keysR l := by
      rw [← hf]
      unfold addKs
      split
      · rw [List.foldl_append]
      · rfl
    have hal : (addKs (commit r) acc r.keys).length ≤ acc.length + r.keys.length := by
      unfold addKs
      split
      · exact addSs_len _ _
      · omega
    refine RRun.inLoop ?_
    repeat' (first | ((show RRunG _ _ _ (.code (.loop r13l1) :: _) _ _ _; refine Halt.h ?_)) | refine S.nilK ?_ | (refine S.op rfl ?_; first | refine R.indexAddr rfl rfl (by omega) h1 ?_ | refine R.mv rfl ?_ | refine R.fieldAddr rfl ?_ | refine R.loadR rfl rfl ?_ | refine R.load (by decide) rfl (by (repeat' (first | exact AHeap.set_same _ _ _)); first | done | fail) rfl ?_ | refine R.len rfl ?_ | refine R.alloc rfl (fun b hb => ?_) | ((first | refine S.lss rfl rfl ?_ ?_) <;> intro hlt <;> try (exfalso; omega))) | (refine S.op0 rfl ?_; first | refine S.storeS rfl rfl rfl (by rfl) rfl (by first | decide | exact Nat.le_refl _ | exact Nat.le_of_ble_eq_true rfl) ?_) | refine S.seq ?_ | refine S.region ?_ | refine S.condT rfl ?_ | refine RRun.skip ?_ | refine RRun.block ?_)
    refine ⟨?_⟩
    revert b hb
    intro rb hrb
    rw [hlen]
    refine RRun.loopIn (S.keep [3, 5, 9, 10, 11, 16, 17, 18] rfl (k13_in r rb r.keys (by omega) _ _ _ (h.set rb (.box (runC r))) (AHeap.set_same _ _ _) (addKs (commit r) acc r.keys) _ _ ?_ r.keys.length 0 acc (by omega) (by omega) rfl))
    repeat' (first | refine S.nilK ?_ | (refine S.op rfl ?_; first | refine R.mv rfl ?_ | refine S.addI rfl rfl (by omega) ?_) | refine S.region ?_ | refine RRun.inBlock ?_)
    rw [show ((i : Int) + 1) = ((i + 1 : Nat) : Int) by omega]
    exact S.keep [3, 9, 10, 11] rfl (S.drop (by repeat (first | exact AHeap.le.refl _ | refine AHeap.le.set ?_ _ (by (repeat' (first | assumption)); first | done | fail))) (ih (i + 1) (addKs (commit r) acc r.keys) (by omega) (by omega) hf2))
theorem rkeys_spec {l : List Run} (F : Few l) (h : AHeap) : ACalls Try.prog 13 [runsA l] h (fun x h' => x = keysA (keysS l) ∧ h' = h) := by
  rw [← keysR_eq]
  obtain ⟨c', hc1, hc2⟩ := res13
  refine ACalls.weak (ACalls.enter Try.func13 hc1 Try.ntmps13 hc2 (Nat.le_of_ble_eq_true rfl) rfl ?_)
  have hlen : (l.map fun r => runC r).length = l.length := by simp
  repeat' (first | refine S.nilK ?_ | (refine S.op rfl ?_; first | refine R.mv rfl ?_ | refine R.len rfl ?_) | refine S.seq ?_ | refine S.region ?_ | refine RRun.block ?_)
  rw [hlen]
  refine RRun.loopIn (S.keep [3, 9, 10, 11] rfl (RRun.envs (.cons 3 (.nilSl 1 (c := .ro) trivial) (.cons 9 (.refl _) (.cons 10 (.refl _) (.cons 11 (.refl _) .nil)))) (k13_out F h _ _ ?_ l.length 0 [] (by omega) (by simp) rfl)))
  repeat' (first | refine S.nilK ?_ | (refine S.op rfl ?_; first | refine R.mv rfl ?_) | refine S.seq ?_ | refine S.region ?_)
  apply S.ret rr13
  case hx => repeat (first | exact ResAt.nil | apply ResAt.tmp rfl)
  exact ⟨_, h, .refl _, (by repeat (first | exact AHeap.le.refl _)), rfl, rfl⟩
end Go.Proofs.Ythfolomknkobkaa

namespace Go.Proofs.Ythfolomknkobkaa
open Go.Av
open Go.Ad (Seen Span Run Dep addD)
def depVs (d : Dep) : List Value := [.int .u64 d.src.toNat, .int .u64 d.dst.toNat, .int .i64 d.kind]
theorem dep_eqv (a b : Dep) : aggEq [(0, .int), (1, .int), (2, .int)] (depVs a) (depVs b) = some (decide (a = b)) := by
  obtain ⟨a1, a2, a3⟩ := a
  obtain ⟨b1, b2, b3⟩ := b
  by_cases h1 : a1 = b1
  · subst h1
    by_cases h2 : a2 = b2
    · subst h2
      by_cases h3 : a3 = b3
      · subst h3
        simp [depVs, aggEq, atomEq]
      · have e : (a3 == b3) = false := by simpa using h3
        simp [depVs, aggEq, atomEq, h3, e]
    · have g2 : ¬ a2.toNat = b2.toNat := fun e => h2 (UInt64.toNat_inj.1 e)
      have e : ((a2.toNat : Int) == b2.toNat) = false := beq_false_of_ne (fun e => g2 (Int.ofNat.inj e))
      simp [depVs, aggEq, atomEq, h2, e]
  · have g1 : ¬ a1.toNat = b1.toNat := fun e => h1 (UInt64.toNat_inj.1 e)
    have e : ((a1.toNat : Int) == b1.toNat) = false := beq_false_of_ne (fun e => g1 (Int.ofNat.inj e))
    simp [depVs, aggEq, atomEq, h1, e]
theorem S.eqDep {P : Program} {c : Cls} {E : AEnv} {h : AHeap} {K : AV → AHeap → Prop} {neg : Bool} {x y : Operand} {a b : Dep} {w : Bool} (hw : decide (a = b) = w) (hx : aev E x = some (.ag (depC a))) (hy : aev E y = some (.ag (depC b))) (hk : K (bl (if neg then !w else w)) h) : ROpS P c (.eq neg (.agg [(0, .int), (1, .int), (2, .int)]) x y) E h K :=
  R.eqAgg (xs := depVs a) (ys := depVs b) hx hy (by rw [dep_eqv, hw]) hk
theorem dep_one (d : Dep) : ∀ e ∈ [depC d], ∀ a ∈ e, a.one = true := by
  intro e he a ha
  simp only [List.mem_singleton] at he
  subst he
  exact List.all_eq_true.1 (show (depC d).all AV.one = true from rfl) a ha
def Keeps (h h' : AHeap) : Prop := ∀ x cs, h x = some (.box cs) → h' x = some (.box cs)
theorem Keeps.refl (h : AHeap) : Keeps h h := fun _ _ e => e
theorem Keeps.loc {h h' : AHeap} (hk : Keeps h h') {b : Nat} (o : ABlk) (hb : h' b = none) : Keeps h (h'.set b o) := fun x cs hx => AHeap.get_fresh hb (hk x cs hx)
theorem Keeps.trans {h h' h2 : AHeap} (a : Keeps h h') (b : Keeps h' h2) : Keeps h h2 := fun x cs hx => b x cs (a x cs hx)
def r15l0 : RCode :=
  (.seq (.region [
    ⟨(some 10), none, .act, .bin .lss (.tmp 9) (.tmp 8)⟩])
  (.seq (.cond (.tmp 10)
   .skip
   (.exit 0))
  (.seq (.block 1
   (.seq (.region [
     ⟨(some 11), none, .act, .indexAddr 3 (.tmp 7) (.tmp 9)⟩,
     ⟨(some 12), none, .act, .load true 3 (.tmp 11)⟩,
     ⟨(some 6), none, .act, .alloc [(.int .u64 0), (.int .u64 0), (.int .i64 0)]⟩,
     ⟨none, none, .act, .store 3 (.tmp 6) (.tmp 12)⟩])
   (.seq (.region [
     ⟨(some 13), none, .act, .load true 3 (.tmp 6)⟩,
     ⟨(some 14), none, .act, .load true 3 (.tmp 3)⟩,
     ⟨(some 15), none, .act, .eq false (.agg [(0, .int), (1, .int), (2, .int)]) (.tmp 13) (.tmp 14)⟩])
   (.cond (.tmp 15)
    (.seq (.region [
      ⟨(some 16), none, .act, .mv (.tmp 0)⟩,
      ⟨(some 4), none, .act, .mv (.tmp 16)⟩])
    .ret)
    .skip))))
  (.region [
    ⟨(some 17), none, .act, .bin .add (.tmp 9) (.const (.int .i64 1))⟩,
    ⟨(some 9), none, .act, .mv (.tmp 17)⟩]))))
def r15 : RCode :=
  (.seq (.region [
    ⟨(some 3), none, .act, .box (.tmp 1)⟩,
    ⟨(some 4), none, .act, .mv (.const (.slice none 0 0))⟩])
  (.seq (.seq (.region [
    ⟨(some 7), none, .act, .mv (.tmp 0)⟩,
    ⟨(some 8), none, .act, .len (.tmp 7)⟩,
    ⟨(some 9), none, .act, .mv (.const (.int .i64 0))⟩])
  (.block 0
   (.loop r15l0)))
  (.seq (.region [
    ⟨(some 18), none, .act, .mv (.tmp 0)⟩,
    ⟨(some 19), none, .act, .load true 3 (.tmp 3)⟩,
    ⟨(some 20), none, .act, .buildSl 3 [(.int .u64 0), (.int .u64 0), (.int .i64 0)] 1 [(0, (.tmp 19))]⟩,
    ⟨(some 21), none, .act, .append 3 24 [(.int .u64 0), (.int .u64 0), (.int .i64 0)] (.tmp 18) (.tmp 20)⟩,
    ⟨(some 4), none, .act, .mv (.tmp 21)⟩])
  .ret)))
theorem res15 : ∃ c, Try.f15.body = some c ∧ resCode Try.prog 22 c = some r15 := ⟨_, rfl, by kernel_rfl⟩
theorem rr15 : resRes Try.prog Try.f15.results.toList = some [.tmp 4] := by kernel_rfl
theorem a15_loop (out : List Dep) (hout : out.length ≤ 1000000) (cc : Cap) (d : Dep) (db : Nat) (h₀ : AHeap) (hA : AHeap) (hdb : hA db = some (.box (depC d))) (k : List RT) (Q : AV → AHeap → Prop)
    (H : d ∉ out → ∀ h, Grow h₀ h cc → Keeps hA h → RRun Try.prog Try.f15 22 k (Env.get [(0, .sl 3 (out.map depC) cc), (3, ptr db)]) h Q) (Hq : d ∈ out → ∀ h, Grow h₀ h cc → Keeps hA h → Q (.sl 3 (out.map depC) cc) h) : ∀ (m i : Nat) (h : AHeap), i + m = out.length → (∀ x ∈ out.take i, x ≠ d) → Grow h₀ h cc → Keeps hA h →
    RRun Try.prog Try.f15 22 (.inLoop r15l0 :: .inBlock 0 :: k) (Env.get [(0, .sl 3 (out.map depC) cc), (3, ptr db), (7, .sl 3 (out.map depC) cc), (8, i64 out.length), (9, i64 i)]) h Q := by
  intro m
  induction m with
  | zero =>
    intro i h hi hno hg hke
    rw [List.take_of_length_le (by omega)] at hno
    refine RRun.inLoop ?_
    repeat' (first | refine S.nilK ?_ | (refine S.op rfl ?_; first | ((first | refine S.lss rfl rfl ?_ ?_) <;> intro hlt <;> try (exfalso; omega))) | refine S.seq ?_ | refine S.region ?_ | refine S.condF rfl ?_ | refine RRun.exit rfl ?_)
    exact S.keep [0, 3] rfl (H (fun hm => hno _ hm rfl) h hg hke)
  | succ m ih =>
    intro i h hi hno hg hke
    have hie : i < out.length := by omega
    have h1 : (out.map fun k => depC k)[((i : Nat) : Int).toNat]? = some (depC out[i]) := by simp [hie]
    have hmem := List.getElem_mem hie
    have ht : out.take (i + 1) = out.take i ++ [out[i]] := by rw [List.take_add_one, List.getElem?_eq_getElem hie]; rfl
    have hih := ih (i + 1)
    rw [ht] at hih
    generalize out[i] = x at h1 hmem hih
    have hdb2 := hke _ _ hdb
    refine RRun.inLoop ?_
    by_cases hx : x = d
    · have hd := decide_eq_true hx
      repeat' (first | refine S.nilK ?_ | (refine S.op rfl ?_; first | refine R.indexAddr rfl rfl (by omega) h1 ?_ | refine S.eqDep hd rfl rfl ?_ | refine R.mv rfl ?_ | refine R.loadR rfl rfl ?_ | refine R.load (by decide) rfl (by (repeat' (first | assumption | exact AHeap.set_same _ _ _ | refine AHeap.get_fresh ‹_› ?_)); first | done | fail) rfl ?_ | refine R.alloc rfl (fun b hb => ?_) | ((first | refine S.lss rfl rfl ?_ ?_) <;> intro hlt <;> try (exfalso; omega))) | (refine S.op0 rfl ?_; first | refine S.storeS rfl rfl rfl (by rfl) rfl (by first | decide | exact Nat.le_refl _ | exact Nat.le_of_ble_eq_true rfl) ?_) | refine S.seq ?_ | refine S.region ?_ | refine S.condT rfl ?_ | refine RRun.skip ?_ | refine RRun.block ?_)
      apply S.ret rr15
      case hx => repeat (first | exact ResAt.nil | apply ResAt.tmp rfl)
      exact Hq (hx ▸ hmem) _ (hg.base _ hb) (hke.loc _ hb)
    · have hd := decide_eq_false hx
      repeat' (first | refine S.nilK ?_ | (refine S.op rfl ?_; first | refine R.indexAddr rfl rfl (by omega) h1 ?_ | refine S.eqDep hd rfl rfl ?_ | refine R.mv rfl ?_ | refine R.loadR rfl rfl ?_ | refine R.load (by decide) rfl (by (repeat' (first | assumption | exact AHeap.set_same _ _ _ | refine AHeap.get_fresh ‹_› ?_)); first | done | fail) rfl ?_ | refine S.addI rfl rfl (by omega) ?_ | refine R.alloc rfl (fun b hb => ?_) | ((first | refine S.lss rfl rfl ?_ ?_) <;> intro hlt <;> try (exfalso; omega))) | (refine S.op0 rfl ?_; first | refine S.storeS rfl rfl rfl (by rfl) rfl (by first | decide | exact Nat.le_refl _ | exact Nat.le_of_ble_eq_true rfl) ?_) | refine S.seq ?_ | refine S.region ?_ | refine S.condT rfl ?_ | refine S.condF rfl ?_ | refine RRun.skip ?_ | refine RRun.block ?_ | refine RRun.inBlock ?_)
      rw [show ((i : Int) + 1) = ((i + 1 : Nat) : Int) by omega]
      exact S.keep [0, 3, 7, 8, 9] rfl (hih _ (by omega) (fun y hy => by
        rcases List.mem_append.1 hy with hy | hy
        · exact hno y hy
        · rw [List.mem_singleton.1 hy]; exact hx) (hg.base _ hb) (hke.loc _ hb))
theorem add15_spec (out : List Dep) (hout : out.length ≤ 1000000) (cc : Cap) (d : Dep) (h₀ h : AHeap) (hg : Grow h₀ h cc) : ACalls Try.prog 15 [.sl 3 (out.map depC) cc, .ag (depC d)] h (fun x h' => ∃ c', x = .sl 3 ((addD out d).map depC) c' ∧ Grow h₀ h' c' ∧ Keeps h h') := by
  obtain ⟨c', hc1, hc2⟩ := res15
  refine ACalls.enter Try.func15 hc1 Try.ntmps15 hc2 (Nat.le_of_ble_eq_true rfl) rfl ?_
  have hlen : (out.map depC).length = out.length := by simp
  repeat' (first | refine S.nilK ?_ | (refine S.op rfl ?_; first | refine R.mv rfl ?_ | refine R.len rfl ?_ | refine R.box rfl rfl rfl (fun b hb => ?_)) | refine S.seq ?_ | refine S.region ?_ | refine RRun.block ?_)
  revert b hb
  intro db hdb
  rw [hlen]
  have hke : Keeps h (h.set db (.box (depC d))) := (Keeps.refl h).loc _ hdb
  refine RRun.loopIn (S.keep [0, 3, 7, 8, 9] rfl (a15_loop out hout cc d db h₀ (h.set db (.box (depC d))) (AHeap.set_same _ _ _) _ _ (fun hno h1 hg1 hk1 => ?_) (fun hm h1 hg1 hk1 => ⟨cc, by unfold addD; rw [if_pos hm], hg1, hke.trans hk1⟩) out.length 0 (h.set db (.box (depC d))) (by omega) (fun x hx => by cases hx) (hg.base _ hdb) (Keeps.refl _)))
  have hdb2 := hk1 _ _ (AHeap.set_same _ _ _)
  repeat' (first | ((show RChain _ (⟨(some 21), _, _, _⟩ :: _) _ _ _; refine Halt.h ?_)) | (refine S.op rfl ?_; first | refine R.mv rfl ?_ | refine R.load (by decide) rfl (by (repeat' (first | assumption)); first | done | fail) rfl ?_ | refine R.buildSl rfl rfl rfl (by decide) ?_) | refine S.seq ?_ | refine S.region ?_)
  refine ⟨?_⟩
  refine S.op rfl (S.appendG (ys := [depC d]) rfl hg1 rfl (.sl _ _) rfl (.sl _ _) (dep_one d) (by rw [hlen]; simp; omega) (by rw [hlen]; simp; omega) (fun c2 h2 hg2 hbox => ?_))
  repeat' (first | refine S.nilK ?_ | (refine S.op rfl ?_; first | refine R.mv rfl ?_))
  apply S.ret rr15
  case hx => repeat (first | exact ResAt.nil | apply ResAt.tmp rfl)
  exact ⟨c2, by unfold addD; rw [if_neg hno]; simp; rfl, hg2, hke.trans (hk1.trans hbox)⟩
end Go.Proofs.Ythfolomknkobkaa

namespace Go.Proofs.Ythfolomknkobkaa
open Go.Av
open Go.Ad (Seen Span Run Dep addD wwL order wrote depsW commit findR readD depsR)
abbrev outA (out : List Dep) (c : Cap) : AV := .sl 3 (out.map depC) c
def r8l1 : RCode :=
  (.seq (.seq (.region [
    ⟨(some 34), none, .act, .mv (.tmp 7)⟩,
    ⟨(some 35), none, .act, .mv (.tmp 6)⟩,
    ⟨(some 36), none, .act, .len (.tmp 35)⟩,
    ⟨(some 37), none, .act, .bin .lss (.tmp 34) (.tmp 36)⟩])
  (.cond (.tmp 37)
   .skip
   (.exit 2)))
  (.seq (.block 3
   (.region [
     ⟨(some 40), none, .pure, .mv (.tmp 3)⟩,
     ⟨(some 41), none, .pure, .mv (.tmp 6)⟩,
     ⟨(some 42), none, .pure, .mv (.tmp 7)⟩,
     ⟨(some 43), none, .pure, .bin .sub (.tmp 42) (.const (.int .i64 1))⟩,
     ⟨(some 44), none, .pure, .indexAddr 8 (.tmp 41) (.tmp 43)⟩,
     ⟨(some 45), none, .pure, .fieldAddr 0 (.tmp 44)⟩,
     ⟨(some 46), none, .read, .load false 1 (.tmp 45)⟩,
     ⟨(some 47), none, .pure, .mv (.tmp 6)⟩,
     ⟨(some 48), none, .pure, .mv (.tmp 7)⟩,
     ⟨(some 49), none, .pure, .indexAddr 8 (.tmp 47) (.tmp 48)⟩,
     ⟨(some 50), none, .pure, .fieldAddr 0 (.tmp 49)⟩,
     ⟨(some 51), none, .read, .load false 1 (.tmp 50)⟩,
     ⟨(some 52), none, .pure, .build [(.int .u64 0), (.int .u64 0), (.int .i64 0)] [(0, 1, (.tmp 46)), (1, 1, (.tmp 51)), (2, 1, (.const (.int .i64 1)))]⟩,
     ⟨(some 53), none, .act, .call 15 [(.tmp 40), (.tmp 52)]⟩,
     ⟨(some 3), none, .pure, .mv (.tmp 53)⟩]))
  (.region [
    ⟨(some 38), none, .act, .mv (.tmp 7)⟩,
    ⟨(some 39), none, .act, .bin .add (.tmp 38) (.const (.int .i64 1))⟩,
    ⟨(some 7), none, .act, .mv (.tmp 39)⟩])))
def r8l0 : RCode :=
  (.seq (.region [
    ⟨(some 28), none, .act, .bin .lss (.tmp 27) (.tmp 26)⟩])
  (.seq (.cond (.tmp 28)
   .skip
   (.exit 0))
  (.seq (.block 1
   (.seq (.region [
     ⟨(some 29), none, .act, .indexAddr 1 (.tmp 25) (.tmp 27)⟩,
     ⟨(some 30), none, .act, .load false 1 (.tmp 29)⟩,
     ⟨(some 5), none, .act, .mv (.tmp 30)⟩])
   (.seq (.region [
     ⟨(some 31), none, .act, .mv (.tmp 0)⟩,
     ⟨(some 32), none, .act, .mv (.tmp 5)⟩,
     ⟨(some 33), none, .act, .call 14 [(.tmp 31), (.tmp 32)]⟩,
     ⟨(some 6), none, .act, .mv (.tmp 33)⟩])
   (.seq (.region [
     ⟨(some 7), none, .act, .mv (.const (.int .i64 1))⟩])
   (.block 2
    (.loop r8l1))))))
  (.region [
    ⟨(some 54), none, .act, .bin .add (.tmp 27) (.const (.int .i64 1))⟩,
    ⟨(some 27), none, .act, .mv (.tmp 54)⟩]))))
def r8l3 : RCode :=
  (.seq (.region [
    ⟨(some 65), none, .act, .bin .lss (.tmp 64) (.tmp 63)⟩])
  (.seq (.cond (.tmp 65)
   .skip
   (.exit 6))
  (.seq (.block 7
   (.seq (.region [
     ⟨(some 66), none, .act, .indexAddr 4 (.tmp 62) (.tmp 64)⟩,
     ⟨(some 67), none, .act, .load true 4 (.tmp 66)⟩,
     ⟨(some 11), none, .act, .alloc [(.slice none 0 0), (.int .u64 0), (.int .u64 0), (.slice none 0 0)]⟩,
     ⟨none, none, .act, .store 4 (.tmp 11) (.tmp 67)⟩])
   (.seq (.region [
     ⟨(some 69), none, .act, .mv (.tmp 0)⟩,
     ⟨(some 70), none, .act, .fieldAddr 2 (.tmp 11)⟩,
     ⟨(some 71), none, .act, .load false 1 (.tmp 70)⟩,
     ⟨(some 72), none, .act, .call 16 [(.tmp 69), (.tmp 71)]⟩,
     ⟨(some 68), none, .act, .mv (.tmp 72)⟩,
     ⟨(some 73), none, .act, .extract (.tmp 68) 0⟩,
     ⟨(some 74), none, .act, .extract (.tmp 68) 1⟩,
     ⟨(some 12), none, .act, .alloc [(.int .u64 0), (.int .i64 0), (.int .i64 0), (.int .u64 0), (.int .u64 0), (.slice none 0 0), (.slice none 0 0), (.slice none 0 0)]⟩,
     ⟨none, none, .act, .store 8 (.tmp 12) (.tmp 73)⟩,
     ⟨(some 13), none, .act, .mv (.tmp 74)⟩])
   (.seq (.region [
     ⟨(some 75), none, .act, .fieldAddr 2 (.tmp 9)⟩,
     ⟨(some 76), none, .act, .load false 1 (.tmp 75)⟩,
     ⟨(some 77), none, .act, .eq false .int (.tmp 76) (.const (.int .i64 1))⟩,
     ⟨(some 78), none, .act, .mv (.tmp 77)⟩,
     ⟨(some 79), (some (78, true)), .act, .mv (.tmp 13)⟩,
     ⟨(some 80), none, .act, .pick (.tmp 78) (.tmp 79) (.const (.bool false))⟩,
     ⟨(some 81), none, .act, .mv (.tmp 80)⟩,
     ⟨(some 82), (some (81, true)), .act, .fieldAddr 2 (.tmp 12)⟩,
     ⟨(some 83), (some (81, true)), .act, .load false 1 (.tmp 82)⟩,
     ⟨(some 84), (some (81, true)), .act, .eq false .int (.tmp 83) (.const (.int .i64 1))⟩,
     ⟨(some 85), none, .act, .pick (.tmp 81) (.tmp 84) (.const (.bool false))⟩,
     ⟨(some 86), none, .act, .mv (.tmp 85)⟩,
     ⟨(some 87), (some (86, true)), .act, .fieldAddr 1 (.tmp 11)⟩,
     ⟨(some 88), (some (86, true)), .act, .load false 1 (.tmp 87)⟩,
     ⟨(some 89), (some (86, true)), .act, .bin .gtr (.tmp 88) (.const (.int .u64 0))⟩,
     ⟨(some 90), none, .act, .pick (.tmp 86) (.tmp 89) (.const (.bool false))⟩,
     ⟨(some 91), none, .act, .mv (.tmp 90)⟩,
     ⟨(some 92), (some (91, true)), .act, .fieldAddr 2 (.tmp 11)⟩,
     ⟨(some 93), (some (91, true)), .act, .load false 1 (.tmp 92)⟩,
     ⟨(some 94), (some (91, true)), .act, .fieldAddr 0 (.tmp 9)⟩,
     ⟨(some 95), (some (91, true)), .act, .load false 1 (.tmp 94)⟩,
     ⟨(some 96), (some (91, true)), .act, .eq true .int (.tmp 93) (.tmp 95)⟩,
     ⟨(some 97), none, .act, .pick (.tmp 91) (.tmp 96) (.const (.bool false))⟩])
   (.cond (.tmp 97)
    (.region [
      ⟨(some 98), none, .act, .mv (.tmp 3)⟩,
      ⟨(some 99), none, .act, .fieldAddr 2 (.tmp 11)⟩,
      ⟨(some 100), none, .act, .load false 1 (.tmp 99)⟩,
      ⟨(some 101), none, .act, .fieldAddr 0 (.tmp 9)⟩,
      ⟨(some 102), none, .act, .load false 1 (.tmp 101)⟩,
      ⟨(some 103), none, .act, .build [(.int .u64 0), (.int .u64 0), (.int .i64 0)] [(0, 1, (.tmp 100)), (1, 1, (.tmp 102)), (2, 1, (.const (.int .i64 2)))]⟩,
      ⟨(some 104), none, .act, .call 15 [(.tmp 98), (.tmp 103)]⟩,
      ⟨(some 3), none, .act, .mv (.tmp 104)⟩])
    .skip)))))
  (.region [
    ⟨(some 105), none, .act, .bin .add (.tmp 64) (.const (.int .i64 1))⟩,
    ⟨(some 64), none, .act, .mv (.tmp 105)⟩]))))
def r8l2 : RCode :=
  (.seq (.region [
    ⟨(some 58), none, .act, .bin .lss (.tmp 57) (.tmp 56)⟩])
  (.seq (.cond (.tmp 58)
   .skip
   (.exit 4))
  (.seq (.block 5
   (.seq (.region [
     ⟨(some 59), none, .act, .indexAddr 8 (.tmp 55) (.tmp 57)⟩,
     ⟨(some 60), none, .act, .load true 8 (.tmp 59)⟩,
     ⟨(some 9), none, .act, .alloc [(.int .u64 0), (.int .i64 0), (.int .i64 0), (.int .u64 0), (.int .u64 0), (.slice none 0 0), (.slice none 0 0), (.slice none 0 0)]⟩,
     ⟨none, none, .act, .store 8 (.tmp 9) (.tmp 60)⟩])
   (.seq (.region [
     ⟨(some 61), none, .act, .fieldAddr 6 (.tmp 9)⟩,
     ⟨(some 62), none, .act, .load false 1 (.tmp 61)⟩,
     ⟨(some 63), none, .act, .len (.tmp 62)⟩,
     ⟨(some 64), none, .act, .mv (.const (.int .i64 0))⟩])
   (.block 6
    (.loop r8l3)))))
  (.region [
    ⟨(some 106), none, .act, .bin .add (.tmp 57) (.const (.int .i64 1))⟩,
    ⟨(some 57), none, .act, .mv (.tmp 106)⟩]))))
def r8l6 : RCode :=
  (.seq (.region [
    ⟨(some 136), none, .act, .bin .lss (.tmp 135) (.tmp 134)⟩])
  (.seq (.cond (.tmp 136)
   .skip
   (.exit 12))
  (.seq (.block 13
   (.seq (.region [
     ⟨(some 137), none, .act, .indexAddr 4 (.tmp 133) (.tmp 135)⟩,
     ⟨(some 138), none, .act, .load true 4 (.tmp 137)⟩,
     ⟨(some 20), none, .act, .alloc [(.slice none 0 0), (.int .u64 0), (.int .u64 0), (.slice none 0 0)]⟩,
     ⟨none, none, .act, .store 4 (.tmp 20) (.tmp 138)⟩])
   (.seq (.region [
     ⟨(some 139), none, .act, .fieldAddr 0 (.tmp 20)⟩,
     ⟨(some 140), none, .act, .load false 1 (.tmp 139)⟩,
     ⟨(some 141), none, .act, .toStr (.tmp 140)⟩,
     ⟨(some 142), none, .act, .mv (.tmp 17)⟩,
     ⟨(some 143), none, .act, .toStr (.tmp 142)⟩,
     ⟨(some 144), none, .act, .eq false .str (.tmp 141) (.tmp 143)⟩,
     ⟨(some 145), none, .act, .mv (.tmp 144)⟩,
     ⟨(some 146), (some (145, true)), .act, .fieldAddr 1 (.tmp 20)⟩,
     ⟨(some 147), (some (145, true)), .act, .load false 1 (.tmp 146)⟩,
     ⟨(some 148), (some (145, true)), .act, .mv (.tmp 18)⟩,
     ⟨(some 149), (some (145, true)), .act, .bin .gtr (.tmp 147) (.tmp 148)⟩,
     ⟨(some 150), none, .act, .pick (.tmp 145) (.tmp 149) (.const (.bool false))⟩])
   (.cond (.tmp 150)
    (.region [
      ⟨(some 151), none, .act, .fieldAddr 1 (.tmp 20)⟩,
      ⟨(some 152), none, .act, .load false 1 (.tmp 151)⟩,
      ⟨(some 18), none, .act, .mv (.tmp 152)⟩])
    .skip))))
  (.region [
    ⟨(some 153), none, .act, .bin .add (.tmp 135) (.const (.int .i64 1))⟩,
    ⟨(some 135), none, .act, .mv (.tmp 153)⟩]))))
def r8l7 : RCode :=
  (.seq (.region [
    ⟨(some 159), none, .act, .bin .lss (.tmp 158) (.tmp 157)⟩])
  (.seq (.cond (.tmp 159)
   .skip
   (.exit 14))
  (.seq (.block 15
   (.seq (.region [
     ⟨(some 160), none, .act, .indexAddr 8 (.tmp 156) (.tmp 158)⟩,
     ⟨(some 161), none, .act, .load true 8 (.tmp 160)⟩,
     ⟨(some 23), none, .act, .alloc [(.int .u64 0), (.int .i64 0), (.int .i64 0), (.int .u64 0), (.int .u64 0), (.slice none 0 0), (.slice none 0 0), (.slice none 0 0)]⟩,
     ⟨none, none, .act, .store 8 (.tmp 23) (.tmp 161)⟩])
   (.seq (.region [
     ⟨(some 162), none, .act, .mv (.tmp 21)⟩,
     ⟨(some 163), none, .act, .un .not (.tmp 162)⟩,
     ⟨(some 164), none, .act, .mv (.tmp 163)⟩,
     ⟨(some 165), (some (164, true)), .act, .fieldAddr 4 (.tmp 23)⟩,
     ⟨(some 166), (some (164, true)), .act, .load false 1 (.tmp 165)⟩,
     ⟨(some 167), (some (164, true)), .act, .mv (.tmp 18)⟩,
     ⟨(some 168), (some (164, true)), .act, .bin .gtr (.tmp 166) (.tmp 167)⟩,
     ⟨(some 169), none, .act, .pick (.tmp 164) (.tmp 168) (.const (.bool false))⟩])
   (.cond (.tmp 169)
    (.seq (.region [
      ⟨(some 21), none, .act, .mv (.const (.bool true))⟩])
    (.seq (.region [
      ⟨(some 170), none, .act, .fieldAddr 0 (.tmp 23)⟩,
      ⟨(some 171), none, .act, .load false 1 (.tmp 170)⟩,
      ⟨(some 172), none, .act, .fieldAddr 0 (.tmp 15)⟩,
      ⟨(some 173), none, .act, .load false 1 (.tmp 172)⟩,
      ⟨(some 174), none, .act, .eq true .int (.tmp 171) (.tmp 173)⟩])
    (.cond (.tmp 174)
     (.region [
       ⟨(some 175), none, .act, .mv (.tmp 3)⟩,
       ⟨(some 176), none, .act, .fieldAddr 0 (.tmp 15)⟩,
       ⟨(some 177), none, .act, .load false 1 (.tmp 176)⟩,
       ⟨(some 178), none, .act, .fieldAddr 0 (.tmp 23)⟩,
       ⟨(some 179), none, .act, .load false 1 (.tmp 178)⟩,
       ⟨(some 180), none, .act, .build [(.int .u64 0), (.int .u64 0), (.int .i64 0)] [(0, 1, (.tmp 177)), (1, 1, (.tmp 179)), (2, 1, (.const (.int .i64 3)))]⟩,
       ⟨(some 181), none, .act, .call 15 [(.tmp 175), (.tmp 180)]⟩,
       ⟨(some 3), none, .act, .mv (.tmp 181)⟩])
     .skip)))
    .skip))))
  (.region [
    ⟨(some 182), none, .act, .bin .add (.tmp 158) (.const (.int .i64 1))⟩,
    ⟨(some 158), none, .act, .mv (.tmp 182)⟩]))))
def r8l5 : RCode :=
  (.seq (.region [
    ⟨(some 125), none, .act, .bin .lss (.tmp 124) (.tmp 123)⟩])
  (.seq (.cond (.tmp 125)
   .skip
   (.exit 10))
  (.seq (.block 11
   (.seq (.region [
     ⟨(some 126), none, .act, .indexAddr 1 (.tmp 122) (.tmp 124)⟩,
     ⟨(some 127), none, .act, .load false 1 (.tmp 126)⟩,
     ⟨(some 17), none, .act, .mv (.tmp 127)⟩])
   (.seq (.seq (.region [
     ⟨(some 128), none, .act, .load true 8 (.tmp 15)⟩,
     ⟨(some 129), none, .act, .mv (.tmp 17)⟩,
     ⟨(some 130), none, .act, .call 17 [(.tmp 128), (.tmp 129)]⟩,
     ⟨(some 131), none, .act, .un .not (.tmp 130)⟩])
   (.cond (.tmp 131)
    (.exit 11)
    .skip))
   (.seq (.region [
     ⟨(some 18), none, .act, .mv (.const (.int .u64 0))⟩])
   (.seq (.seq (.region [
     ⟨(some 132), none, .act, .fieldAddr 6 (.tmp 15)⟩,
     ⟨(some 133), none, .act, .load false 1 (.tmp 132)⟩,
     ⟨(some 134), none, .act, .len (.tmp 133)⟩,
     ⟨(some 135), none, .act, .mv (.const (.int .i64 0))⟩])
   (.block 12
    (.loop r8l6)))
   (.seq (.region [
     ⟨(some 21), none, .act, .mv (.const (.bool false))⟩])
   (.seq (.region [
     ⟨(some 154), none, .act, .mv (.tmp 0)⟩,
     ⟨(some 155), none, .act, .mv (.tmp 17)⟩,
     ⟨(some 156), none, .act, .call 14 [(.tmp 154), (.tmp 155)]⟩,
     ⟨(some 157), none, .act, .len (.tmp 156)⟩,
     ⟨(some 158), none, .act, .mv (.const (.int .i64 0))⟩])
   (.block 14
    (.loop r8l7)))))))))
  (.region [
    ⟨(some 183), none, .act, .bin .add (.tmp 124) (.const (.int .i64 1))⟩,
    ⟨(some 124), none, .act, .mv (.tmp 183)⟩]))))
def r8l4 : RCode :=
  (.seq (.region [
    ⟨(some 110), none, .act, .bin .lss (.tmp 109) (.tmp 108)⟩])
  (.seq (.cond (.tmp 110)
   .skip
   (.exit 8))
  (.seq (.block 9
   (.seq (.region [
     ⟨(some 111), none, .act, .indexAddr 8 (.tmp 107) (.tmp 109)⟩,
     ⟨(some 112), none, .act, .load true 8 (.tmp 111)⟩,
     ⟨(some 15), none, .act, .alloc [(.int .u64 0), (.int .i64 0), (.int .i64 0), (.int .u64 0), (.int .u64 0), (.slice none 0 0), (.slice none 0 0), (.slice none 0 0)]⟩,
     ⟨none, none, .act, .store 8 (.tmp 15) (.tmp 112)⟩])
   (.seq (.seq (.region [
     ⟨(some 113), none, .act, .fieldAddr 2 (.tmp 15)⟩,
     ⟨(some 114), none, .act, .load false 1 (.tmp 113)⟩,
     ⟨(some 115), none, .act, .eq true .int (.tmp 114) (.const (.int .i64 1))⟩,
     ⟨(some 116), none, .act, .mv (.tmp 115)⟩,
     ⟨(some 117), (some (116, false)), .act, .fieldAddr 1 (.tmp 15)⟩,
     ⟨(some 118), (some (116, false)), .act, .load false 1 (.tmp 117)⟩,
     ⟨(some 119), (some (116, false)), .act, .eq true .int (.tmp 118) (.const (.int .i64 4))⟩,
     ⟨(some 120), none, .act, .pick (.tmp 116) (.const (.bool true)) (.tmp 119)⟩])
   (.cond (.tmp 120)
    (.exit 9)
    .skip))
   (.seq (.region [
     ⟨(some 121), none, .act, .mv (.tmp 0)⟩,
     ⟨(some 122), none, .act, .call 13 [(.tmp 121)]⟩,
     ⟨(some 123), none, .act, .len (.tmp 122)⟩,
     ⟨(some 124), none, .act, .mv (.const (.int .i64 0))⟩])
   (.block 10
    (.loop r8l5))))))
  (.region [
    ⟨(some 184), none, .act, .bin .add (.tmp 109) (.const (.int .i64 1))⟩,
    ⟨(some 109), none, .act, .mv (.tmp 184)⟩]))))
def r8 : RCode :=
  (.seq (.region [
    ⟨(some 2), none, .act, .mv (.const (.slice none 0 0))⟩])
  (.seq (.region [
    ⟨(some 3), none, .act, .mv (.const (.slice none 0 0))⟩])
  (.seq (.seq (.region [
    ⟨(some 24), none, .act, .mv (.tmp 0)⟩,
    ⟨(some 25), none, .act, .call 13 [(.tmp 24)]⟩,
    ⟨(some 26), none, .act, .len (.tmp 25)⟩,
    ⟨(some 27), none, .act, .mv (.const (.int .i64 0))⟩])
  (.block 0
   (.loop r8l0)))
  (.seq (.seq (.region [
    ⟨(some 55), none, .act, .mv (.tmp 0)⟩,
    ⟨(some 56), none, .act, .len (.tmp 55)⟩,
    ⟨(some 57), none, .act, .mv (.const (.int .i64 0))⟩])
  (.block 4
   (.loop r8l2)))
  (.seq (.seq (.region [
    ⟨(some 107), none, .act, .mv (.tmp 0)⟩,
    ⟨(some 108), none, .act, .len (.tmp 107)⟩,
    ⟨(some 109), none, .act, .mv (.const (.int .i64 0))⟩])
  (.block 8
   (.loop r8l4)))
  (.seq (.region [
    ⟨(some 185), none, .act, .mv (.tmp 3)⟩,
    ⟨(some 2), none, .act, .mv (.tmp 185)⟩])
  .ret))))))
theorem res8 : ∃ c, Try.f8.body = some c ∧ resCode Try.prog 186 c = some r8 := ⟨_, rfl, by kernel_rfl⟩
theorem rr8 : resRes Try.prog Try.f8.results.toList = some [.tmp 2] := by kernel_rfl
theorem w8_in (T : List Run) (hT : T.length ≤ 1000) (h₀ hA : AHeap) (A0 A B C : AV) (outN : List Dep) (k : List RT) (Q : AV → AHeap → Prop)
    (H : ∀ c h, Grow h₀ h c → Keeps hA h → RRun Try.prog Try.f8 186 k (Env.get [(0, A0), (3, outA outN c), (25, A), (26, B), (27, C)]) h Q) : ∀ (m i : Nat) (out : List Dep) (c : Cap) (h : AHeap), T.length ≤ i + m → 1 ≤ i → i ≤ 1001 → out.length + (wwL ((T.map (·.txn)).drop (i - 1))).length ≤ 1000000 → (wwL ((T.map (·.txn)).drop (i - 1))).foldl addD out = outN → Grow h₀ h c → Keeps hA h →
    RRun Try.prog Try.f8 186 (.inLoop r8l1 :: .inBlock 2 :: k) (Env.get [(0, A0), (3, outA out c), (6, runsA T), (7, i64 i), (25, A), (26, B), (27, C)]) h Q := by
  have hlen : (T.map runC).length = T.length := by simp
  have hlen2 : (T.map (·.txn)).length = T.length := by simp
  intro m
  induction m with
  | zero =>
    intro i out c h hi h1 hi2 hN hf hg hk
    rw [wwL_end (by omega)] at hf
    have hf2 : out = outN := hf
    subst hf2
    refine RRun.inLoop ?_
    repeat' (first | refine S.nilK ?_ | (refine S.op rfl ?_; first | refine R.mv rfl ?_ | refine R.len rfl ?_ | ((first | refine S.lss rfl rfl ?_ ?_) <;> intro hlt <;> try (exfalso; omega))) | refine S.seq ?_ | refine S.region ?_ | refine S.condF rfl ?_ | refine RRun.exit rfl ?_)
    all_goals first
      | (exfalso; omega)
      | skip
    exact S.keep [0, 3, 25, 26, 27] rfl (H c h hg hk)
  | succ m ih =>
    intro i out c h hi h1 hi2 hN hf hg hk
    by_cases hlt : i < T.length
    · rw [wwL_drop h1 (by omega)] at hf hN
      simp only [List.length_cons] at hN
      rw [List.foldl_cons] at hf
      have g1 : (T.map fun k => runC k)[(((i : Nat) : Int) - 1).toNat]? = some (runC T[i - 1]) := by
        have e : (((i : Nat) : Int) - 1).toNat = i - 1 := by omega
        rw [e, List.getElem?_map, List.getElem?_eq_getElem (by omega)]; rfl
      have g2 : (T.map fun k => runC k)[((i : Nat) : Int).toNat]? = some (runC T[i]) := by simp [hlt]
      rw [List.getElem_map, List.getElem_map] at hf
      generalize T[i] = y at g2 hf
      generalize T[i - 1] = x at g1 hf
      have cadd := add15_spec out (by omega) c ⟨x.txn, y.txn, 1⟩ h₀ h hg
      have hal := addD_len out ⟨x.txn, y.txn, 1⟩
      refine RRun.inLoop ?_
      repeat' (first | refine S.nilK ?_ | (refine S.op rfl ?_; first | (show ROpS _ _ (.bin .sub _ _) _ _ _; refine S.subI rfl rfl (by omega) ?_) | refine R.indexAddr rfl rfl (by omega) g1 ?_ | refine R.indexAddr rfl rfl (by omega) g2 ?_ | refine R.mv rfl ?_ | refine R.fieldAddrR rfl ?_ | refine R.loadR rfl rfl ?_ | refine R.len rfl ?_ | refine R.build rfl rfl ?_ | ((first | refine S.lss rfl rfl ?_ ?_) <;> intro hlt <;> try (exfalso; omega))) | refine S.seq ?_ | refine S.region ?_ | refine S.condT rfl ?_ | refine RRun.skip ?_ | refine RRun.block ?_)
      all_goals first
        | (exfalso; omega)
        | skip
      refine S.op rfl (R.call rfl (show avs _ _ = some [outA out c, .ag (depC ⟨x.txn, y.txn, 1⟩)] from rfl) (cadd.mono ?_))
      rintro _ h' ⟨c', rfl, hg', hk'⟩
      repeat' (first | refine S.nilK ?_ | (refine S.op rfl ?_; first | refine R.mv rfl ?_ | refine S.addI rfl rfl (by omega) ?_) | refine S.region ?_ | refine RRun.inBlock ?_)
      rw [show ((i : Int) + 1) = ((i + 1 : Nat) : Int) by omega]
      exact S.keep [0, 3, 6, 7, 25, 26, 27] rfl (ih (i + 1) _ c' h' (by omega) (by omega) (by omega) (by simp only [Nat.add_sub_cancel]; omega) (by simp only [Nat.add_sub_cancel]; exact hf) hg' (hk.trans hk'))
    · rw [wwL_end (by omega)] at hf
      have hf2 : out = outN := hf
      subst hf2
      refine RRun.inLoop ?_
      repeat' (first | refine S.nilK ?_ | (refine S.op rfl ?_; first | refine R.mv rfl ?_ | refine R.len rfl ?_ | ((first | refine S.lss rfl rfl ?_ ?_) <;> intro hlt <;> try (exfalso; omega))) | refine S.seq ?_ | refine S.region ?_ | refine S.condF rfl ?_ | refine RRun.exit rfl ?_)
      all_goals first
        | (exfalso; omega)
        | skip
      exact S.keep [0, 3, 25, 26, 27] rfl (H c h hg hk)
theorem w8_out {l : List Run} (F : Few l) (ks : List (List UInt8)) (hks : ks.length ≤ 1000000) (h₀ : AHeap) (outN : List Dep) (k : List RT) (Q : AV → AHeap → Prop)
    (H : ∀ c h, Grow h₀ h c → RRun Try.prog Try.f8 186 k (Env.get [(0, runsA l), (3, outA outN c)]) h Q) : ∀ (n i : Nat) (out : List Dep) (c : Cap) (h : AHeap), i + n = ks.length → (depsW l (ks.drop i)).foldl addD out = outN → out.length + (depsW l (ks.drop i)).length ≤ 1000000 → Grow h₀ h c →
    RRun Try.prog Try.f8 186 (.inLoop r8l0 :: .inBlock 0 :: k) (Env.get [(0, runsA l), (3, outA out c), (25, keysA ks), (26, i64 ks.length), (27, i64 i)]) h Q := by
  have hfl := F.len
  intro n
  induction n with
  | zero =>
    intro i out c h hi hf hN hg
    rw [List.drop_of_length_le (by omega)] at hf
    have hf2 : out = outN := hf
    subst hf2
    refine RRun.inLoop ?_
    repeat' (first | refine S.nilK ?_ | (refine S.op rfl ?_; first | ((first | refine S.lss rfl rfl ?_ ?_) <;> intro hlt <;> try (exfalso; omega))) | refine S.seq ?_ | refine S.region ?_ | refine S.condF rfl ?_ | refine RRun.exit rfl ?_)
    exact S.keep [0, 3] rfl (H c h hg)
  | succ n ih =>
    intro i out c h hi hf hN hg
    have hie : i < ks.length := by omega
    have h1 : (ks.map fun k => [bys k])[((i : Nat) : Int).toNat]? = some [bys ks[i]] := by simp [hie]
    rw [List.drop_eq_getElem_cons hie, depsW_cons] at hf hN
    rw [List.foldl_append] at hf
    rw [List.length_append] at hN
    generalize ks[i] = key at h1 hf hN
    have hol := wrote_len l key
    have ho : order l key = (wrote l key).map (·.txn) := rfl
    rw [ho] at hf hN
    have co := rwrote_spec F key
    generalize wrote l key = T at hf hN hol co
    have ha := addDs_len (wwL (T.map (·.txn))) out
    refine RRun.inLoop ?_
    repeat' (first | ((show RRunG _ _ _ (.code (.loop r8l1) :: _) _ _ _; refine Halt.h ?_)) | refine S.nilK ?_ | (refine S.op rfl ?_; first | refine R.indexAddr rfl rfl (by omega) h1 ?_ | refine R.callQ (by decide) rfl (co _) ?_ | refine R.mv rfl ?_ | refine R.loadR rfl rfl ?_ | ((first | refine S.lss rfl rfl ?_ ?_) <;> intro hlt <;> try (exfalso; omega))) | refine S.seq ?_ | refine S.region ?_ | refine S.condT rfl ?_ | refine RRun.skip ?_ | refine RRun.block ?_)
    refine ⟨?_⟩
    refine RRun.loopIn (S.keep [0, 3, 6, 7, 25, 26, 27] rfl (w8_in T (by omega) h₀ h _ _ _ _ _ _ _ (fun c2 h2 hg2 hk2 => ?_) T.length 1 out c h (by omega) (by omega) (by omega) (by simp only [Nat.sub_self, List.drop_zero]; omega) rfl hg (Keeps.refl _)))
    simp only [Nat.sub_self, List.drop_zero]
    repeat' (first | refine S.nilK ?_ | (refine S.op rfl ?_; first | refine R.mv rfl ?_ | refine S.addI rfl rfl (by omega) ?_) | refine S.region ?_ | refine RRun.inBlock ?_)
    rw [show ((i : Int) + 1) = ((i + 1 : Nat) : Int) by omega]
    exact S.keep [0, 3, 25, 26, 27] rfl (ih (i + 1) _ c2 h2 (by omega) hf (by omega) hg2)
theorem r8_in {l : List Run} (F : Few l) (r : Run) (rb : Nat) (S0 : List Seen) (hS : S0.length ≤ 1000000) (h₀ hA : AHeap) (hrb : hA rb = some (.box (runC r))) (A B C : AV) (outN : List Dep) (k : List RT) (Q : AV → AHeap → Prop)
    (H : ∀ c h, Grow h₀ h c → RRun Try.prog Try.f8 186 k (Env.get [(0, runsA l), (3, outA outN c), (55, A), (56, B), (57, C)]) h Q) : ∀ (n i : Nat) (out : List Dep) (c : Cap) (h : AHeap), i + n = S0.length → (readsL l r (S0.drop i)).foldl addD out = outN → out.length + (readsL l r (S0.drop i)).length ≤ 1000000 → Grow h₀ h c → Keeps hA h →
    RRun Try.prog Try.f8 186 (.inLoop r8l3 :: .inBlock 6 :: k) (Env.get [(0, runsA l), (3, outA out c), (9, ptr rb), (55, A), (56, B), (57, C), (62, seenA S0), (63, i64 S0.length), (64, i64 i)]) h Q := by
  have hfl := F.len
  intro n
  induction n with
  | zero =>
    intro i out c h hi hf hN hg hk
    rw [List.drop_of_length_le (by omega)] at hf
    have hf2 : out = outN := hf
    subst hf2
    refine RRun.inLoop ?_
    repeat' (first | refine S.nilK ?_ | (refine S.op rfl ?_; first | ((first | refine S.lss rfl rfl ?_ ?_) <;> intro hlt <;> try (exfalso; omega))) | refine S.seq ?_ | refine S.region ?_ | refine S.condF rfl ?_ | refine RRun.exit rfl ?_)
    exact S.keep [0, 3, 55, 56, 57] rfl (H c h hg)
  | succ n ih =>
    intro i out c h hi hf hN hg hk
    have hie : i < S0.length := by omega
    have h1 : (S0.map seenC)[((i : Nat) : Int).toNat]? = some (seenC S0[i]) := by simp [hie]
    rw [List.drop_eq_getElem_cons hie, readsL_cons] at hf hN
    generalize S0[i] = s at h1 hf hN
    have cc := rfind_spec l (by omega) s.txn
    have hcm : commit r = decide (r.state = 1) := rfl
    have hc2 : (commT l s.txn).2 = ((findT l s.txn).2 && decide ((findT l s.txn).1.state = 1)) := rfl
    have n0 := fun (e : (commT l s.txn).2 = false) => readD_no1 (r := r) e
    have n4 := fun (e : commit r = false) => readD_no0 (l := l) (s := s) e
    have n2 := readD_yes (l := l) (r := r) (s := s)
    rw [hc2] at n0 n2
    generalize findT l s.txn = p at cc n0 n2
    obtain ⟨rr, w⟩ := p
    simp only at n0 n2
    replace cc : ∀ h, ACalls Try.prog 16 [runsA l, u64 s.txn] h (fun x h' => x = .tu [.ag (runC rr), bl w] ∧ h' = h) := cc
    have hrb' := hk _ _ hrb
    have hnext := fun out2 (hf2 : (readsL l r (S0.drop (i + 1))).foldl addD out2 = outN) hN2 c h' g k' => ih (i + 1) out2 c h' (by omega) hf2 hN2 g k'
    clear ih
    refine RRun.inLoop ?_
    by_cases hyes : r.state = 1 ∧ w = true ∧ rr.state = 1 ∧ 0 < s.ts.toNat ∧ s.txn.toNat ≠ r.txn.toNat
    · obtain ⟨y1, y2, y3, y4, y5⟩ := hyes
      rw [n2 (by rw [hcm, decide_eq_true y1]) (by rw [y2, decide_eq_true y3]; rfl) y4 y5] at hf hN
      simp only [List.length_cons] at hN
      rw [List.foldl_cons] at hf
      subst y2
      have hal := addD_len out ⟨s.txn, r.txn, 2⟩
      repeat' (first | ((show RChain _ (⟨(some 104), _, _, _⟩ :: _) _ _ _; refine Halt.h ?_)) | refine S.nilK ?_ | (refine S.op rfl ?_; first | refine R.indexAddr rfl rfl (by omega) h1 ?_ | refine R.callQ (by decide) rfl (cc _) ?_ | refine R.mv rfl ?_ | refine R.fieldAddr rfl ?_ | refine R.loadR rfl rfl ?_ | refine R.load (by decide) rfl (by (repeat' (first | assumption | exact AHeap.set_same _ _ _ | refine AHeap.get_fresh ‹_› ?_)); first | done | fail) rfl ?_ | refine R.pickT rfl rfl ?_ | refine R.extract rfl rfl ?_ | refine R.alloc rfl (fun b hb => ?_) | refine R.build rfl rfl ?_ | ((first | refine S.lss rfl rfl ?_ ?_ | refine S.gtr rfl rfl ?_ ?_ | refine S.eqInt rfl rfl ?_ ?_) <;> intro hlt <;> try (exfalso; omega))) | (refine S.op0 rfl ?_; first | refine S.storeS rfl rfl rfl (by rfl) rfl (by first | decide | exact Nat.le_refl _ | exact Nat.le_of_ble_eq_true rfl) ?_) | refine S.seq ?_ | refine S.region ?_ | refine S.condT rfl ?_ | refine RRun.skip ?_ | refine RRun.block ?_)
      all_goals first
        | (exfalso; omega)
        | skip
      refine ⟨?_⟩
      have cadd := add15_spec out (by omega) c ⟨s.txn, r.txn, 2⟩ h₀ _ ((hg.base (.box (seenC s)) (by assumption)).base (.box (runC rr)) (by assumption))
      refine S.op rfl (R.call rfl (show avs _ _ = some [outA out c, .ag (depC ⟨s.txn, r.txn, 2⟩)] from rfl) (cadd.mono ?_))
      rintro _ h' ⟨c', rfl, hg', hk'⟩
      repeat' (first | refine S.nilK ?_ | (refine S.op rfl ?_; first | refine R.mv rfl ?_ | refine S.addI rfl rfl (by omega) ?_) | refine S.region ?_ | refine RRun.inBlock ?_)
      rw [show ((i : Int) + 1) = ((i + 1 : Nat) : Int) by omega]
      exact S.keep [0, 3, 9, 55, 56, 57, 62, 63, 64] rfl (hnext _ hf (by omega) c' h' hg' (((hk.loc _ (by assumption)).loc _ (by assumption)).trans hk'))
    · have hno : readD l r s = none := by
        by_cases y1 : r.state = 1
        · cases w with
          | false => exact n0 rfl
          | true =>
            by_cases y3 : rr.state = 1
            · by_cases y4 : 0 < s.ts.toNat
              · by_cases y5 : s.txn.toNat = r.txn.toNat
                · exact readD_no3 y5
                · exact absurd ⟨y1, rfl, y3, y4, y5⟩ hyes
              · exact readD_no2 y4
            · exact n0 (by rw [decide_eq_false y3]; rfl)
        · exact n4 (by rw [hcm, decide_eq_false y1])
      rw [hno] at hf hN
      clear n0 n2 n4 hno
      have hno2 : ¬ (r.state = 1 ∧ rr.state = 1 ∧ 0 < s.ts.toNat ∧ s.txn.toNat ≠ r.txn.toNat) ∨ w = false := by
        cases w with
        | false => exact .inr rfl
        | true => exact .inl fun e => hyes ⟨e.1, rfl, e.2.1, e.2.2.1, e.2.2.2⟩
      clear hyes
      have fin1 := fun h' g k' => hnext out hf hN c h' g k'
      cases w with
      | false =>
        repeat' (first | refine S.nilK ?_ | (refine S.op rfl ?_; first | refine R.indexAddr rfl rfl (by omega) h1 ?_ | refine R.callQ (by decide) rfl (cc _) ?_ | refine R.mv rfl ?_ | refine R.fieldAddr rfl ?_ | refine R.loadR rfl rfl ?_ | refine R.load (by decide) rfl (by (repeat' (first | assumption | exact AHeap.set_same _ _ _ | refine AHeap.get_fresh ‹_› ?_)); first | done | fail) rfl ?_ | refine S.addI rfl rfl (by omega) ?_ | refine R.pickT rfl rfl ?_ | refine R.pickF rfl rfl ?_ | refine R.extract rfl rfl ?_ | refine R.alloc rfl (fun b hb => ?_) | ((first | refine S.lss rfl rfl ?_ ?_ | refine S.eqInt rfl rfl ?_ ?_) <;> intro hlt <;> try (exfalso; omega))) | (refine S.op0 rfl ?_; first | refine S.storeS rfl rfl rfl (by rfl) rfl (by first | decide | exact Nat.le_refl _ | exact Nat.le_of_ble_eq_true rfl) ?_) | refine S.skip rfl ?_ | refine S.seq ?_ | refine S.region ?_ | refine S.condT rfl ?_ | refine S.condF rfl ?_ | refine RRun.skip ?_ | refine RRun.block ?_ | refine RRun.inBlock ?_)
        all_goals
          rw [show ((i : Int) + 1) = ((i + 1 : Nat) : Int) by omega]
          exact S.keep [0, 3, 9, 55, 56, 57, 62, 63, 64] rfl (fin1 _ ((hg.base _ (by assumption)).base _ (by assumption)) ((hk.loc _ (by assumption)).loc _ (by assumption)))
      | true =>
        have hno3 : ¬ (r.state = 1 ∧ rr.state = 1 ∧ 0 < s.ts.toNat ∧ s.txn.toNat ≠ r.txn.toNat) := hno2.resolve_right (by decide)
        repeat' (first | refine S.nilK ?_ | (refine S.op rfl ?_; first | refine R.indexAddr rfl rfl (by omega) h1 ?_ | refine R.callQ (by decide) rfl (cc _) ?_ | refine R.mv rfl ?_ | refine R.fieldAddr rfl ?_ | refine R.loadR rfl rfl ?_ | refine R.load (by decide) rfl (by (repeat' (first | assumption | exact AHeap.set_same _ _ _ | refine AHeap.get_fresh ‹_› ?_)); first | done | fail) rfl ?_ | refine S.addI rfl rfl (by omega) ?_ | refine R.pickT rfl rfl ?_ | refine R.pickF rfl rfl ?_ | refine R.extract rfl rfl ?_ | refine R.alloc rfl (fun b hb => ?_) | ((first | refine S.lss rfl rfl ?_ ?_ | refine S.gtr rfl rfl ?_ ?_ | refine S.eqInt rfl rfl ?_ ?_) <;> intro hlt <;> try (exfalso; omega))) | (refine S.op0 rfl ?_; first | refine S.storeS rfl rfl rfl (by rfl) rfl (by first | decide | exact Nat.le_refl _ | exact Nat.le_of_ble_eq_true rfl) ?_) | refine S.skip rfl ?_ | refine S.seq ?_ | refine S.region ?_ | refine S.condT rfl ?_ | refine S.condF rfl ?_ | refine RRun.skip ?_ | refine RRun.block ?_ | refine RRun.inBlock ?_)
        all_goals first
          | (exfalso; omega)
          | skip
        all_goals
          rw [show ((i : Int) + 1) = ((i + 1 : Nat) : Int) by omega]
          exact S.keep [0, 3, 9, 55, 56, 57, 62, 63, 64] rfl (fin1 _ ((hg.base _ (by assumption)).base _ (by assumption)) ((hk.loc _ (by assumption)).loc _ (by assumption)))
theorem r8_out {l : List Run} (F : Few l) (h₀ : AHeap) (outN : List Dep) (k : List RT) (Q : AV → AHeap → Prop)
    (H : ∀ c h, Grow h₀ h c → RRun Try.prog Try.f8 186 k (Env.get [(0, runsA l), (3, outA outN c)]) h Q) : ∀ (n i : Nat) (out : List Dep) (c : Cap) (h : AHeap), i + n = l.length → ((l.drop i).flatMap (fun r => r.seen.filterMap (readD l r))).foldl addD out = outN → out.length + ((l.drop i).flatMap (fun r => r.seen.filterMap (readD l r))).length ≤ 1000000 → Grow h₀ h c →
    RRun Try.prog Try.f8 186 (.inLoop r8l2 :: .inBlock 4 :: k) (Env.get [(0, runsA l), (3, outA out c), (55, runsA l), (56, i64 l.length), (57, i64 i)]) h Q := by
  have hfl := F.len
  intro n
  induction n with
  | zero =>
    intro i out c h hi hf hN hg
    rw [List.drop_of_length_le (by omega)] at hf
    have hf2 : out = outN := hf
    subst hf2
    refine RRun.inLoop ?_
    repeat' (first | refine S.nilK ?_ | (refine S.op rfl ?_; first | ((first | refine S.lss rfl rfl ?_ ?_) <;> intro hlt <;> try (exfalso; omega))) | refine S.seq ?_ | refine S.region ?_ | refine S.condF rfl ?_ | refine RRun.exit rfl ?_)
    exact S.keep [0, 3] rfl (H c h hg)
  | succ n ih =>
    intro i out c h hi hf hN hg
    have hie : i < l.length := by omega
    have h1 : (l.map fun k => runC k)[((i : Nat) : Int).toNat]? = some (runC l[i]) := by simp [hie]
    have hsl := F.seen l[i] (List.getElem_mem hie)
    rw [List.drop_eq_getElem_cons hie, depsR_cons] at hf hN
    rw [List.foldl_append] at hf
    rw [List.length_append] at hN
    generalize l[i] = r at h1 hf hN hsl
    have ha := addDs_len (readsL l r r.seen) out
    have hlen : (r.seen.map seenC).length = r.seen.length := by simp
    refine RRun.inLoop ?_
    repeat' (first | ((show RRunG _ _ _ (.code (.loop r8l3) :: _) _ _ _; refine Halt.h ?_)) | refine S.nilK ?_ | (refine S.op rfl ?_; first | refine R.indexAddr rfl rfl (by omega) h1 ?_ | refine R.mv rfl ?_ | refine R.fieldAddr rfl ?_ | refine R.loadR rfl rfl ?_ | refine R.load (by decide) rfl (by (repeat' (first | exact AHeap.set_same _ _ _)); first | done | fail) rfl ?_ | refine R.len rfl ?_ | refine R.alloc rfl (fun b hb => ?_) | ((first | refine S.lss rfl rfl ?_ ?_) <;> intro hlt <;> try (exfalso; omega))) | (refine S.op0 rfl ?_; first | refine S.storeS rfl rfl rfl (by rfl) rfl (by first | decide | exact Nat.le_refl _ | exact Nat.le_of_ble_eq_true rfl) ?_) | refine S.seq ?_ | refine S.region ?_ | refine S.condT rfl ?_ | refine RRun.skip ?_ | refine RRun.block ?_)
    refine ⟨?_⟩
    revert b hb
    intro rb hrb
    rw [hlen]
    refine RRun.loopIn (S.keep [0, 3, 9, 55, 56, 57, 62, 63, 64] rfl (r8_in F r rb r.seen (by omega) h₀ (h.set rb (.box (runC r))) (AHeap.set_same _ _ _) _ _ _ ((readsL l r r.seen).foldl addD out) _ _ (fun c2 h2 hg2 => ?_) r.seen.length 0 out c _ (by omega) rfl (by rw [List.drop_zero]; omega) (hg.base _ hrb) (Keeps.refl _)))
    repeat' (first | refine S.nilK ?_ | (refine S.op rfl ?_; first | refine R.mv rfl ?_ | refine S.addI rfl rfl (by omega) ?_) | refine S.region ?_ | refine RRun.inBlock ?_)
    rw [show ((i : Int) + 1) = ((i + 1 : Nat) : Int) by omega]
    exact S.keep [0, 3, 55, 56, 57] rfl (ih (i + 1) _ c2 h2 (by omega) hf (by omega) hg2)
end Go.Proofs.Ythfolomknkobkaa

namespace Go.Proofs.Ythfolomknkobkaa
open Go.Av
open Go.Ad (Seen Span Run Dep addD wrote commit readT overD serial spanned next deps depsO depsR depsW)
theorem t8_loop (key : List UInt8) (S0 : List Seen) (hl : S0.length ≤ 1000000) (h : AHeap) (a0 a3 a15 a107 a108 a109 a122 a123 a124 : AV) (k : List RT) (Q : AV → AHeap → Prop)
    (H : RRun Try.prog Try.f8 186 k (Env.get [(0, a0), (3, a3), (15, a15), (17, bys key), (18, u64 (S0.foldl (fun ts s => if s.key = key ∧ ts < s.ts then s.ts else ts) 0)), (107, a107), (108, a108), (109, a109), (122, a122), (123, a123), (124, a124)]) h Q) : ∀ (m i : Nat) (ts : UInt64), i + m = S0.length → (S0.drop i).foldl (fun ts s => if s.key = key ∧ ts < s.ts then s.ts else ts) ts = S0.foldl (fun ts s => if s.key = key ∧ ts < s.ts then s.ts else ts) 0 →
    RRun Try.prog Try.f8 186 (.inLoop r8l6 :: .inBlock 12 :: k) (Env.get [(0, a0), (3, a3), (15, a15), (17, bys key), (18, u64 ts), (107, a107), (108, a108), (109, a109), (122, a122), (123, a123), (124, a124), (133, seenA S0), (134, i64 S0.length), (135, i64 i)]) h Q := by
  intro m
  induction m with
  | zero =>
    intro i ts hi hf
    rw [List.drop_of_length_le (by omega), List.foldl_nil] at hf
    subst hf
    refine RRun.inLoop ?_
    repeat' (first | refine S.nilK ?_ | (refine S.op rfl ?_; first | ((first | refine S.lss rfl rfl ?_ ?_) <;> intro hlt <;> try (exfalso; omega))) | refine S.seq ?_ | refine S.region ?_ | refine S.condF rfl ?_ | refine RRun.exit rfl ?_)
    exact S.keep [0, 3, 15, 17, 18, 107, 108, 109, 122, 123, 124] rfl H
  | succ m ih =>
    intro i ts hi hf
    have hie : i < S0.length := by omega
    have h1 : (S0.map seenC)[((i : Nat) : Int).toNat]? = some (seenC S0[i]) := by simp [hie]
    rw [List.drop_eq_getElem_cons hie, List.foldl_cons] at hf
    generalize S0[i] = s at h1 hf
    have ihn := fun ts hf => ih (i + 1) ts (by omega) hf
    clear ih H
    refine RRun.inLoop ?_
    by_cases hk : s.key = key
    · have hd := decide_eq_true hk
      by_cases hlt : ts < s.ts
      · rw [if_pos ⟨hk, hlt⟩] at hf
        have hl2 := UInt64.lt_iff_toNat_lt.1 hlt
        repeat' (first | refine S.nilK ?_ | (refine S.op rfl ?_; first | refine R.indexAddr rfl rfl (by omega) h1 ?_ | refine R.toStr (l := s.key) rfl ?_ | refine R.toStr (l := key) rfl ?_ | (refine S.eqStrD (a := s.key) (b := key) rfl rfl ?_; rw [hd]) | refine R.mv rfl ?_ | refine R.fieldAddr rfl ?_ | refine R.loadR rfl rfl ?_ | refine R.load (by decide) rfl (by (repeat' (first | exact AHeap.set_same _ _ _)); first | done | fail) rfl ?_ | refine S.addI rfl rfl (by omega) ?_ | refine R.pickT rfl rfl ?_ | refine R.alloc rfl (fun b hb => ?_) | ((first | refine S.lss rfl rfl ?_ ?_ | refine S.gtr rfl rfl ?_ ?_) <;> intro hlt <;> try (exfalso; omega))) | (refine S.op0 rfl ?_; first | refine S.storeS rfl rfl rfl (by rfl) rfl (by first | decide | exact Nat.le_refl _ | exact Nat.le_of_ble_eq_true rfl) ?_) | refine S.seq ?_ | refine S.region ?_ | refine S.condT rfl ?_ | refine RRun.skip ?_ | refine RRun.block ?_ | refine RRun.inBlock ?_)
        all_goals first
          | (exfalso; omega)
          | skip
        rw [show ((i : Int) + 1) = ((i + 1 : Nat) : Int) by omega]
        exact S.keep [0, 3, 15, 17, 18, 107, 108, 109, 122, 123, 124, 133, 134, 135] rfl (S.drop (by repeat (first | exact AHeap.le.refl _ | refine AHeap.le.set ?_ _ (by (repeat' (first | assumption)); first | done | fail))) (ihn _ hf))
      · rw [if_neg (fun e => hlt e.2)] at hf
        have hl2 : ¬ ts.toNat < s.ts.toNat := fun e => hlt (UInt64.lt_iff_toNat_lt.2 e)
        repeat' (first | refine S.nilK ?_ | (refine S.op rfl ?_; first | refine R.indexAddr rfl rfl (by omega) h1 ?_ | refine R.toStr (l := s.key) rfl ?_ | refine R.toStr (l := key) rfl ?_ | (refine S.eqStrD (a := s.key) (b := key) rfl rfl ?_; rw [hd]) | refine R.mv rfl ?_ | refine R.fieldAddr rfl ?_ | refine R.loadR rfl rfl ?_ | refine R.load (by decide) rfl (by (repeat' (first | exact AHeap.set_same _ _ _)); first | done | fail) rfl ?_ | refine S.addI rfl rfl (by omega) ?_ | refine R.pickT rfl rfl ?_ | refine R.alloc rfl (fun b hb => ?_) | ((first | refine S.lss rfl rfl ?_ ?_ | refine S.gtr rfl rfl ?_ ?_) <;> intro hlt <;> try (exfalso; omega))) | (refine S.op0 rfl ?_; first | refine S.storeS rfl rfl rfl (by rfl) rfl (by first | decide | exact Nat.le_refl _ | exact Nat.le_of_ble_eq_true rfl) ?_) | refine S.seq ?_ | refine S.region ?_ | refine S.condT rfl ?_ | refine S.condF rfl ?_ | refine RRun.skip ?_ | refine RRun.block ?_ | refine RRun.inBlock ?_)
        all_goals first
          | (exfalso; omega)
          | skip
        rw [show ((i : Int) + 1) = ((i + 1 : Nat) : Int) by omega]
        exact S.keep [0, 3, 15, 17, 18, 107, 108, 109, 122, 123, 124, 133, 134, 135] rfl (S.drop (by repeat (first | exact AHeap.le.refl _ | refine AHeap.le.set ?_ _ (by (repeat' (first | assumption)); first | done | fail))) (ihn _ hf))
    · have hd := decide_eq_false hk
      rw [if_neg (fun e => hk e.1)] at hf
      repeat' (first | refine S.nilK ?_ | (refine S.op rfl ?_; first | refine R.indexAddr rfl rfl (by omega) h1 ?_ | refine R.toStr (l := s.key) rfl ?_ | refine R.toStr (l := key) rfl ?_ | (refine S.eqStrD (a := s.key) (b := key) rfl rfl ?_; rw [hd]) | refine R.mv rfl ?_ | refine R.fieldAddr rfl ?_ | refine R.loadR rfl rfl ?_ | refine R.load (by decide) rfl (by (repeat' (first | exact AHeap.set_same _ _ _)); first | done | fail) rfl ?_ | refine S.addI rfl rfl (by omega) ?_ | refine R.pickF rfl rfl ?_ | refine R.alloc rfl (fun b hb => ?_) | ((first | refine S.lss rfl rfl ?_ ?_) <;> intro hlt <;> try (exfalso; omega))) | (refine S.op0 rfl ?_; first | refine S.storeS rfl rfl rfl (by rfl) rfl (by first | decide | exact Nat.le_refl _ | exact Nat.le_of_ble_eq_true rfl) ?_) | refine S.skip rfl ?_ | refine S.seq ?_ | refine S.region ?_ | refine S.condT rfl ?_ | refine S.condF rfl ?_ | refine RRun.skip ?_ | refine RRun.block ?_ | refine RRun.inBlock ?_)
      all_goals first
        | (exfalso; omega)
        | skip
      rw [show ((i : Int) + 1) = ((i + 1 : Nat) : Int) by omega]
      exact S.keep [0, 3, 15, 17, 18, 107, 108, 109, 122, 123, 124, 133, 134, 135] rfl (S.drop (by repeat (first | exact AHeap.le.refl _ | refine AHeap.le.set ?_ _ (by (repeat' (first | assumption)); first | done | fail))) (ihn _ hf))
def overF (r : Run) (p : UInt64 × Bool) (out : List Dep) : List Dep := if p.2 = true ∧ p.1 ≠ r.txn then addD out ⟨r.txn, p.1, 3⟩ else out
theorem n8_done (T : List Run) (hT : T.length ≤ 1000000) (ts : UInt64) (h : AHeap) (a0 a3 a15 a107 a108 a109 a122 a123 a124 : AV) (k : List RT) (Q : AV → AHeap → Prop)
    (H : RRun Try.prog Try.f8 186 k (Env.get [(0, a0), (3, a3), (15, a15), (107, a107), (108, a108), (109, a109), (122, a122), (123, a123), (124, a124)]) h Q) : ∀ (m i : Nat), i + m = T.length →
    RRun Try.prog Try.f8 186 (.inLoop r8l7 :: .inBlock 14 :: k) (Env.get [(0, a0), (3, a3), (15, a15), (18, u64 ts), (21, bl true), (107, a107), (108, a108), (109, a109), (122, a122), (123, a123), (124, a124), (156, runsA T), (157, i64 T.length), (158, i64 i)]) h Q := by
  intro m
  induction m with
  | zero =>
    intro i hi
    refine RRun.inLoop ?_
    repeat' (first | refine S.nilK ?_ | (refine S.op rfl ?_; first | ((first | refine S.lss rfl rfl ?_ ?_) <;> intro hlt <;> try (exfalso; omega))) | refine S.seq ?_ | refine S.region ?_ | refine S.condF rfl ?_ | refine RRun.exit rfl ?_)
    exact S.keep [0, 3, 15, 107, 108, 109, 122, 123, 124] rfl H
  | succ m ih =>
    intro i hi
    have hie : i < T.length := by omega
    have h1 : (T.map runC)[((i : Nat) : Int).toNat]? = some (runC T[i]) := by simp [hie]
    generalize T[i] = w at h1
    refine RRun.inLoop ?_
    repeat' (first | refine S.nilK ?_ | (refine S.op rfl ?_; first | refine R.indexAddr rfl rfl (by omega) h1 ?_ | refine R.mv rfl ?_ | refine R.loadR rfl rfl ?_ | refine S.addI rfl rfl (by omega) ?_ | refine R.pickF rfl rfl ?_ | refine R.not rfl ?_ | refine R.alloc rfl (fun b hb => ?_) | ((first | refine S.lss rfl rfl ?_ ?_) <;> intro hlt <;> try (exfalso; omega))) | (refine S.op0 rfl ?_; first | refine S.storeS rfl rfl rfl (by rfl) rfl (by first | decide | exact Nat.le_refl _ | exact Nat.le_of_ble_eq_true rfl) ?_) | refine S.skip rfl ?_ | refine S.seq ?_ | refine S.region ?_ | refine S.condT rfl ?_ | refine S.condF rfl ?_ | refine RRun.skip ?_ | refine RRun.block ?_ | refine RRun.inBlock ?_)
    rw [show ((i : Int) + 1) = ((i + 1 : Nat) : Int) by omega]
    exact S.keep [0, 3, 15, 18, 21, 107, 108, 109, 122, 123, 124, 156, 157, 158] rfl (S.drop (by repeat (first | exact AHeap.le.refl _ | refine AHeap.le.set ?_ _ (by (repeat' (first | assumption)); first | done | fail))) (ih (i + 1) (by omega)))
theorem n8_loop (r : Run) (rb : Nat) (T : List Run) (hT : T.length ≤ 1000) (ts : UInt64) (h₀ hA : AHeap) (hrb : hA rb = some (.box (runC r))) (out : List Dep) (hN : out.length ≤ 1000000) (a0 a107 a108 a109 a122 a123 a124 : AV) (k : List RT) (Q : AV → AHeap → Prop)
    (H : ∀ c h, Grow h₀ h c → Keeps hA h → RRun Try.prog Try.f8 186 k (Env.get [(0, a0), (3, outA (overF r (nextF ts T) out) c), (15, ptr rb), (107, a107), (108, a108), (109, a109), (122, a122), (123, a123), (124, a124)]) h Q) : ∀ (m i : Nat) (c : Cap) (h : AHeap), i + m = T.length → nextF ts (T.drop i) = nextF ts T → Grow h₀ h c → Keeps hA h →
    RRun Try.prog Try.f8 186 (.inLoop r8l7 :: .inBlock 14 :: k) (Env.get [(0, a0), (3, outA out c), (15, ptr rb), (18, u64 ts), (21, bl false), (107, a107), (108, a108), (109, a109), (122, a122), (123, a123), (124, a124), (156, runsA T), (157, i64 T.length), (158, i64 i)]) h Q := by
  intro m
  induction m with
  | zero =>
    intro i c h hi hf hg hk
    rw [List.drop_of_length_le (by omega)] at hf
    have e : overF r (nextF ts T) out = out := by rw [← hf]; rfl
    rw [e] at H
    refine RRun.inLoop ?_
    repeat' (first | refine S.nilK ?_ | (refine S.op rfl ?_; first | ((first | refine S.lss rfl rfl ?_ ?_) <;> intro hlt <;> try (exfalso; omega))) | refine S.seq ?_ | refine S.region ?_ | refine S.condF rfl ?_ | refine RRun.exit rfl ?_)
    exact S.keep [0, 3, 15, 107, 108, 109, 122, 123, 124] rfl (H c h hg hk)
  | succ m ih =>
    intro i c h hi hf hg hk
    have hie : i < T.length := by omega
    have h1 : (T.map runC)[((i : Nat) : Int).toNat]? = some (runC T[i]) := by simp [hie]
    rw [List.drop_eq_getElem_cons hie] at hf
    generalize T[i] = w at h1 hf
    have hrb2 := hk _ _ hrb
    have ihn := ih (i + 1)
    clear ih
    refine RRun.inLoop ?_
    by_cases hlt : ts < w.ts
    · have hl2 := UInt64.lt_iff_toNat_lt.1 hlt
      simp only [nextF, if_pos hlt] at hf
      rw [← hf] at H
      by_cases hx : w.txn.toNat = r.txn.toNat
      · have e : overF r (w.txn, true) out = out := by unfold overF; rw [if_neg (fun e => e.2 (UInt64.toNat_inj.1 hx))]
        rw [e] at H
        repeat' (first | refine S.nilK ?_ | (refine S.op rfl ?_; first | refine R.indexAddr rfl rfl (by omega) h1 ?_ | refine R.mv rfl ?_ | refine R.fieldAddr rfl ?_ | refine R.loadR rfl rfl ?_ | refine R.load (by decide) rfl (by (repeat' (first | assumption | exact AHeap.set_same _ _ _ | refine AHeap.get_fresh ‹_› ?_)); first | done | fail) rfl ?_ | refine S.addI rfl rfl (by omega) ?_ | refine R.pickT rfl rfl ?_ | refine R.not rfl ?_ | refine R.alloc rfl (fun b hb => ?_) | ((first | refine S.lss rfl rfl ?_ ?_ | refine S.gtr rfl rfl ?_ ?_ | refine S.eqInt rfl rfl ?_ ?_) <;> intro hlt <;> try (exfalso; omega))) | (refine S.op0 rfl ?_; first | refine S.storeS rfl rfl rfl (by rfl) rfl (by first | decide | exact Nat.le_refl _ | exact Nat.le_of_ble_eq_true rfl) ?_) | refine S.seq ?_ | refine S.region ?_ | refine S.condT rfl ?_ | refine S.condF rfl ?_ | refine RRun.skip ?_ | refine RRun.block ?_ | refine RRun.inBlock ?_)
        all_goals first
          | (exfalso; omega)
          | skip
        rw [show ((i : Int) + 1) = ((i + 1 : Nat) : Int) by omega]
        exact S.keep [0, 3, 15, 18, 21, 107, 108, 109, 122, 123, 124, 156, 157, 158] rfl (n8_done T (by omega) ts _ _ _ _ _ _ _ _ _ _ _ _ (H c _ (hg.base _ hb) (hk.loc _ hb)) m (i + 1) (by omega))
      · have e : overF r (w.txn, true) out = addD out ⟨r.txn, w.txn, 3⟩ := by unfold overF; rw [if_pos ⟨rfl, fun e => hx (congrArg UInt64.toNat e)⟩]
        rw [e] at H
        repeat' (first | ((show RChain _ (⟨(some 181), _, _, _⟩ :: _) _ _ _; refine Halt.h ?_)) | refine S.nilK ?_ | (refine S.op rfl ?_; first | refine R.indexAddr rfl rfl (by omega) h1 ?_ | refine R.mv rfl ?_ | refine R.fieldAddr rfl ?_ | refine R.loadR rfl rfl ?_ | refine R.load (by decide) rfl (by (repeat' (first | assumption | exact AHeap.set_same _ _ _ | refine AHeap.get_fresh ‹_› ?_)); first | done | fail) rfl ?_ | refine R.pickT rfl rfl ?_ | refine R.not rfl ?_ | refine R.alloc rfl (fun b hb => ?_) | refine R.build rfl rfl ?_ | ((first | refine S.lss rfl rfl ?_ ?_ | refine S.gtr rfl rfl ?_ ?_ | refine S.eqInt rfl rfl ?_ ?_) <;> intro hlt <;> try (exfalso; omega))) | (refine S.op0 rfl ?_; first | refine S.storeS rfl rfl rfl (by rfl) rfl (by first | decide | exact Nat.le_refl _ | exact Nat.le_of_ble_eq_true rfl) ?_) | refine S.seq ?_ | refine S.region ?_ | refine S.condT rfl ?_ | refine RRun.skip ?_ | refine RRun.block ?_)
        all_goals first
          | (exfalso; omega)
          | skip
        refine ⟨?_⟩
        have cadd := add15_spec out (by omega) c ⟨r.txn, w.txn, 3⟩ h₀ _ (hg.base (.box (runC w)) (by assumption))
        refine S.op rfl (R.call rfl (show avs _ _ = some [outA out c, .ag (depC ⟨r.txn, w.txn, 3⟩)] from rfl) (cadd.mono ?_))
        rintro _ h' ⟨c', rfl, hg', hk'⟩
        repeat' (first | refine S.nilK ?_ | (refine S.op rfl ?_; first | refine R.mv rfl ?_ | refine S.addI rfl rfl (by omega) ?_) | refine S.region ?_ | refine RRun.inBlock ?_)
        rw [show ((i : Int) + 1) = ((i + 1 : Nat) : Int) by omega]
        exact S.keep [0, 3, 15, 18, 21, 107, 108, 109, 122, 123, 124, 156, 157, 158] rfl (n8_done T (by omega) ts _ _ _ _ _ _ _ _ _ _ _ _ (H c' _ hg' ((hk.loc _ hb).trans hk')) m (i + 1) (by omega))
    · have hl2 : ¬ ts.toNat < w.ts.toNat := fun e => hlt (UInt64.lt_iff_toNat_lt.2 e)
      simp only [nextF, if_neg hlt] at hf
      repeat' (first | refine S.nilK ?_ | (refine S.op rfl ?_; first | refine R.indexAddr rfl rfl (by omega) h1 ?_ | refine R.mv rfl ?_ | refine R.fieldAddr rfl ?_ | refine R.loadR rfl rfl ?_ | refine R.load (by decide) rfl (by (repeat' (first | exact AHeap.set_same _ _ _)); first | done | fail) rfl ?_ | refine S.addI rfl rfl (by omega) ?_ | refine R.pickT rfl rfl ?_ | refine R.not rfl ?_ | refine R.alloc rfl (fun b hb => ?_) | ((first | refine S.lss rfl rfl ?_ ?_ | refine S.gtr rfl rfl ?_ ?_) <;> intro hlt <;> try (exfalso; omega))) | (refine S.op0 rfl ?_; first | refine S.storeS rfl rfl rfl (by rfl) rfl (by first | decide | exact Nat.le_refl _ | exact Nat.le_of_ble_eq_true rfl) ?_) | refine S.seq ?_ | refine S.region ?_ | refine S.condT rfl ?_ | refine S.condF rfl ?_ | refine RRun.skip ?_ | refine RRun.block ?_ | refine RRun.inBlock ?_)
      all_goals first
        | (exfalso; omega)
        | skip
      rw [show ((i : Int) + 1) = ((i + 1 : Nat) : Int) by omega]
      exact S.keep [0, 3, 15, 18, 21, 107, 108, 109, 122, 123, 124, 156, 157, 158] rfl (ihn c _ (by omega) hf (hg.base _ hb) (hk.loc _ hb))
theorem overF_eq {l : List Run} {r : Run} {key : List UInt8} (hs : spanned r key = true) (out : List Dep) : overF r (nextT l key (readT r key)) out = (match overD l r key with | some d => addD out d | none => out) := by
  unfold overF
  by_cases h2 : (nextT l key (readT r key)).2 = true
  · by_cases h3 : (nextT l key (readT r key)).1.toNat = r.txn.toNat
    · rw [overD_no3 h3, if_neg (fun e => e.2 (UInt64.toNat_inj.1 h3))]
    · rw [overD_yes hs h2 h3, if_pos ⟨h2, fun e => h3 (by rw [e])⟩]
  · rw [overD_no2 (by simpa using h2), if_neg (fun e => h2 e.1)]
theorem o8_in {l : List Run} (F : Few l) (r : Run) (hsp : r.spans.length ≤ 1000000) (hse : r.seen.length ≤ 1000000) (rb : Nat) (ks : List (List UInt8)) (hS : ks.length ≤ 1000000) (h₀ hA : AHeap) (hrb : hA rb = some (.box (runC r))) (A B C : AV) (outN : List Dep) (k : List RT) (Q : AV → AHeap → Prop)
    (H : ∀ c h, Grow h₀ h c → RRun Try.prog Try.f8 186 k (Env.get [(0, runsA l), (3, outA outN c), (107, A), (108, B), (109, C)]) h Q) : ∀ (n i : Nat) (out : List Dep) (c : Cap) (h : AHeap), i + n = ks.length → (oversL l r (ks.drop i)).foldl addD out = outN → out.length + (oversL l r (ks.drop i)).length ≤ 1000000 → Grow h₀ h c → Keeps hA h →
    RRun Try.prog Try.f8 186 (.inLoop r8l5 :: .inBlock 10 :: k) (Env.get [(0, runsA l), (3, outA out c), (15, ptr rb), (107, A), (108, B), (109, C), (122, keysA ks), (123, i64 ks.length), (124, i64 i)]) h Q := by
  have hfl := F.len
  have hsl : (r.seen.map seenC).length = r.seen.length := by simp
  intro n
  induction n with
  | zero =>
    intro i out c h hi hf hN hg hk
    rw [List.drop_of_length_le (by omega)] at hf
    have hf2 : out = outN := hf
    subst hf2
    refine RRun.inLoop ?_
    repeat' (first | refine S.nilK ?_ | (refine S.op rfl ?_; first | ((first | refine S.lss rfl rfl ?_ ?_) <;> intro hlt <;> try (exfalso; omega))) | refine S.seq ?_ | refine S.region ?_ | refine S.condF rfl ?_ | refine RRun.exit rfl ?_)
    exact S.keep [0, 3, 107, 108, 109] rfl (H c h hg)
  | succ n ih =>
    intro i out c h hi hf hN hg hk
    have hie : i < ks.length := by omega
    have h1 : (ks.map fun k => [bys k])[((i : Nat) : Int).toNat]? = some [bys ks[i]] := by simp [hie]
    rw [List.drop_eq_getElem_cons hie, oversL_cons] at hf hN
    generalize ks[i] = key at h1 hf hN
    have ihn := fun out2 c' h' (hf2 : (oversL l r (ks.drop (i + 1))).foldl addD out2 = outN) hN2 g k' => ih (i + 1) out2 c' h' (by omega) hf2 hN2 g k'
    clear ih
    have hrb' := hk _ _ hrb
    have c17 := rspanned_spec r hsp key
    have c14 := rwrote_spec F key
    have n1 := overD_no1 (l := l) (r := r) (k := key)
    have hov := fun hs => overF_eq (l := l) (r := r) (key := key) hs out
    rw [nextT_eq] at hov
    have hwl := wrote_len l key
    generalize wrote l key = T at c14 hov hwl
    have hTl : (T.map runC).length = T.length := by simp
    have hrt : readT r key = r.seen.foldl (fun ts s => if s.key = key ∧ ts < s.ts then s.ts else ts) 0 := rfl
    generalize spanned r key = w at c17 n1 hov
    refine RRun.inLoop ?_
    cases w with
    | false =>
      rw [n1 rfl] at hf hN
      repeat' (first | refine S.nilK ?_ | (refine S.op rfl ?_; first | refine R.indexAddr rfl rfl (by omega) h1 ?_ | refine R.callQ (by decide) rfl (c17 _) ?_ | refine R.mv rfl ?_ | refine R.loadR rfl rfl ?_ | refine R.load (by decide) rfl (by (repeat' (first | assumption)); first | done | fail) rfl ?_ | refine S.addI rfl rfl (by omega) ?_ | refine R.not rfl ?_ | ((first | refine S.lss rfl rfl ?_ ?_) <;> intro hlt <;> try (exfalso; omega))) | refine S.seq ?_ | refine S.region ?_ | refine S.condT rfl ?_ | refine RRun.skip ?_ | refine RRun.block ?_ | refine RRun.exit rfl ?_)
      rw [show ((i : Int) + 1) = ((i + 1 : Nat) : Int) by omega]
      exact S.keep [0, 3, 15, 107, 108, 109, 122, 123, 124] rfl (ihn _ _ _ hf hN hg hk)
    | true =>
      have hov := hov rfl
      repeat' (first | ((show RRunG _ _ _ (.code (.loop r8l6) :: _) _ _ _; refine Halt.h ?_)) | refine S.nilK ?_ | (refine S.op rfl ?_; first | refine R.indexAddr rfl rfl (by omega) h1 ?_ | refine R.callQ (by decide) rfl (c17 _) ?_ | refine R.mv rfl ?_ | refine R.fieldAddr rfl ?_ | refine R.loadR rfl rfl ?_ | refine R.load (by decide) rfl (by (repeat' (first | assumption)); first | done | fail) rfl ?_ | refine R.len rfl ?_ | refine R.not rfl ?_ | ((first | refine S.lss rfl rfl ?_ ?_) <;> intro hlt <;> try (exfalso; omega))) | refine S.seq ?_ | refine S.region ?_ | refine S.condT rfl ?_ | refine S.condF rfl ?_ | refine RRun.skip ?_ | refine RRun.block ?_)
      refine ⟨?_⟩
      rw [hsl]
      refine RRun.loopIn (S.keep [0, 3, 15, 17, 18, 107, 108, 109, 122, 123, 124, 133, 134, 135] rfl (t8_loop key r.seen hse h _ _ _ _ _ _ _ _ _ _ _ ?_ r.seen.length 0 0 (by omega) rfl))
      rw [← hrt]
      repeat' (first | ((show RRunG _ _ _ (.code (.loop r8l7) :: _) _ _ _; refine Halt.h ?_)) | refine S.nilK ?_ | (refine S.op rfl ?_; first | refine R.callQ (by decide) rfl (c14 _) ?_ | refine R.mv rfl ?_ | refine R.len rfl ?_) | refine S.seq ?_ | refine S.region ?_ | refine RRun.block ?_)
      refine ⟨?_⟩
      rw [hTl]
      refine RRun.loopIn (S.keep [0, 3, 15, 18, 21, 107, 108, 109, 122, 123, 124, 156, 157, 158] rfl (n8_loop r rb T (by omega) (readT r key) h₀ hA hrb out (by omega) _ _ _ _ _ _ _ _ _ (fun c2 h2 hg2 hk2 => ?_) T.length 0 c h (by omega) rfl hg hk))
      rw [hov]
      repeat' (first | refine S.nilK ?_ | (refine S.op rfl ?_; first | refine R.mv rfl ?_ | refine S.addI rfl rfl (by omega) ?_) | refine S.region ?_ | refine RRun.inBlock ?_)
      rw [show ((i : Int) + 1) = ((i + 1 : Nat) : Int) by omega]
      cases hd : overD l r key with
      | none =>
        rw [hd] at hf hN
        exact S.keep [0, 3, 15, 107, 108, 109, 122, 123, 124] rfl (ihn _ _ _ hf hN hg2 hk2)
      | some d =>
        rw [hd] at hf hN
        have hal := addD_len out d
        simp only [List.length_cons] at hN
        rw [List.foldl_cons] at hf
        exact S.keep [0, 3, 15, 107, 108, 109, 122, 123, 124] rfl (ihn (addD out d) _ _ hf (by omega) hg2 hk2)
theorem o8_out {l : List Run} (F : Few l) (h₀ : AHeap) (outN : List Dep) (k : List RT) (Q : AV → AHeap → Prop)
    (H : ∀ c h, Grow h₀ h c → RRun Try.prog Try.f8 186 k (Env.get [(3, outA outN c)]) h Q) : ∀ (n i : Nat) (out : List Dep) (c : Cap) (h : AHeap), i + n = l.length → (oversLs l (keysS l) (l.drop i)).foldl addD out = outN → out.length + (oversLs l (keysS l) (l.drop i)).length ≤ 1000000 → Grow h₀ h c →
    RRun Try.prog Try.f8 186 (.inLoop r8l4 :: .inBlock 8 :: k) (Env.get [(0, runsA l), (3, outA out c), (107, runsA l), (108, i64 l.length), (109, i64 i)]) h Q := by
  have hfl := F.len
  have hkl := F.keysS
  have ck := rkeys_spec F
  have hlen : ((keysS l).map fun k => [bys k]).length = (keysS l).length := by simp
  intro n
  induction n with
  | zero =>
    intro i out c h hi hf hN hg
    rw [List.drop_of_length_le (by omega)] at hf
    have hf2 : out = outN := hf
    subst hf2
    refine RRun.inLoop ?_
    repeat' (first | refine S.nilK ?_ | (refine S.op rfl ?_; first | ((first | refine S.lss rfl rfl ?_ ?_) <;> intro hlt <;> try (exfalso; omega))) | refine S.seq ?_ | refine S.region ?_ | refine S.condF rfl ?_ | refine RRun.exit rfl ?_)
    exact S.keep [3] rfl (H c h hg)
  | succ n ih =>
    intro i out c h hi hf hN hg
    have hie : i < l.length := by omega
    have h1 : (l.map fun k => runC k)[((i : Nat) : Int).toNat]? = some (runC l[i]) := by simp [hie]
    have hsl := F.seen l[i] (List.getElem_mem hie)
    have hpl := F.spans l[i] (List.getElem_mem hie)
    rw [List.drop_eq_getElem_cons hie, oversLs_cons] at hf hN
    generalize l[i] = r at h1 hf hN hsl hpl
    have hsr : serial r = (decide (r.state = 1) && decide (r.level = 4)) := rfl
    rw [hsr] at hf hN
    have ha := addDs_len (oversL l r (keysS l)) out
    refine RRun.inLoop ?_
    by_cases hs : r.state = 1
    · by_cases hl4 : r.level = 4
      · rw [decide_eq_true hs, decide_eq_true hl4, Bool.and_self, if_pos rfl] at hf hN
        rw [List.foldl_append] at hf
        rw [List.length_append] at hN
        repeat' (first | ((show RRunG _ _ _ (.code (.loop r8l5) :: _) _ _ _; refine Halt.h ?_)) | refine S.nilK ?_ | (refine S.op rfl ?_; first | refine R.indexAddr rfl rfl (by omega) h1 ?_ | refine R.callQ (by decide) rfl (ck _) ?_ | refine R.mv rfl ?_ | refine R.fieldAddr rfl ?_ | refine R.loadR rfl rfl ?_ | refine R.load (by decide) rfl (by (repeat' (first | exact AHeap.set_same _ _ _)); first | done | fail) rfl ?_ | refine R.pickF rfl rfl ?_ | refine R.len rfl ?_ | refine R.alloc rfl (fun b hb => ?_) | ((first | refine S.lss rfl rfl ?_ ?_ | refine S.eqInt rfl rfl ?_ ?_) <;> intro hlt <;> try (exfalso; omega))) | (refine S.op0 rfl ?_; first | refine S.storeS rfl rfl rfl (by rfl) rfl (by first | decide | exact Nat.le_refl _ | exact Nat.le_of_ble_eq_true rfl) ?_) | refine S.seq ?_ | refine S.region ?_ | refine S.condT rfl ?_ | refine S.condF rfl ?_ | refine RRun.skip ?_ | refine RRun.block ?_)
        all_goals first
          | (exfalso; omega)
          | skip
        refine ⟨?_⟩
        revert b hb
        intro rb hrb
        rw [hlen]
        refine RRun.loopIn (S.keep [0, 3, 15, 107, 108, 109, 122, 123, 124] rfl (o8_in F r (by omega) (by omega) rb (keysS l) (by omega) h₀ (h.set rb (.box (runC r))) (AHeap.set_same _ _ _) _ _ _ ((oversL l r (keysS l)).foldl addD out) _ _ (fun c2 h2 hg2 => ?_) (keysS l).length 0 out c _ (by omega) rfl (by rw [List.drop_zero]; omega) (hg.base _ hrb) (Keeps.refl _)))
        repeat' (first | refine S.nilK ?_ | (refine S.op rfl ?_; first | refine R.mv rfl ?_ | refine S.addI rfl rfl (by omega) ?_) | refine S.region ?_ | refine RRun.inBlock ?_)
        rw [show ((i : Int) + 1) = ((i + 1 : Nat) : Int) by omega]
        exact S.keep [0, 3, 107, 108, 109] rfl (ih (i + 1) _ c2 h2 (by omega) hf (by omega) hg2)
      · rw [decide_eq_true hs, decide_eq_false hl4, Bool.and_false, if_neg (by decide)] at hf hN
        repeat' (first | refine S.nilK ?_ | (refine S.op rfl ?_; first | refine R.indexAddr rfl rfl (by omega) h1 ?_ | refine R.mv rfl ?_ | refine R.fieldAddr rfl ?_ | refine R.loadR rfl rfl ?_ | refine R.load (by decide) rfl (by (repeat' (first | exact AHeap.set_same _ _ _)); first | done | fail) rfl ?_ | refine S.addI rfl rfl (by omega) ?_ | refine R.pickF rfl rfl ?_ | refine R.alloc rfl (fun b hb => ?_) | ((first | refine S.lss rfl rfl ?_ ?_ | refine S.eqInt rfl rfl ?_ ?_) <;> intro hlt <;> try (exfalso; omega))) | (refine S.op0 rfl ?_; first | refine S.storeS rfl rfl rfl (by rfl) rfl (by first | decide | exact Nat.le_refl _ | exact Nat.le_of_ble_eq_true rfl) ?_) | refine S.seq ?_ | refine S.region ?_ | refine S.condT rfl ?_ | refine RRun.skip ?_ | refine RRun.block ?_ | refine RRun.exit rfl ?_)
        all_goals first
          | (exfalso; omega)
          | skip
        rw [show ((i : Int) + 1) = ((i + 1 : Nat) : Int) by omega]
        exact S.keep [0, 3, 107, 108, 109] rfl (ih (i + 1) _ c _ (by omega) hf hN (hg.base _ hb))
    · rw [decide_eq_false hs, Bool.false_and, if_neg (by decide)] at hf hN
      repeat' (first | refine S.nilK ?_ | (refine S.op rfl ?_; first | refine R.indexAddr rfl rfl (by omega) h1 ?_ | refine R.mv rfl ?_ | refine R.fieldAddr rfl ?_ | refine R.loadR rfl rfl ?_ | refine R.load (by decide) rfl (by (repeat' (first | exact AHeap.set_same _ _ _)); first | done | fail) rfl ?_ | refine S.addI rfl rfl (by omega) ?_ | refine R.pickT rfl rfl ?_ | refine R.alloc rfl (fun b hb => ?_) | ((first | refine S.lss rfl rfl ?_ ?_ | refine S.eqInt rfl rfl ?_ ?_) <;> intro hlt <;> try (exfalso; omega))) | (refine S.op0 rfl ?_; first | refine S.storeS rfl rfl rfl (by rfl) rfl (by first | decide | exact Nat.le_refl _ | exact Nat.le_of_ble_eq_true rfl) ?_) | refine S.skip rfl ?_ | refine S.seq ?_ | refine S.region ?_ | refine S.condT rfl ?_ | refine RRun.skip ?_ | refine RRun.block ?_ | refine RRun.exit rfl ?_)
      all_goals first
        | (exfalso; omega)
        | skip
      rw [show ((i : Int) + 1) = ((i + 1 : Nat) : Int) by omega]
      exact S.keep [0, 3, 107, 108, 109] rfl (ih (i + 1) _ c _ (by omega) hf hN (hg.base _ hb))
theorem rdeps_spec {l : List Run} (F : Few l) (h : AHeap) : ACalls Try.prog 8 [runsA l] h (fun x h' => x = depsA (deps l (keysS l)) ∧ h' = h) := by
  have h5 : (depsR l).length ≤ l.length * 300 := depsR_len l l F.seen
  have h6 := depsW_len l F.len (keysS l)
  have h7 := F.len
  have h8 := F.keysS
  have h9 := depsO_len F
  have h3 := addDs_len (depsW l (keysS l)) []
  have h2 := addDs_len (depsR l) ((depsW l (keysS l)).foldl addD [])
  simp only [List.length_nil] at h3
  have ck := rkeys_spec F
  have hlen : ((keysS l).map fun k => [bys k]).length = (keysS l).length := by simp
  have hll : (l.map runC).length = l.length := by simp
  rw [deps_eq]
  obtain ⟨c', hc1, hc2⟩ := res8
  refine ACalls.weak (ACalls.enter Try.func8 hc1 Try.ntmps8 hc2 (Nat.le_of_ble_eq_true rfl) rfl ?_)
  repeat' (first | ((show RRunG _ _ _ (.code (.loop r8l0) :: _) _ _ _; refine Halt.h ?_)) | refine S.nilK ?_ | (refine S.op rfl ?_; first | refine R.callQ (by decide) rfl (ck _) ?_ | refine R.mv rfl ?_ | refine R.len rfl ?_) | refine S.seq ?_ | refine S.region ?_ | refine RRun.block ?_)
  refine ⟨?_⟩
  rw [hlen]
  refine RRun.loopIn (S.keep [0, 3, 25, 26, 27] rfl (RRun.envs (.cons 0 (.refl _) (.cons 3 (.nilSl 3 (c := .full) trivial) (.cons 25 (.refl _) (.cons 26 (.refl _) (.cons 27 (.refl _) .nil))))) (w8_out F (keysS l) (by omega) h _ _ _ (fun c1 h1 hg1 => ?_) (keysS l).length 0 [] .full h (by omega) rfl (by rw [List.drop_zero]; simp only [List.length_nil]; omega) (Grow.start h))))
  rw [List.drop_zero]
  repeat' (first | ((show RRunG _ _ _ (.code (.loop r8l2) :: _) _ _ _; refine Halt.h ?_)) | refine S.nilK ?_ | (refine S.op rfl ?_; first | refine R.mv rfl ?_ | refine R.len rfl ?_) | refine S.seq ?_ | refine S.region ?_ | refine RRun.block ?_)
  refine ⟨?_⟩
  rw [hll]
  refine RRun.loopIn (S.keep [0, 3, 55, 56, 57] rfl (r8_out F h _ _ _ (fun c2 h2 hg2 => ?_) l.length 0 ((depsW l (keysS l)).foldl addD []) c1 h1 (by omega) rfl (by rw [List.drop_zero]; have e : (depsR l).length = (l.flatMap (fun r => r.seen.filterMap (Go.Ad.readD l r))).length := rfl; omega) hg1))
  rw [List.drop_zero]
  repeat' (first | ((show RRunG _ _ _ (.code (.loop r8l4) :: _) _ _ _; refine Halt.h ?_)) | refine S.nilK ?_ | (refine S.op rfl ?_; first | refine R.mv rfl ?_ | refine R.len rfl ?_) | refine S.seq ?_ | refine S.region ?_ | refine RRun.block ?_)
  refine ⟨?_⟩
  rw [hll]
  refine RRun.loopIn (S.keep [0, 3, 107, 108, 109] rfl (o8_out F h _ _ _ (fun c3 h3 hg3 => ?_) l.length 0 ((depsR l).foldl addD ((depsW l (keysS l)).foldl addD [])) c2 h2 (by omega) rfl (by rw [List.drop_zero]; have e : (depsO l (keysS l)).length = (oversLs l (keysS l) l).length := rfl; omega) hg2))
  rw [List.drop_zero]
  repeat' (first | refine S.nilK ?_ | (refine S.op rfl ?_; first | refine R.mv rfl ?_) | refine S.seq ?_ | refine S.region ?_)
  apply S.ret rr8
  case hx => repeat (first | exact ResAt.nil | apply ResAt.tmp rfl)
  exact ⟨_, h, .toRo _ _ _, hg3.le, rfl, rfl⟩
end Go.Proofs.Ythfolomknkobkaa

namespace Go.Proofs.Ythfolomknkobkaa
open Go.Av
open Go.Ad (Seen Span Run Dep)
structure Ev where
  kind : Int
  txn : UInt64
  level : Int
  ts : UInt64
  lo : List UInt8
  hi : List UInt8
  seen : List Seen
  keys : List (List UInt8)
def evC (e : Ev) : List AV := [i64 e.kind, u64 e.txn, i64 e.level, u64 e.ts, bys e.lo, bys e.hi, seenA e.seen, keysA e.keys]
def evsA (l : List Ev) : AV := .sl 8 (l.map evC) .ro
def smallS (s : Seen) : Prop := s.keys.length ≤ 8
def smallE (e : Ev) : Prop := e.seen.length ≤ 8 ∧ e.keys.length ≤ 8 ∧ e.lo.length + e.hi.length ≤ 40 ∧ ∀ s ∈ e.seen, smallS s
def small (d : List Ev) : Prop := (∀ e ∈ d, smallE e) ∧ d.length ≤ 30
def r5l1 : RCode :=
  (.seq (.region [
    ⟨(some 39), none, .act, .bin .lss (.tmp 38) (.tmp 37)⟩])
  (.seq (.cond (.tmp 39)
   .skip
   (.exit 2))
  (.seq (.block 3
   (.seq (.region [
     ⟨(some 40), none, .act, .indexAddr 4 (.tmp 36) (.tmp 38)⟩,
     ⟨(some 41), none, .act, .load true 4 (.tmp 40)⟩,
     ⟨(some 6), none, .act, .alloc [(.slice none 0 0), (.int .u64 0), (.int .u64 0), (.slice none 0 0)]⟩,
     ⟨none, none, .act, .store 4 (.tmp 6) (.tmp 41)⟩])
   (.seq (.region [
     ⟨(some 42), none, .act, .fieldAddr 3 (.tmp 6)⟩,
     ⟨(some 43), none, .act, .load false 1 (.tmp 42)⟩,
     ⟨(some 44), none, .act, .len (.tmp 43)⟩,
     ⟨(some 45), none, .act, .bin .gtr (.tmp 44) (.const (.int .i64 8))⟩])
   (.cond (.tmp 45)
    (.seq (.region [
      ⟨(some 2), none, .act, .mv (.const (.bool false))⟩])
    .ret)
    .skip))))
  (.region [
    ⟨(some 46), none, .act, .bin .add (.tmp 38) (.const (.int .i64 1))⟩,
    ⟨(some 38), none, .act, .mv (.tmp 46)⟩]))))
def r5l0 : RCode :=
  (.seq (.region [
    ⟨(some 10), none, .act, .bin .lss (.tmp 9) (.tmp 8)⟩])
  (.seq (.cond (.tmp 10)
   .skip
   (.exit 0))
  (.seq (.block 1
   (.seq (.region [
     ⟨(some 11), none, .act, .indexAddr 8 (.tmp 7) (.tmp 9)⟩,
     ⟨(some 12), none, .act, .load true 8 (.tmp 11)⟩,
     ⟨(some 4), none, .act, .alloc [(.int .i64 0), (.int .u64 0), (.int .i64 0), (.int .u64 0), (.slice none 0 0), (.slice none 0 0), (.slice none 0 0), (.slice none 0 0)]⟩,
     ⟨none, none, .act, .store 8 (.tmp 4) (.tmp 12)⟩])
   (.seq (.seq (.region [
     ⟨(some 13), none, .act, .fieldAddr 6 (.tmp 4)⟩,
     ⟨(some 14), none, .act, .load false 1 (.tmp 13)⟩,
     ⟨(some 15), none, .act, .len (.tmp 14)⟩,
     ⟨(some 16), none, .act, .bin .gtr (.tmp 15) (.const (.int .i64 8))⟩,
     ⟨(some 17), none, .act, .mv (.tmp 16)⟩,
     ⟨(some 18), (some (17, false)), .act, .fieldAddr 7 (.tmp 4)⟩,
     ⟨(some 19), (some (17, false)), .act, .load false 1 (.tmp 18)⟩,
     ⟨(some 20), (some (17, false)), .act, .len (.tmp 19)⟩,
     ⟨(some 21), (some (17, false)), .act, .bin .gtr (.tmp 20) (.const (.int .i64 8))⟩,
     ⟨(some 22), none, .act, .pick (.tmp 17) (.const (.bool true)) (.tmp 21)⟩,
     ⟨(some 23), none, .act, .mv (.tmp 22)⟩,
     ⟨(some 24), (some (23, false)), .act, .fieldAddr 4 (.tmp 4)⟩,
     ⟨(some 25), (some (23, false)), .act, .fieldAddr 0 (.tmp 24)⟩,
     ⟨(some 26), (some (23, false)), .act, .load false 1 (.tmp 25)⟩,
     ⟨(some 27), (some (23, false)), .act, .len (.tmp 26)⟩,
     ⟨(some 28), (some (23, false)), .act, .fieldAddr 4 (.tmp 4)⟩,
     ⟨(some 29), (some (23, false)), .act, .fieldAddr 1 (.tmp 28)⟩,
     ⟨(some 30), (some (23, false)), .act, .load false 1 (.tmp 29)⟩,
     ⟨(some 31), (some (23, false)), .act, .len (.tmp 30)⟩,
     ⟨(some 32), (some (23, false)), .act, .bin .add (.tmp 27) (.tmp 31)⟩,
     ⟨(some 33), (some (23, false)), .act, .bin .gtr (.tmp 32) (.const (.int .i64 40))⟩,
     ⟨(some 34), none, .act, .pick (.tmp 23) (.const (.bool true)) (.tmp 33)⟩])
   (.cond (.tmp 34)
    (.seq (.region [
      ⟨(some 2), none, .act, .mv (.const (.bool false))⟩])
    .ret)
    .skip))
   (.seq (.region [
     ⟨(some 35), none, .act, .fieldAddr 6 (.tmp 4)⟩,
     ⟨(some 36), none, .act, .load false 1 (.tmp 35)⟩,
     ⟨(some 37), none, .act, .len (.tmp 36)⟩,
     ⟨(some 38), none, .act, .mv (.const (.int .i64 0))⟩])
   (.block 2
    (.loop r5l1))))))
  (.region [
    ⟨(some 47), none, .act, .bin .add (.tmp 9) (.const (.int .i64 1))⟩,
    ⟨(some 9), none, .act, .mv (.tmp 47)⟩]))))
def r5 : RCode :=
  (.seq (.region [
    ⟨(some 2), none, .act, .mv (.const (.bool false))⟩])
  (.seq (.seq (.region [
    ⟨(some 7), none, .act, .mv (.tmp 0)⟩,
    ⟨(some 8), none, .act, .len (.tmp 7)⟩,
    ⟨(some 9), none, .act, .mv (.const (.int .i64 0))⟩])
  (.block 0
   (.loop r5l0)))
  (.seq (.region [
    ⟨(some 48), none, .act, .mv (.tmp 0)⟩,
    ⟨(some 49), none, .act, .len (.tmp 48)⟩,
    ⟨(some 50), none, .act, .bin .leq (.tmp 49) (.const (.int .i64 30))⟩,
    ⟨(some 2), none, .act, .mv (.tmp 50)⟩])
  .ret)))
theorem res5 : ∃ c, Try.f5.body = some c ∧ resCode Try.prog 51 c = some r5 := ⟨_, rfl, by kernel_rfl⟩
theorem rr5 : resRes Try.prog Try.f5.results.toList = some [.tmp 2] := by kernel_rfl
theorem sm_in (S0 : List Seen) (hS : S0.length ≤ 1000) (h : AHeap) (A B C D : AV) (k : List RT) (Q : AV → AHeap → Prop)
    (H : (∀ s ∈ S0, smallS s) → RRun Try.prog Try.f5 51 k (Env.get [(0, A), (7, B), (8, C), (9, D)]) h Q) (Hq : ∀ h', h.le h' → (¬ ∀ s ∈ S0, smallS s) → Q (bl false) h') : ∀ (m i : Nat), i + m = S0.length → (∀ s ∈ S0.take i, smallS s) →
    RRun Try.prog Try.f5 51 (.inLoop r5l1 :: .inBlock 2 :: k) (Env.get [(0, A), (7, B), (8, C), (9, D), (36, seenA S0), (37, i64 S0.length), (38, i64 i)]) h Q := by
  intro m
  induction m with
  | zero =>
    intro i hi hf
    rw [List.take_of_length_le (by omega)] at hf
    refine RRun.inLoop ?_
    repeat' (first | refine S.nilK ?_ | (refine S.op rfl ?_; first | ((first | refine S.lss rfl rfl ?_ ?_) <;> intro hlt <;> try (exfalso; omega))) | refine S.seq ?_ | refine S.region ?_ | refine S.condF rfl ?_ | refine RRun.exit rfl ?_)
    exact S.keep [0, 7, 8, 9] rfl (H hf)
  | succ m ih =>
    intro i hi hf
    have hie : i < S0.length := by omega
    have h1 : (S0.map seenC)[((i : Nat) : Int).toNat]? = some (seenC S0[i]) := by simp [hie]
    have hmem := List.getElem_mem hie
    have ht : S0.take (i + 1) = S0.take i ++ [S0[i]] := by rw [List.take_add_one, List.getElem?_eq_getElem hie]; rfl
    have hih := ih (i + 1) (by omega)
    rw [ht] at hih
    generalize S0[i] = s at h1 hmem hih
    have hlen : (s.keys.map fun k => [bys k]).length = s.keys.length := by simp
    refine RRun.inLoop ?_
    by_cases hs : s.keys.length ≤ 8
    · repeat' (first | refine S.nilK ?_ | (refine S.op rfl ?_; first | refine R.indexAddr rfl rfl (by omega) h1 ?_ | refine R.mv rfl ?_ | refine R.fieldAddr rfl ?_ | refine R.loadR rfl rfl ?_ | refine R.load (by decide) rfl (by (repeat' (first | exact AHeap.set_same _ _ _)); first | done | fail) rfl ?_ | refine S.addI rfl rfl (by omega) ?_ | refine R.len rfl ?_ | refine R.alloc rfl (fun b hb => ?_) | ((first | refine S.lss rfl rfl ?_ ?_ | refine S.gtr rfl rfl ?_ ?_) <;> intro hlt <;> try (exfalso; omega))) | (refine S.op0 rfl ?_; first | refine S.storeS rfl rfl rfl (by rfl) rfl (by first | decide | exact Nat.le_refl _ | exact Nat.le_of_ble_eq_true rfl) ?_) | refine S.seq ?_ | refine S.region ?_ | refine S.condT rfl ?_ | refine S.condF rfl ?_ | refine RRun.skip ?_ | refine RRun.block ?_ | refine RRun.inBlock ?_)
      all_goals first
        | (exfalso; omega)
        | skip
      rw [show ((i : Int) + 1) = ((i + 1 : Nat) : Int) by omega]
      exact S.keep [0, 7, 8, 9, 36, 37, 38] rfl (S.drop (by repeat (first | exact AHeap.le.refl _ | refine AHeap.le.set ?_ _ (by (repeat' (first | assumption)); first | done | fail))) (hih fun x hx => by
        rcases List.mem_append.1 hx with hx | hx
        · exact hf x hx
        · rw [List.mem_singleton.1 hx]; exact hs))
    · repeat' (first | refine S.nilK ?_ | (refine S.op rfl ?_; first | refine R.indexAddr rfl rfl (by omega) h1 ?_ | refine R.mv rfl ?_ | refine R.fieldAddr rfl ?_ | refine R.loadR rfl rfl ?_ | refine R.load (by decide) rfl (by (repeat' (first | exact AHeap.set_same _ _ _)); first | done | fail) rfl ?_ | refine R.len rfl ?_ | refine R.alloc rfl (fun b hb => ?_) | ((first | refine S.lss rfl rfl ?_ ?_ | refine S.gtr rfl rfl ?_ ?_) <;> intro hlt <;> try (exfalso; omega))) | (refine S.op0 rfl ?_; first | refine S.storeS rfl rfl rfl (by rfl) rfl (by first | decide | exact Nat.le_refl _ | exact Nat.le_of_ble_eq_true rfl) ?_) | refine S.seq ?_ | refine S.region ?_ | refine S.condT rfl ?_ | refine RRun.skip ?_ | refine RRun.block ?_)
      all_goals first
        | (exfalso; omega)
        | skip
      apply S.ret rr5
      case hx => repeat (first | exact ResAt.nil | apply ResAt.tmp rfl)
      exact Hq _ (by repeat (first | exact AHeap.le.refl _ | refine AHeap.le.set ?_ _ (by (repeat' (first | assumption)); first | done | fail))) (fun hall => hs (hall s hmem))
theorem sm_out (d : List Ev) (hd : d.length ≤ 9223372036854775807) (hb : ∀ e ∈ d, e.lo.length ≤ 140737488355328 ∧ e.hi.length ≤ 140737488355328) (h : AHeap) (k : List RT) (Q : AV → AHeap → Prop)
    (H : (∀ e ∈ d, smallE e) → RRun Try.prog Try.f5 51 k (Env.get [(0, evsA d)]) h Q) (Hq : ∀ h', h.le h' → (¬ ∀ e ∈ d, smallE e) → Q (bl false) h') : ∀ (m i : Nat), i + m = d.length → (∀ e ∈ d.take i, smallE e) →
    RRun Try.prog Try.f5 51 (.inLoop r5l0 :: .inBlock 0 :: k) (Env.get [(0, evsA d), (7, evsA d), (8, i64 d.length), (9, i64 i)]) h Q := by
  intro m
  induction m with
  | zero =>
    intro i hi hf
    rw [List.take_of_length_le (by omega)] at hf
    refine RRun.inLoop ?_
    repeat' (first | refine S.nilK ?_ | (refine S.op rfl ?_; first | ((first | refine S.lss rfl rfl ?_ ?_) <;> intro hlt <;> try (exfalso; omega))) | refine S.seq ?_ | refine S.region ?_ | refine S.condF rfl ?_ | refine RRun.exit rfl ?_)
    exact S.keep [0] rfl (H hf)
  | succ m ih =>
    intro i hi hf
    have hie : i < d.length := by omega
    have h1 : (d.map evC)[((i : Nat) : Int).toNat]? = some (evC d[i]) := by simp [hie]
    have hmem := List.getElem_mem hie
    have hbb := hb _ hmem
    have ht : d.take (i + 1) = d.take i ++ [d[i]] := by rw [List.take_add_one, List.getElem?_eq_getElem hie]; rfl
    have hih := ih (i + 1) (by omega)
    rw [ht] at hih
    generalize d[i] = e at h1 hmem hih hbb
    have hlen : (e.keys.map fun k => [bys k]).length = e.keys.length := by simp
    have hsl : (e.seen.map seenC).length = e.seen.length := by simp
    have hlo := len_bytes e.lo
    have hhi := len_bytes e.hi
    have hno : ∀ (hn : ¬ smallE e) h', h.le h' → Q (bl false) h' := fun hn h' hle => Hq h' hle (fun hall => hn (hall e hmem))
    refine RRun.inLoop ?_
    by_cases hs : e.seen.length ≤ 8 ∧ e.keys.length ≤ 8 ∧ e.lo.length + e.hi.length ≤ 40
    · obtain ⟨s1, s2, s3⟩ := hs
      repeat' (first | ((show RRunG _ _ _ (.code (.loop r5l1) :: _) _ _ _; refine Halt.h ?_)) | refine S.nilK ?_ | (refine S.op rfl ?_; first | refine R.indexAddr rfl rfl (by omega) h1 ?_ | refine R.mv rfl ?_ | refine R.fieldAddr rfl ?_ | refine R.loadR rfl rfl ?_ | refine R.load (by decide) rfl (by (repeat' (first | exact AHeap.set_same _ _ _)); first | done | fail) rfl ?_ | refine S.addI rfl rfl (by omega) ?_ | refine R.pickF rfl rfl ?_ | refine R.len rfl ?_ | refine R.alloc rfl (fun b hb => ?_) | ((first | refine S.lss rfl rfl ?_ ?_ | refine S.gtr rfl rfl ?_ ?_) <;> intro hlt <;> try (exfalso; omega))) | (refine S.op0 rfl ?_; first | refine S.storeS rfl rfl rfl (by rfl) rfl (by first | decide | exact Nat.le_refl _ | exact Nat.le_of_ble_eq_true rfl) ?_) | refine S.seq ?_ | refine S.region ?_ | refine S.condT rfl ?_ | refine S.condF rfl ?_ | refine RRun.skip ?_ | refine RRun.block ?_)
      all_goals first
        | (exfalso; omega)
        | skip
      refine ⟨?_⟩
      rw [hsl]
      refine RRun.loopIn (S.keep [0, 7, 8, 9, 36, 37, 38] rfl (sm_in e.seen (by omega) _ _ _ _ _ _ _ (fun hall => ?_) (fun h' hle hn => hno (fun hsm => hn hsm.2.2.2) h' ?_) e.seen.length 0 (by omega) (fun s hs => by cases hs)))
      · repeat' (first | refine S.nilK ?_ | (refine S.op rfl ?_; first | refine R.mv rfl ?_ | refine S.addI rfl rfl (by omega) ?_) | refine S.region ?_ | refine RRun.inBlock ?_)
        rw [show ((i : Int) + 1) = ((i + 1 : Nat) : Int) by omega]
        exact S.keep [0, 7, 8, 9] rfl (S.drop (by repeat (first | exact AHeap.le.refl _ | refine AHeap.le.set ?_ _ (by (repeat' (first | assumption)); first | done | fail))) (hih fun x hx => by
          rcases List.mem_append.1 hx with hx | hx
          · exact hf x hx
          · rw [List.mem_singleton.1 hx]; exact ⟨s1, s2, s3, hall⟩))
      · exact AHeap.le.trans (by repeat (first | exact AHeap.le.refl _ | refine AHeap.le.set ?_ _ (by (repeat' (first | assumption)); first | done | fail))) hle
    · have hn : ¬ smallE e := fun hsm => hs ⟨hsm.1, hsm.2.1, hsm.2.2.1⟩
      repeat' (first | refine S.nilK ?_ | (refine S.op rfl ?_; first | refine R.indexAddr rfl rfl (by omega) h1 ?_ | refine R.mv rfl ?_ | refine R.fieldAddr rfl ?_ | refine R.loadR rfl rfl ?_ | refine R.load (by decide) rfl (by (repeat' (first | exact AHeap.set_same _ _ _)); first | done | fail) rfl ?_ | refine S.addI rfl rfl (by omega) ?_ | refine R.pickT rfl rfl ?_ | refine R.pickF rfl rfl ?_ | refine R.len rfl ?_ | refine R.alloc rfl (fun b hb => ?_) | ((first | refine S.lss rfl rfl ?_ ?_ | refine S.gtr rfl rfl ?_ ?_) <;> intro hlt <;> try (exfalso; omega))) | (refine S.op0 rfl ?_; first | refine S.storeS rfl rfl rfl (by rfl) rfl (by first | decide | exact Nat.le_refl _ | exact Nat.le_of_ble_eq_true rfl) ?_) | refine S.skip rfl ?_ | refine S.seq ?_ | refine S.region ?_ | refine S.condT rfl ?_ | refine RRun.skip ?_ | refine RRun.block ?_)
      all_goals first
        | (exfalso; omega)
        | skip
      all_goals
        apply S.ret rr5
        case hx => repeat (first | exact ResAt.nil | apply ResAt.tmp rfl)
        exact hno hn _ (by repeat (first | exact AHeap.le.refl _ | refine AHeap.le.set ?_ _ (by (repeat' (first | assumption)); first | done | fail)))
theorem small_spec (d : List Ev) (hd : d.length ≤ 9223372036854775807) (hb : ∀ e ∈ d, e.lo.length ≤ 140737488355328 ∧ e.hi.length ≤ 140737488355328) (h : AHeap) : ACalls Try.prog 5 [evsA d] h (fun x h' => (∃ b, x = bl b ∧ (b = true → small d)) ∧ h' = h) := by
  obtain ⟨c, hc1, hc2⟩ := res5
  refine ACalls.weak (ACalls.enter Try.func5 hc1 Try.ntmps5 hc2 (Nat.le_of_ble_eq_true rfl) rfl ?_)
  have hlen : (d.map evC).length = d.length := by simp
  repeat' (first | refine S.nilK ?_ | (refine S.op rfl ?_; first | refine R.mv rfl ?_ | refine R.len rfl ?_) | refine S.seq ?_ | refine S.region ?_ | refine RRun.block ?_)
  rw [hlen]
  refine RRun.loopIn (S.keep [0, 7, 8, 9] rfl (sm_out d hd hb h _ _ (fun hall => ?_) (fun h' hle hn => ⟨_, h, .refl _, hle, ⟨false, rfl, fun e => by cases e⟩, rfl⟩) d.length 0 (by omega) (fun x hx => by cases hx)))
  repeat' (first | refine S.nilK ?_ | (refine S.op rfl ?_; first | refine R.mv rfl ?_ | refine R.len rfl ?_ | ((first | refine S.leq rfl rfl ?_ ?_) <;> intro hlt <;> try (exfalso; omega))) | refine S.seq ?_ | refine S.region ?_)
  all_goals
    apply S.ret rr5
    case hx => repeat (first | exact ResAt.nil | apply ResAt.tmp rfl)
    refine ⟨_, h, .refl _, (by repeat (first | exact AHeap.le.refl _)), ⟨_, rfl, ?_⟩, rfl⟩
    first
      | (intro e; exact absurd e (by decide))
      | (intro _; exact ⟨hall, by omega⟩)
end Go.Proofs.Ythfolomknkobkaa

namespace Go.Proofs.Ythfolomknkobkaa
open Go.Av
open Go.Ad (Seen Span Run Dep)
def r6l1 : RCode :=
  (.seq (.region [
    ⟨(some 27), none, .act, .bin .lss (.tmp 26) (.tmp 25)⟩])
  (.seq (.cond (.tmp 27)
   .skip
   (.exit 2))
  (.seq (.block 3
   (.seq (.region [
     ⟨(some 28), none, .act, .indexAddr 8 (.tmp 24) (.tmp 26)⟩,
     ⟨(some 29), none, .act, .load true 8 (.tmp 28)⟩,
     ⟨(some 8), none, .act, .alloc [(.int .i64 0), (.int .u64 0), (.int .i64 0), (.int .u64 0), (.slice none 0 0), (.slice none 0 0), (.slice none 0 0), (.slice none 0 0)]⟩,
     ⟨none, none, .act, .store 8 (.tmp 8) (.tmp 29)⟩])
   (.region [
     ⟨(some 30), none, .act, .mv (.tmp 6)⟩,
     ⟨(some 31), none, .act, .mv (.tmp 30)⟩,
     ⟨(some 32), (some (31, false)), .act, .fieldAddr 0 (.tmp 8)⟩,
     ⟨(some 33), (some (31, false)), .act, .load false 1 (.tmp 32)⟩,
     ⟨(some 34), (some (31, false)), .act, .eq false .int (.tmp 33) (.const (.int .i64 1))⟩,
     ⟨(some 35), (some (31, false)), .act, .mv (.tmp 34)⟩,
     ⟨(some 36), (some (35, true)), .act, .fieldAddr 1 (.tmp 8)⟩,
     ⟨(some 37), (some (35, true)), .act, .load false 1 (.tmp 36)⟩,
     ⟨(some 38), (some (35, true)), .act, .fieldAddr 1 (.tmp 5)⟩,
     ⟨(some 39), (some (35, true)), .act, .load false 1 (.tmp 38)⟩,
     ⟨(some 40), (some (35, true)), .act, .eq false .int (.tmp 37) (.tmp 39)⟩,
     ⟨(some 41), (some (31, false)), .act, .pick (.tmp 35) (.tmp 40) (.const (.bool false))⟩,
     ⟨(some 42), none, .act, .pick (.tmp 31) (.const (.bool true)) (.tmp 41)⟩,
     ⟨(some 6), none, .act, .mv (.tmp 42)⟩])))
  (.region [
    ⟨(some 43), none, .act, .bin .add (.tmp 26) (.const (.int .i64 1))⟩,
    ⟨(some 26), none, .act, .mv (.tmp 43)⟩]))))
def r6l2 : RCode :=
  (.seq (.region [
    ⟨(some 55), none, .act, .bin .lss (.tmp 54) (.tmp 53)⟩])
  (.seq (.cond (.tmp 55)
   .skip
   (.exit 4))
  (.seq (.block 5
   (.seq (.region [
     ⟨(some 56), none, .act, .indexAddr 8 (.tmp 52) (.tmp 54)⟩,
     ⟨(some 57), none, .act, .load true 8 (.tmp 56)⟩,
     ⟨(some 11), none, .act, .alloc [(.int .i64 0), (.int .u64 0), (.int .i64 0), (.int .u64 0), (.slice none 0 0), (.slice none 0 0), (.slice none 0 0), (.slice none 0 0)]⟩,
     ⟨none, none, .act, .store 8 (.tmp 11) (.tmp 57)⟩])
   (.seq (.seq (.region [
     ⟨(some 58), none, .act, .fieldAddr 1 (.tmp 11)⟩,
     ⟨(some 59), none, .act, .load false 1 (.tmp 58)⟩,
     ⟨(some 60), none, .act, .fieldAddr 1 (.tmp 5)⟩,
     ⟨(some 61), none, .act, .load false 1 (.tmp 60)⟩,
     ⟨(some 62), none, .act, .eq true .int (.tmp 59) (.tmp 61)⟩])
   (.cond (.tmp 62)
    (.exit 5)
    .skip))
   (.seq (.seq (.region [
     ⟨(some 63), none, .act, .fieldAddr 0 (.tmp 11)⟩,
     ⟨(some 64), none, .act, .load false 1 (.tmp 63)⟩,
     ⟨(some 65), none, .act, .eq false .int (.tmp 64) (.const (.int .i64 2))⟩])
   (.cond (.tmp 65)
    (.seq (.region [
      ⟨(some 66), none, .act, .fieldAddr 6 (.tmp 9)⟩,
      ⟨(some 67), none, .act, .load false 1 (.tmp 66)⟩,
      ⟨(some 68), none, .act, .fieldAddr 6 (.tmp 11)⟩,
      ⟨(some 69), none, .act, .load false 1 (.tmp 68)⟩,
      ⟨(some 70), none, .act, .append 4 64 [(.slice none 0 0), (.int .u64 0), (.int .u64 0), (.slice none 0 0)] (.tmp 67) (.tmp 69)⟩,
      ⟨(some 71), none, .act, .fieldAddr 6 (.tmp 9)⟩,
      ⟨none, none, .act, .store 1 (.tmp 71) (.tmp 70)⟩])
    (.region [
      ⟨(some 72), none, .act, .fieldAddr 7 (.tmp 9)⟩,
      ⟨(some 73), none, .act, .load false 1 (.tmp 72)⟩,
      ⟨(some 74), none, .act, .fieldAddr 4 (.tmp 11)⟩,
      ⟨(some 75), none, .act, .load true 2 (.tmp 74)⟩,
      ⟨(some 76), none, .act, .buildSl 2 [(.slice none 0 0), (.slice none 0 0)] 1 [(0, (.tmp 75))]⟩,
      ⟨(some 77), none, .act, .append 2 48 [(.slice none 0 0), (.slice none 0 0)] (.tmp 73) (.tmp 76)⟩,
      ⟨(some 78), none, .act, .fieldAddr 7 (.tmp 9)⟩,
      ⟨none, none, .act, .store 1 (.tmp 78) (.tmp 77)⟩]))
    .skip))
   (.seq (.seq (.region [
     ⟨(some 79), none, .act, .fieldAddr 2 (.tmp 9)⟩,
     ⟨(some 80), none, .act, .load false 1 (.tmp 79)⟩,
     ⟨(some 81), none, .act, .eq false .int (.tmp 80) (.const (.int .i64 0))⟩,
     ⟨(some 82), none, .act, .mv (.tmp 81)⟩,
     ⟨(some 83), (some (82, true)), .act, .fieldAddr 0 (.tmp 11)⟩,
     ⟨(some 84), (some (82, true)), .act, .load false 1 (.tmp 83)⟩,
     ⟨(some 85), (some (82, true)), .act, .eq false .int (.tmp 84) (.const (.int .i64 3))⟩,
     ⟨(some 86), none, .act, .pick (.tmp 82) (.tmp 85) (.const (.bool false))⟩])
   (.cond (.tmp 86)
    (.regionT (.step ⟨(some 87), none, .pure, .fieldAddr 3 (.tmp 11)⟩ (.step ⟨(some 89), none, .pure, .fieldAddr 7 (.tmp 11)⟩ (.step ⟨(some 91), none, .pure, .fieldAddr 2 (.tmp 9)⟩ (.alt ⟨(some 88), none, .read, .load false 1 (.tmp 87)⟩ (.alt ⟨(some 90), none, .read, .load false 1 (.tmp 89)⟩ (.alt ⟨none, none, .act, .store 1 (.tmp 91) (.const (.int .i64 1))⟩ (.step ⟨(some 92), none, .pure, .fieldAddr 4 (.tmp 9)⟩ (.alt ⟨none, none, .act, .store 1 (.tmp 92) (.tmp 88)⟩ (.step ⟨(some 93), none, .pure, .fieldAddr 5 (.tmp 9)⟩ (.alt ⟨none, none, .act, .store 1 (.tmp 93) (.tmp 90)⟩ .done
    .stop))
    .stop))
    .stop)
    (.alt ⟨none, none, .act, .store 1 (.tmp 91) (.const (.int .i64 1))⟩ (.step ⟨(some 92), none, .pure, .fieldAddr 4 (.tmp 9)⟩ (.alt ⟨(some 90), none, .read, .load false 1 (.tmp 89)⟩ (.alt ⟨none, none, .act, .store 1 (.tmp 92) (.tmp 88)⟩ (.step ⟨(some 93), none, .pure, .fieldAddr 5 (.tmp 9)⟩ (.alt ⟨none, none, .act, .store 1 (.tmp 93) (.tmp 90)⟩ .done
    .stop))
    .stop)
    (.alt ⟨none, none, .act, .store 1 (.tmp 92) (.tmp 88)⟩ (.step ⟨(some 90), none, .read, .load false 1 (.tmp 89)⟩ (.step ⟨(some 93), none, .pure, .fieldAddr 5 (.tmp 9)⟩ (.alt ⟨none, none, .act, .store 1 (.tmp 93) (.tmp 90)⟩ .done
    .stop)))
    .stop)))
    .stop))
    (.alt ⟨(some 90), none, .read, .load false 1 (.tmp 89)⟩ (.alt ⟨(some 88), none, .read, .load false 1 (.tmp 87)⟩ (.alt ⟨none, none, .act, .store 1 (.tmp 91) (.const (.int .i64 1))⟩ (.step ⟨(some 92), none, .pure, .fieldAddr 4 (.tmp 9)⟩ (.alt ⟨none, none, .act, .store 1 (.tmp 92) (.tmp 88)⟩ (.step ⟨(some 93), none, .pure, .fieldAddr 5 (.tmp 9)⟩ (.alt ⟨none, none, .act, .store 1 (.tmp 93) (.tmp 90)⟩ .done
    .stop))
    .stop))
    .stop)
    (.alt ⟨none, none, .act, .store 1 (.tmp 91) (.const (.int .i64 1))⟩ (.step ⟨(some 88), none, .read, .load false 1 (.tmp 87)⟩ (.step ⟨(some 92), none, .pure, .fieldAddr 4 (.tmp 9)⟩ (.alt ⟨none, none, .act, .store 1 (.tmp 92) (.tmp 88)⟩ (.step ⟨(some 93), none, .pure, .fieldAddr 5 (.tmp 9)⟩ (.alt ⟨none, none, .act, .store 1 (.tmp 93) (.tmp 90)⟩ .done
    .stop))
    .stop)))
    .stop))
    (.alt ⟨none, none, .act, .store 1 (.tmp 91) (.const (.int .i64 1))⟩ (.step ⟨(some 88), none, .read, .load false 1 (.tmp 87)⟩ (.step ⟨(some 92), none, .pure, .fieldAddr 4 (.tmp 9)⟩ (.alt ⟨(some 90), none, .read, .load false 1 (.tmp 89)⟩ (.alt ⟨none, none, .act, .store 1 (.tmp 92) (.tmp 88)⟩ (.step ⟨(some 93), none, .pure, .fieldAddr 5 (.tmp 9)⟩ (.alt ⟨none, none, .act, .store 1 (.tmp 93) (.tmp 90)⟩ .done
    .stop))
    .stop)
    (.alt ⟨none, none, .act, .store 1 (.tmp 92) (.tmp 88)⟩ (.step ⟨(some 90), none, .read, .load false 1 (.tmp 89)⟩ (.step ⟨(some 93), none, .pure, .fieldAddr 5 (.tmp 9)⟩ (.alt ⟨none, none, .act, .store 1 (.tmp 93) (.tmp 90)⟩ .done
    .stop)))
    .stop))))
    .stop)))))))
    .skip))
   (.seq (.region [
     ⟨(some 94), none, .act, .fieldAddr 2 (.tmp 9)⟩,
     ⟨(some 95), none, .act, .load false 1 (.tmp 94)⟩,
     ⟨(some 96), none, .act, .eq false .int (.tmp 95) (.const (.int .i64 0))⟩,
     ⟨(some 97), none, .act, .mv (.tmp 96)⟩,
     ⟨(some 98), (some (97, true)), .act, .fieldAddr 0 (.tmp 11)⟩,
     ⟨(some 99), (some (97, true)), .act, .load false 1 (.tmp 98)⟩,
     ⟨(some 100), (some (97, true)), .act, .eq false .int (.tmp 99) (.const (.int .i64 4))⟩,
     ⟨(some 101), none, .act, .pick (.tmp 97) (.tmp 100) (.const (.bool false))⟩])
   (.cond (.tmp 101)
    (.regionT (.step ⟨(some 102), none, .pure, .fieldAddr 3 (.tmp 11)⟩ (.step ⟨(some 104), none, .pure, .fieldAddr 7 (.tmp 11)⟩ (.step ⟨(some 106), none, .pure, .fieldAddr 2 (.tmp 9)⟩ (.alt ⟨(some 103), none, .read, .load false 1 (.tmp 102)⟩ (.alt ⟨(some 105), none, .read, .load false 1 (.tmp 104)⟩ (.alt ⟨none, none, .act, .store 1 (.tmp 106) (.const (.int .i64 2))⟩ (.step ⟨(some 107), none, .pure, .fieldAddr 4 (.tmp 9)⟩ (.alt ⟨none, none, .act, .store 1 (.tmp 107) (.tmp 103)⟩ (.step ⟨(some 108), none, .pure, .fieldAddr 5 (.tmp 9)⟩ (.alt ⟨none, none, .act, .store 1 (.tmp 108) (.tmp 105)⟩ .done
    .stop))
    .stop))
    .stop)
    (.alt ⟨none, none, .act, .store 1 (.tmp 106) (.const (.int .i64 2))⟩ (.step ⟨(some 107), none, .pure, .fieldAddr 4 (.tmp 9)⟩ (.alt ⟨(some 105), none, .read, .load false 1 (.tmp 104)⟩ (.alt ⟨none, none, .act, .store 1 (.tmp 107) (.tmp 103)⟩ (.step ⟨(some 108), none, .pure, .fieldAddr 5 (.tmp 9)⟩ (.alt ⟨none, none, .act, .store 1 (.tmp 108) (.tmp 105)⟩ .done
    .stop))
    .stop)
    (.alt ⟨none, none, .act, .store 1 (.tmp 107) (.tmp 103)⟩ (.step ⟨(some 105), none, .read, .load false 1 (.tmp 104)⟩ (.step ⟨(some 108), none, .pure, .fieldAddr 5 (.tmp 9)⟩ (.alt ⟨none, none, .act, .store 1 (.tmp 108) (.tmp 105)⟩ .done
    .stop)))
    .stop)))
    .stop))
    (.alt ⟨(some 105), none, .read, .load false 1 (.tmp 104)⟩ (.alt ⟨(some 103), none, .read, .load false 1 (.tmp 102)⟩ (.alt ⟨none, none, .act, .store 1 (.tmp 106) (.const (.int .i64 2))⟩ (.step ⟨(some 107), none, .pure, .fieldAddr 4 (.tmp 9)⟩ (.alt ⟨none, none, .act, .store 1 (.tmp 107) (.tmp 103)⟩ (.step ⟨(some 108), none, .pure, .fieldAddr 5 (.tmp 9)⟩ (.alt ⟨none, none, .act, .store 1 (.tmp 108) (.tmp 105)⟩ .done
    .stop))
    .stop))
    .stop)
    (.alt ⟨none, none, .act, .store 1 (.tmp 106) (.const (.int .i64 2))⟩ (.step ⟨(some 103), none, .read, .load false 1 (.tmp 102)⟩ (.step ⟨(some 107), none, .pure, .fieldAddr 4 (.tmp 9)⟩ (.alt ⟨none, none, .act, .store 1 (.tmp 107) (.tmp 103)⟩ (.step ⟨(some 108), none, .pure, .fieldAddr 5 (.tmp 9)⟩ (.alt ⟨none, none, .act, .store 1 (.tmp 108) (.tmp 105)⟩ .done
    .stop))
    .stop)))
    .stop))
    (.alt ⟨none, none, .act, .store 1 (.tmp 106) (.const (.int .i64 2))⟩ (.step ⟨(some 103), none, .read, .load false 1 (.tmp 102)⟩ (.step ⟨(some 107), none, .pure, .fieldAddr 4 (.tmp 9)⟩ (.alt ⟨(some 105), none, .read, .load false 1 (.tmp 104)⟩ (.alt ⟨none, none, .act, .store 1 (.tmp 107) (.tmp 103)⟩ (.step ⟨(some 108), none, .pure, .fieldAddr 5 (.tmp 9)⟩ (.alt ⟨none, none, .act, .store 1 (.tmp 108) (.tmp 105)⟩ .done
    .stop))
    .stop)
    (.alt ⟨none, none, .act, .store 1 (.tmp 107) (.tmp 103)⟩ (.step ⟨(some 105), none, .read, .load false 1 (.tmp 104)⟩ (.step ⟨(some 108), none, .pure, .fieldAddr 5 (.tmp 9)⟩ (.alt ⟨none, none, .act, .store 1 (.tmp 108) (.tmp 105)⟩ .done
    .stop)))
    .stop))))
    .stop)))))))
    .skip)))))))
  (.region [
    ⟨(some 109), none, .act, .bin .add (.tmp 54) (.const (.int .i64 1))⟩,
    ⟨(some 54), none, .act, .mv (.tmp 109)⟩]))))
def r6l0 : RCode :=
  (.seq (.region [
    ⟨(some 15), none, .act, .bin .lss (.tmp 14) (.tmp 13)⟩])
  (.seq (.cond (.tmp 15)
   .skip
   (.exit 0))
  (.seq (.block 1
   (.seq (.region [
     ⟨(some 16), none, .act, .mv (.tmp 14)⟩,
     ⟨(some 17), none, .act, .indexAddr 8 (.tmp 12) (.tmp 14)⟩,
     ⟨(some 18), none, .act, .load true 8 (.tmp 17)⟩,
     ⟨(some 5), none, .act, .alloc [(.int .i64 0), (.int .u64 0), (.int .i64 0), (.int .u64 0), (.slice none 0 0), (.slice none 0 0), (.slice none 0 0), (.slice none 0 0)]⟩,
     ⟨(some 4), none, .act, .mv (.tmp 16)⟩,
     ⟨none, none, .act, .store 8 (.tmp 5) (.tmp 18)⟩])
   (.seq (.seq (.region [
     ⟨(some 19), none, .act, .fieldAddr 0 (.tmp 5)⟩,
     ⟨(some 20), none, .act, .load false 1 (.tmp 19)⟩,
     ⟨(some 21), none, .act, .eq true .int (.tmp 20) (.const (.int .i64 1))⟩])
   (.cond (.tmp 21)
    (.exit 1)
    .skip))
   (.seq (.region [
     ⟨(some 6), none, .act, .mv (.const (.bool false))⟩])
   (.seq (.seq (.region [
     ⟨(some 22), none, .act, .mv (.tmp 0)⟩,
     ⟨(some 23), none, .act, .mv (.tmp 4)⟩,
     ⟨(some 24), none, .act, .sliceSl 8 (.tmp 22) none (some (.tmp 23)) none⟩,
     ⟨(some 25), none, .act, .len (.tmp 24)⟩,
     ⟨(some 26), none, .act, .mv (.const (.int .i64 0))⟩])
   (.block 2
    (.loop r6l1)))
   (.seq (.seq (.region [
     ⟨(some 44), none, .act, .mv (.tmp 6)⟩])
   (.cond (.tmp 44)
    (.exit 1)
    .skip))
   (.seq (.region [
     ⟨(some 45), none, .act, .fieldAddr 1 (.tmp 5)⟩,
     ⟨(some 46), none, .act, .load false 1 (.tmp 45)⟩,
     ⟨(some 47), none, .act, .fieldAddr 2 (.tmp 5)⟩,
     ⟨(some 48), none, .act, .load false 1 (.tmp 47)⟩,
     ⟨(some 49), none, .act, .fieldAddr 3 (.tmp 5)⟩,
     ⟨(some 50), none, .act, .load false 1 (.tmp 49)⟩,
     ⟨(some 51), none, .act, .build [(.int .u64 0), (.int .i64 0), (.int .i64 0), (.int .u64 0), (.int .u64 0), (.slice none 0 0), (.slice none 0 0), (.slice none 0 0)] [(0, 1, (.tmp 46)), (1, 1, (.tmp 48)), (3, 1, (.tmp 50))]⟩,
     ⟨(some 9), none, .act, .alloc [(.int .u64 0), (.int .i64 0), (.int .i64 0), (.int .u64 0), (.int .u64 0), (.slice none 0 0), (.slice none 0 0), (.slice none 0 0)]⟩,
     ⟨none, none, .act, .store 8 (.tmp 9) (.tmp 51)⟩])
   (.seq (.seq (.region [
     ⟨(some 52), none, .act, .mv (.tmp 0)⟩,
     ⟨(some 53), none, .act, .len (.tmp 52)⟩,
     ⟨(some 54), none, .act, .mv (.const (.int .i64 0))⟩])
   (.block 4
    (.loop r6l2)))
   (.region [
     ⟨(some 110), none, .act, .mv (.tmp 3)⟩,
     ⟨(some 111), none, .act, .load true 8 (.tmp 9)⟩,
     ⟨(some 112), none, .act, .buildSl 8 [(.int .u64 0), (.int .i64 0), (.int .i64 0), (.int .u64 0), (.int .u64 0), (.slice none 0 0), (.slice none 0 0), (.slice none 0 0)] 1 [(0, (.tmp 111))]⟩,
     ⟨(some 113), none, .act, .append 8 112 [(.int .u64 0), (.int .i64 0), (.int .i64 0), (.int .u64 0), (.int .u64 0), (.slice none 0 0), (.slice none 0 0), (.slice none 0 0)] (.tmp 110) (.tmp 112)⟩,
     ⟨(some 3), none, .act, .mv (.tmp 113)⟩])))))))))
  (.region [
    ⟨(some 114), none, .act, .bin .add (.tmp 14) (.const (.int .i64 1))⟩,
    ⟨(some 14), none, .act, .mv (.tmp 114)⟩]))))
def r6 : RCode :=
  (.seq (.region [
    ⟨(some 2), none, .act, .mv (.const (.slice none 0 0))⟩])
  (.seq (.region [
    ⟨(some 3), none, .act, .mv (.const (.slice none 0 0))⟩])
  (.seq (.seq (.region [
    ⟨(some 12), none, .act, .mv (.tmp 0)⟩,
    ⟨(some 13), none, .act, .len (.tmp 12)⟩,
    ⟨(some 14), none, .act, .mv (.const (.int .i64 0))⟩])
  (.block 0
   (.loop r6l0)))
  (.seq (.region [
    ⟨(some 115), none, .act, .mv (.tmp 3)⟩,
    ⟨(some 2), none, .act, .mv (.tmp 115)⟩])
  .ret))))
theorem res6 : ∃ c, Try.f6.body = some c ∧ resCode Try.prog 116 c = some r6 := ⟨_, rfl, by kernel_rfl⟩
theorem rr6 : resRes Try.prog Try.f6.results.toList = some [.tmp 2] := by kernel_rfl
def t6a : RTree :=
  (.step ⟨(some 87), none, .pure, .fieldAddr 3 (.tmp 11)⟩ (.step ⟨(some 89), none, .pure, .fieldAddr 7 (.tmp 11)⟩ (.step ⟨(some 91), none, .pure, .fieldAddr 2 (.tmp 9)⟩ (.alt ⟨(some 88), none, .read, .load false 1 (.tmp 87)⟩ (.alt ⟨(some 90), none, .read, .load false 1 (.tmp 89)⟩ (.alt ⟨none, none, .act, .store 1 (.tmp 91) (.const (.int .i64 1))⟩ (.step ⟨(some 92), none, .pure, .fieldAddr 4 (.tmp 9)⟩ (.alt ⟨none, none, .act, .store 1 (.tmp 92) (.tmp 88)⟩ (.step ⟨(some 93), none, .pure, .fieldAddr 5 (.tmp 9)⟩ (.alt ⟨none, none, .act, .store 1 (.tmp 93) (.tmp 90)⟩ .done
    .stop))
    .stop))
    .stop)
    (.alt ⟨none, none, .act, .store 1 (.tmp 91) (.const (.int .i64 1))⟩ (.step ⟨(some 92), none, .pure, .fieldAddr 4 (.tmp 9)⟩ (.alt ⟨(some 90), none, .read, .load false 1 (.tmp 89)⟩ (.alt ⟨none, none, .act, .store 1 (.tmp 92) (.tmp 88)⟩ (.step ⟨(some 93), none, .pure, .fieldAddr 5 (.tmp 9)⟩ (.alt ⟨none, none, .act, .store 1 (.tmp 93) (.tmp 90)⟩ .done
    .stop))
    .stop)
    (.alt ⟨none, none, .act, .store 1 (.tmp 92) (.tmp 88)⟩ (.step ⟨(some 90), none, .read, .load false 1 (.tmp 89)⟩ (.step ⟨(some 93), none, .pure, .fieldAddr 5 (.tmp 9)⟩ (.alt ⟨none, none, .act, .store 1 (.tmp 93) (.tmp 90)⟩ .done
    .stop)))
    .stop)))
    .stop))
    (.alt ⟨(some 90), none, .read, .load false 1 (.tmp 89)⟩ (.alt ⟨(some 88), none, .read, .load false 1 (.tmp 87)⟩ (.alt ⟨none, none, .act, .store 1 (.tmp 91) (.const (.int .i64 1))⟩ (.step ⟨(some 92), none, .pure, .fieldAddr 4 (.tmp 9)⟩ (.alt ⟨none, none, .act, .store 1 (.tmp 92) (.tmp 88)⟩ (.step ⟨(some 93), none, .pure, .fieldAddr 5 (.tmp 9)⟩ (.alt ⟨none, none, .act, .store 1 (.tmp 93) (.tmp 90)⟩ .done
    .stop))
    .stop))
    .stop)
    (.alt ⟨none, none, .act, .store 1 (.tmp 91) (.const (.int .i64 1))⟩ (.step ⟨(some 88), none, .read, .load false 1 (.tmp 87)⟩ (.step ⟨(some 92), none, .pure, .fieldAddr 4 (.tmp 9)⟩ (.alt ⟨none, none, .act, .store 1 (.tmp 92) (.tmp 88)⟩ (.step ⟨(some 93), none, .pure, .fieldAddr 5 (.tmp 9)⟩ (.alt ⟨none, none, .act, .store 1 (.tmp 93) (.tmp 90)⟩ .done
    .stop))
    .stop)))
    .stop))
    (.alt ⟨none, none, .act, .store 1 (.tmp 91) (.const (.int .i64 1))⟩ (.step ⟨(some 88), none, .read, .load false 1 (.tmp 87)⟩ (.step ⟨(some 92), none, .pure, .fieldAddr 4 (.tmp 9)⟩ (.alt ⟨(some 90), none, .read, .load false 1 (.tmp 89)⟩ (.alt ⟨none, none, .act, .store 1 (.tmp 92) (.tmp 88)⟩ (.step ⟨(some 93), none, .pure, .fieldAddr 5 (.tmp 9)⟩ (.alt ⟨none, none, .act, .store 1 (.tmp 93) (.tmp 90)⟩ .done
    .stop))
    .stop)
    (.alt ⟨none, none, .act, .store 1 (.tmp 92) (.tmp 88)⟩ (.step ⟨(some 90), none, .read, .load false 1 (.tmp 89)⟩ (.step ⟨(some 93), none, .pure, .fieldAddr 5 (.tmp 9)⟩ (.alt ⟨none, none, .act, .store 1 (.tmp 93) (.tmp 90)⟩ .done
    .stop)))
    .stop))))
    .stop))))))
def t6b : RTree :=
  (.step ⟨(some 102), none, .pure, .fieldAddr 3 (.tmp 11)⟩ (.step ⟨(some 104), none, .pure, .fieldAddr 7 (.tmp 11)⟩ (.step ⟨(some 106), none, .pure, .fieldAddr 2 (.tmp 9)⟩ (.alt ⟨(some 103), none, .read, .load false 1 (.tmp 102)⟩ (.alt ⟨(some 105), none, .read, .load false 1 (.tmp 104)⟩ (.alt ⟨none, none, .act, .store 1 (.tmp 106) (.const (.int .i64 2))⟩ (.step ⟨(some 107), none, .pure, .fieldAddr 4 (.tmp 9)⟩ (.alt ⟨none, none, .act, .store 1 (.tmp 107) (.tmp 103)⟩ (.step ⟨(some 108), none, .pure, .fieldAddr 5 (.tmp 9)⟩ (.alt ⟨none, none, .act, .store 1 (.tmp 108) (.tmp 105)⟩ .done
    .stop))
    .stop))
    .stop)
    (.alt ⟨none, none, .act, .store 1 (.tmp 106) (.const (.int .i64 2))⟩ (.step ⟨(some 107), none, .pure, .fieldAddr 4 (.tmp 9)⟩ (.alt ⟨(some 105), none, .read, .load false 1 (.tmp 104)⟩ (.alt ⟨none, none, .act, .store 1 (.tmp 107) (.tmp 103)⟩ (.step ⟨(some 108), none, .pure, .fieldAddr 5 (.tmp 9)⟩ (.alt ⟨none, none, .act, .store 1 (.tmp 108) (.tmp 105)⟩ .done
    .stop))
    .stop)
    (.alt ⟨none, none, .act, .store 1 (.tmp 107) (.tmp 103)⟩ (.step ⟨(some 105), none, .read, .load false 1 (.tmp 104)⟩ (.step ⟨(some 108), none, .pure, .fieldAddr 5 (.tmp 9)⟩ (.alt ⟨none, none, .act, .store 1 (.tmp 108) (.tmp 105)⟩ .done
    .stop)))
    .stop)))
    .stop))
    (.alt ⟨(some 105), none, .read, .load false 1 (.tmp 104)⟩ (.alt ⟨(some 103), none, .read, .load false 1 (.tmp 102)⟩ (.alt ⟨none, none, .act, .store 1 (.tmp 106) (.const (.int .i64 2))⟩ (.step ⟨(some 107), none, .pure, .fieldAddr 4 (.tmp 9)⟩ (.alt ⟨none, none, .act, .store 1 (.tmp 107) (.tmp 103)⟩ (.step ⟨(some 108), none, .pure, .fieldAddr 5 (.tmp 9)⟩ (.alt ⟨none, none, .act, .store 1 (.tmp 108) (.tmp 105)⟩ .done
    .stop))
    .stop))
    .stop)
    (.alt ⟨none, none, .act, .store 1 (.tmp 106) (.const (.int .i64 2))⟩ (.step ⟨(some 103), none, .read, .load false 1 (.tmp 102)⟩ (.step ⟨(some 107), none, .pure, .fieldAddr 4 (.tmp 9)⟩ (.alt ⟨none, none, .act, .store 1 (.tmp 107) (.tmp 103)⟩ (.step ⟨(some 108), none, .pure, .fieldAddr 5 (.tmp 9)⟩ (.alt ⟨none, none, .act, .store 1 (.tmp 108) (.tmp 105)⟩ .done
    .stop))
    .stop)))
    .stop))
    (.alt ⟨none, none, .act, .store 1 (.tmp 106) (.const (.int .i64 2))⟩ (.step ⟨(some 103), none, .read, .load false 1 (.tmp 102)⟩ (.step ⟨(some 107), none, .pure, .fieldAddr 4 (.tmp 9)⟩ (.alt ⟨(some 105), none, .read, .load false 1 (.tmp 104)⟩ (.alt ⟨none, none, .act, .store 1 (.tmp 107) (.tmp 103)⟩ (.step ⟨(some 108), none, .pure, .fieldAddr 5 (.tmp 9)⟩ (.alt ⟨none, none, .act, .store 1 (.tmp 108) (.tmp 105)⟩ .done
    .stop))
    .stop)
    (.alt ⟨none, none, .act, .store 1 (.tmp 107) (.tmp 103)⟩ (.step ⟨(some 105), none, .read, .load false 1 (.tmp 104)⟩ (.step ⟨(some 108), none, .pure, .fieldAddr 5 (.tmp 9)⟩ (.alt ⟨none, none, .act, .store 1 (.tmp 108) (.tmp 105)⟩ .done
    .stop)))
    .stop))))
    .stop))))))
def rcell (r : Run) (c1 c2 : Cap) : List AV := [u64 r.txn, i64 r.level, i64 r.state, u64 r.start, u64 r.ts, keysA r.keys, .sl 4 (r.seen.map seenC) c1, .sl 2 (r.spans.map spanC) c2]
abbrev l6 (rb eb : Nat) (a0 a3 a5 a12 a13 a14 a52 a53 a54 : AV) : List (Nat × AV) := [(0, a0), (3, a3), (5, a5), (9, ptr rb), (11, ptr eb), (12, a12), (13, a13), (14, a14), (52, a52), (53, a53), (54, a54)]
theorem t6a_ok (rb eb : Nat) (e : Ev) (r : Run) (c1 c2 : Cap) (a0 a3 a5 a12 a13 a14 a52 a53 a54 : AV) (h : AHeap) (hr : h rb = some (.box (rcell r c1 c2))) (he : h eb = some (.box (evC e))) (hne : eb ≠ rb) :
    RTreeS Try.prog (fun E' h' => ∃ a : Unit, True ∧ h' = h.set rb (.box (rcell { r with state := 1, ts := e.ts, keys := e.keys } c1 c2)) ∧ ∀ t x, Env.get (l6 rb eb a0 a3 a5 a12 a13 a14 a52 a53 a54) t = some x → E' t = some x) t6a (Env.get (l6 rb eb a0 a3 a5 a12 a13 a14 a52 a53 a54)) h := by
  unfold t6a
  unfold rcell at hr
  have hne2 := Ne.symm hne
  repeat' (first | refine S.nilK ?_ | (refine S.op rfl ?_; first | refine R.fieldAddr rfl ?_ | refine R.load (by decide) rfl (by (repeat' (first | assumption | refine AHeap.so ?_ ?_)); first | done | fail) rfl ?_) | (refine S.op0 rfl ?_; first | refine S.storeS rfl rfl rfl (by rfl) rfl (by first | decide | exact Nat.le_refl _ | exact Nat.le_of_ble_eq_true rfl) ?_ | refine S.store rfl rfl (by (repeat' (first | assumption)); first | done | fail) rfl rfl rfl (by rfl) rfl ?_) | refine S.talt ?_ ?_ | exact S.tstop)
  all_goals
    refine S.tdone ?_
    refine ⟨(), trivial, ?_, fun t x hx => Env.keep_get [0, 3, 5, 9, 11, 12, 13, 14, 52, 53, 54] _ t x hx⟩
    first
      | rfl
      | (simp only [AHeap.set_set]; rfl)
theorem t6b_ok (rb eb : Nat) (e : Ev) (r : Run) (c1 c2 : Cap) (a0 a3 a5 a12 a13 a14 a52 a53 a54 : AV) (h : AHeap) (hr : h rb = some (.box (rcell r c1 c2))) (he : h eb = some (.box (evC e))) (hne : eb ≠ rb) :
    RTreeS Try.prog (fun E' h' => ∃ a : Unit, True ∧ h' = h.set rb (.box (rcell { r with state := 2, ts := e.ts, keys := e.keys } c1 c2)) ∧ ∀ t x, Env.get (l6 rb eb a0 a3 a5 a12 a13 a14 a52 a53 a54) t = some x → E' t = some x) t6b (Env.get (l6 rb eb a0 a3 a5 a12 a13 a14 a52 a53 a54)) h := by
  unfold t6b
  unfold rcell at hr
  have hne2 := Ne.symm hne
  repeat' (first | refine S.nilK ?_ | (refine S.op rfl ?_; first | refine R.fieldAddr rfl ?_ | refine R.load (by decide) rfl (by (repeat' (first | assumption | refine AHeap.so ?_ ?_)); first | done | fail) rfl ?_) | (refine S.op0 rfl ?_; first | refine S.storeS rfl rfl rfl (by rfl) rfl (by first | decide | exact Nat.le_refl _ | exact Nat.le_of_ble_eq_true rfl) ?_ | refine S.store rfl rfl (by (repeat' (first | assumption)); first | done | fail) rfl rfl rfl (by rfl) rfl ?_) | refine S.talt ?_ ?_ | exact S.tstop)
  all_goals
    refine S.tdone ?_
    refine ⟨(), trivial, ?_, fun t x hx => Env.keep_get [0, 3, 5, 9, 11, 12, 13, 14, 52, 53, 54] _ t x hx⟩
    first
      | rfl
      | (simp only [AHeap.set_set]; rfl)
structure RB (rb : Nat) (h₀ h : AHeap) (r : Run) : Prop where
  ex : ∃ c1 c2, h rb = some (.box (rcell r c1 c2)) ∧ OwnT h c1 ∧ OwnT h c2 ∧ (∀ x, TokC c1 x → h₀ x = none) ∧ (∀ x, TokC c2 x → h₀ x = none) ∧ (∀ x, TokC c1 x → ¬ TokC c2 x)
  fr : ∀ x o, h₀ x = some o → h x = some o
  b0 : h₀ rb = none
theorem RB.nn {rb : Nat} {h₀ h : AHeap} {r : Run} (R0 : RB rb h₀ h r) {b : Nat} (hb : h b = none) : h₀ b = none := by
  cases e : h₀ b with
  | none => rfl
  | some o => rw [R0.fr b o e] at hb; cases hb
theorem RB.loc {rb : Nat} {h₀ h : AHeap} {r : Run} (R0 : RB rb h₀ h r) {b : Nat} (o : ABlk) (hb : h b = none) : RB rb (h₀.set b o) (h.set b o) r := by
  obtain ⟨⟨c1, c2, g1, g2, g3, g4, g5, g6⟩, g7, g8⟩ := R0
  have hrb : rb ≠ b := fun e => by subst e; rw [g1] at hb; cases hb
  refine ⟨⟨c1, c2, by rw [AHeap.set_other _ _ hrb]; exact g1, ownT_loc g2 fun x hx => AHeap.set_other _ _ (fun e => by subst e; exact ownT_own g2 x hx hb), ownT_loc g3 fun x hx => AHeap.set_other _ _ (fun e => by subst e; exact ownT_own g3 x hx hb), fun x hx => ?_, fun x hx => ?_, g6⟩, fun x o2 hx => ?_, by rw [AHeap.set_other _ _ hrb]; exact g8⟩
  · rw [AHeap.set_other _ _ (fun e => by subst e; exact ownT_own g2 x hx hb)]; exact g4 x hx
  · rw [AHeap.set_other _ _ (fun e => by subst e; exact ownT_own g3 x hx hb)]; exact g5 x hx
  · by_cases hxb : x = b
    · subst hxb; rw [AHeap.set_same] at hx ⊢; exact hx
    · rw [AHeap.set_other _ _ hxb] at hx ⊢; exact g7 x o2 hx
theorem RB.weak {rb : Nat} {h₀ h1 h : AHeap} {r : Run} (R0 : RB rb h1 h r) (hs : ∀ x o, h₀ x = some o → h1 x = some o) : RB rb h₀ h r := by
  obtain ⟨⟨c1, c2, g1, g2, g3, g4, g5, g6⟩, g7, g8⟩ := R0
  have hn : ∀ x, h1 x = none → h₀ x = none := fun x e => by
    cases e0 : h₀ x with
    | none => rfl
    | some o => rw [hs x o e0] at e; cases e
  exact ⟨⟨c1, c2, g1, g2, g3, fun x hx => hn x (g4 x hx), fun x hx => hn x (g5 x hx), g6⟩, fun x o hx => g7 x o (hs x o hx), hn rb g8⟩
theorem RB.drop {rb : Nat} {h₀ h : AHeap} {r : Run} {b : Nat} {o : ABlk} (R0 : RB rb (h₀.set b o) h r) (hb : h₀ b = none) : RB rb h₀ h r :=
  R0.weak fun x o2 hx => by rw [AHeap.set_other _ _ (fun e => by subst e; rw [hb] at hx; cases hx)]; exact hx
theorem seenC_one (L : List Seen) : ∀ e ∈ L.map seenC, ∀ a ∈ e, a.one = true := by
  intro e he a ha
  obtain ⟨s, _, rfl⟩ := List.mem_map.1 he
  exact List.all_eq_true.1 (show (seenC s).all AV.one = true from rfl) a ha
theorem spanC_one (p : Span) : ∀ e ∈ [spanC p], ∀ a ∈ e, a.one = true := by
  intro e he a ha
  simp only [List.mem_singleton] at he
  subst he
  exact List.all_eq_true.1 (show (spanC p).all AV.one = true from rfl) a ha
end Go.Proofs.Ythfolomknkobkaa
