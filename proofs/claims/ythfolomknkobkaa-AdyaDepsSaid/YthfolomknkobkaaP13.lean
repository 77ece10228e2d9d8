/-
  AdyaDeps answers true for every history
-/
import Derived.Test.YthfolomknkobkaaP12
set_option linter.unusedVariables false
namespace Go.Av
def Env.get : List (Nat × AV) → Nat → Option AV
  | [], _ => none
  | (k, x) :: r, t => match Nat.beq t k with | true => some x | false => Env.get r t
theorem put_get (l : List (Nat × AV)) (d : Nat) (x : AV) : AEnv.put (Env.get l) (some d) x = Env.get ((d, x) :: l) := by
  funext t
  simp only [AEnv.put, Env.get]
  by_cases h : t = d
  · subst h; simp
  · rw [if_neg h]
    have : Nat.beq t d = false := by cases hb : Nat.beq t d with | false => rfl | true => exact absurd (Nat.eq_of_beq_eq_true hb) h
    rw [this]
theorem envOf_get : ∀ (args : List AV), envOf args = Env.get ((args.zipIdx).map fun p => (p.2, p.1)) := by
  have key : ∀ (args : List AV) (k t : Nat), Env.get ((args.zipIdx k).map fun p => (p.2, p.1)) (k + t) = args[t]? := by
    intro args
    induction args with
    | nil => intro k t; rfl
    | cons a args ih =>
      intro k t
      simp only [List.zipIdx_cons, List.map_cons, Env.get]
      cases t with
      | zero => simp
      | succ t =>
        have : Nat.beq (k + (t + 1)) k = false := by cases hb : Nat.beq (k + (t + 1)) k with | false => rfl | true => have := Nat.eq_of_beq_eq_true hb; omega
        rw [this]
        have := ih (k + 1) t
        rw [show k + (t + 1) = k + 1 + t by omega]
        simpa using this
  intro args
  funext t
  have := key args 0 t
  simpa [envOf] using this.symm
section
variable {P : Program} {ro : Option Nat} {n : Nat} {h : AHeap} {Q : Option Code → AEnv → AHeap → Prop} {K : AEnv → AHeap → Prop} {l : List (Nat × AV)} {rest : List RItem} {c : Cls} {d : Nat}
theorem S.op {g : Option (Tmp × Bool)} {r : ROp} (hg : RItem.want ⟨some d, g, c, r⟩ (Env.get l) = some true) (H : ROpS P c r (Env.get l) h (fun x h' => RChain P rest (Env.get ((d, x) :: l)) h' K)) : RChain P (⟨some d, g, c, r⟩ :: rest) (Env.get l) h K := by
  simp only [RChain, hg]
  simpa only [put_get] using H
theorem S.op0 {g : Option (Tmp × Bool)} {r : ROp} (hg : RItem.want ⟨none, g, c, r⟩ (Env.get l) = some true) (H : ROpS P c r (Env.get l) h (fun x h' => RChain P rest (Env.get l) h' K)) : RChain P (⟨none, g, c, r⟩ :: rest) (Env.get l) h K := by
  simp only [RChain, hg]
  exact H
theorem S.skip {g : Option (Tmp × Bool)} {r : ROp} (hg : RItem.want ⟨some d, g, c, r⟩ (Env.get l) = some false) (H : RChain P rest (Env.get ((d, .v undef) :: l)) h K) : RChain P (⟨some d, g, c, r⟩ :: rest) (Env.get l) h K := by
  simp only [RChain, hg]
  simpa only [put_get] using H
theorem S.nilK (H : K (Env.get l) h) : RChain P [] (Env.get l) h K := H
theorem cmp_true {op : BinOp} {k : IntKind} {a b : Int} {p : Prop} [Decidable p] {K : AV → AHeap → Prop} {E : AEnv} {x y : Operand} (hx : aev E x = some (.v (.int k a))) (hy : aev E y = some (.v (.int k b))) (hv : binInt op k a b = some (.bool (decide p)))
    (H1 : p → K (.v (.bool true)) h) (H2 : ¬ p → K (.v (.bool false)) h) : ROpS P c (.bin op x y) E h K := by
  refine R.bin hx hy hv ?_
  by_cases hp : p
  · simpa [hp] using H1 hp
  · simpa [hp] using H2 hp
theorem S.lss {k : IntKind} {a b : Int} {K : AV → AHeap → Prop} {E : AEnv} {x y : Operand} (hx : aev E x = some (.v (.int k a))) (hy : aev E y = some (.v (.int k b))) (H1 : a < b → K (.v (.bool true)) h) (H2 : ¬ a < b → K (.v (.bool false)) h) : ROpS P c (.bin .lss x y) E h K := cmp_true hx hy rfl H1 H2
theorem S.leq {k : IntKind} {a b : Int} {K : AV → AHeap → Prop} {E : AEnv} {x y : Operand} (hx : aev E x = some (.v (.int k a))) (hy : aev E y = some (.v (.int k b))) (H1 : a ≤ b → K (.v (.bool true)) h) (H2 : ¬ a ≤ b → K (.v (.bool false)) h) : ROpS P c (.bin .leq x y) E h K := cmp_true hx hy rfl H1 H2
theorem S.gtr {k : IntKind} {a b : Int} {K : AV → AHeap → Prop} {E : AEnv} {x y : Operand} (hx : aev E x = some (.v (.int k a))) (hy : aev E y = some (.v (.int k b))) (H1 : b < a → K (.v (.bool true)) h) (H2 : ¬ b < a → K (.v (.bool false)) h) : ROpS P c (.bin .gtr x y) E h K := cmp_true hx hy rfl H1 H2
theorem S.geq {k : IntKind} {a b : Int} {K : AV → AHeap → Prop} {E : AEnv} {x y : Operand} (hx : aev E x = some (.v (.int k a))) (hy : aev E y = some (.v (.int k b))) (H1 : b ≤ a → K (.v (.bool true)) h) (H2 : ¬ b ≤ a → K (.v (.bool false)) h) : ROpS P c (.bin .geq x y) E h K := cmp_true hx hy rfl H1 H2
theorem S.eqInt {neg : Bool} {kk : EqK} {k : IntKind} {a b : Int} {K : AV → AHeap → Prop} {E : AEnv} {x y : Operand} (hx : aev E x = some (.v (.int k a))) (hy : aev E y = some (.v (.int k b))) (H1 : a = b → K (.v (.bool (!neg))) h) (H2 : a ≠ b → K (.v (.bool neg)) h) : ROpS P c (.eq neg kk x y) E h K := by
  refine R.eqInt hx hy ?_
  by_cases hp : a = b
  · have := H1 hp; subst hp; cases neg <;> simpa using this
  · have := H2 hp; have hb : (a == b) = false := by simpa using hp
    cases neg <;> simpa [hb] using this
theorem S.seq {x y : RCode} {k : List RT} {E : AEnv} (H : RRunG P ro n (.code x :: .code y :: k) E h Q) : RRunG P ro n (.code (.seq x y) :: k) E h Q := RRun.seq H
theorem S.regionT {t : RTree} {k : List RT} {E : AEnv} (H : RTreeS P (fun E' h' => RRunG P ro n k E' h' Q) t E h) : RRunG P ro n (.code (.regionT t) :: k) E h Q := RRun.regionT H
theorem S.tdone {K : AEnv → AHeap → Prop} {E : AEnv} (H : K E h) : RTreeS P K .done E h := H
theorem S.talt {K : AEnv → AHeap → Prop} {E : AEnv} {i : RItem} {t r : RTree} (H : RChain P [i] E h (RTreeS P K t)) (H' : RTreeS P K r E h) : RTreeS P K (.alt i t r) E h := ⟨H, H'⟩
theorem S.tstop {K : AEnv → AHeap → Prop} {E : AEnv} : RTreeS P K .stop E h := trivial
theorem S.region {items : List RItem} {k : List RT} {E : AEnv} (H : RChain P items E h (fun E' h' => RRunG P ro n k E' h' Q)) : RRunG P ro n (.code (.region items) :: k) E h Q := RRun.region H
theorem S.condT {cc : Operand} {x y : RCode} {k : List RT} {E : AEnv} (hc : aev E cc = some (.v (.bool true))) (H : RRunG P ro n (.code x :: k) E h Q) : RRunG P ro n (.code (.cond cc x y) :: k) E h Q := RRun.cond (t := true) hc H
theorem S.condF {cc : Operand} {x y : RCode} {k : List RT} {E : AEnv} (hc : aev E cc = some (.v (.bool false))) (H : RRunG P ro n (.code y :: k) E h Q) : RRunG P ro n (.code (.cond cc x y) :: k) E h Q := RRun.cond (t := false) hc H
theorem RRun.weaken {k : List RT} {E E' : AEnv} {h' : AHeap} (hE : ∀ t x, E' t = some x → E t = some x) (hh : ∀ w, Rel h w → Rel h' w ∧ Evol h w h' w) (H : RRunG P ro n k E' h' Q) : RRunG P ro n k E h Q := by
  intro todo ht ds a w hs b cs hb
  obtain ⟨hr, hev⟩ := hh w hs.rel
  have hs' : St n ds E' h' a w := ⟨hs.defers, hs.size, fun t x hx => let ⟨u, h1, h2⟩ := hs.env t x (hE t x hx); ⟨u, h1, h2.mono hev.stab⟩, hr⟩
  obtain ⟨a', w', t', j, E'', h'', ms, s, r1, r2, r3, r4, r5⟩ := H todo ht ds a w hs' b cs hb
  exact ⟨a', w', t', j, E'', h'', ms, s, r1, r2, r3, hev.trans r4, r5⟩
def Env.keep : List Nat → List (Nat × AV) → List (Nat × AV)
  | [], _ => []
  | t :: ts, l => match Env.get l t with | some x => (t, x) :: Env.keep ts l | none => Env.keep ts l
theorem Env.keep_get : ∀ (ts : List Nat) (l : List (Nat × AV)) (t : Nat) (x : AV), Env.get (Env.keep ts l) t = some x → Env.get l t = some x
  | [], _, _, _, h => by simp [Env.keep, Env.get] at h
  | s :: ts, l, t, x, h => by
    simp only [Env.keep] at h
    split at h
    · rename_i y hy
      simp only [Env.get] at h
      split at h
      · rename_i hb
        have := Nat.eq_of_beq_eq_true hb
        subst this
        rw [hy]; exact h
      · exact Env.keep_get ts l t x h
    · exact Env.keep_get ts l t x h
theorem S.keep (ts : List Nat) {k : List RT} {l' : List (Nat × AV)} (hl : Env.keep ts l = l') (H : RRunG P ro n k (Env.get l') h Q) : RRunG P ro n k (Env.get l) h Q :=
  RRun.weaken (fun t x hx => Env.keep_get ts l t x (by rw [hl]; exact hx)) (fun w hr => ⟨hr, .refl h w⟩) H
end
def Env.puts (l : List (Nat × AV)) : List Tmp → List AV → List (Nat × AV)
  | t :: ts, x :: xs => Env.puts ((t, x) :: l) ts xs
  | _, _ => l
theorem puts_get : ∀ (ts : List Tmp) (xs : List AV) (l : List (Nat × AV)), puts (Env.get l) ts xs = Env.get (Env.puts l ts xs)
  | [], _, _ => rfl
  | t :: ts, [], _ => rfl
  | t :: ts, x :: xs, l => by simp only [puts, Env.puts, put_get]; exact puts_get ts xs _
abbrev loop0 (l : List (Nat × AV)) (n : Nat) (ps : Array Tmp) (cx cy : Code) : ALoop := ⟨Env.get l, n, ps, cx, cy, .ready, none⟩
theorem S.rangeFunc {P : Program} {ro : Option Nat} {n : Nat} {h : AHeap} {Q : Option Code → AEnv → AHeap → Prop} {k : List RT} {l : List (Nat × AV)} {g : Operand} {ps : Array Tmp} {x y : RCode} {f : FuncId} {first captured : List AV} {av : AV}
    (hg : aev (Env.get l) g = some av) (hfn : FnIs av f first captured) (hp : plainCallee P f = true) (hro : ∀ l0, ro = some l0 → ∃ r0, h l0 = some (.loop r0))
    (H : ∀ cx cy, Resd P n cx x → Resd P n cy y → ∀ b, h b = none → ACalls P f (first ++ yieldV b :: captured) (h.set b (.loop (loop0 l n ps cx cy)))
      (fun _ h' => ∃ r, h' b = some (.loop r) ∧ r.state ≠ .busy ∧ JumpS P ro n r.pending k (Env.get l) (h'.del b) Q)) : RRunG P ro n (.code (.rangeFunc g ps x y) :: k) (Env.get l) h Q :=
  RRunG.rangeFuncC hg hfn hp hro fun cx cy h1 h2 b hb => by
    have := H cx cy h1 h2 b hb
    rw [show first ++ [yieldV b] ++ captured = first ++ yieldV b :: captured by simp]
    exact this
theorem S.begin {P : Program} {b n : Nat} {h : AHeap} {E : AEnv} {Q : Option Code → AEnv → AHeap → Prop} {k : List RT} {r : ALoop} (hl : h b = some (.loop r)) (hr : r.state = .ready) (H : RRunG P (some b) n k E (h.set b (.loop { r with state := .busy })) Q) : RRunG P (some b) n (.begin :: k) E h Q :=
  RRunG.begin hl hr H
theorem AYield.mk {P : Program} {b : Nat} {as : List AV} {h : AHeap} {K : Bool → AHeap → Prop} {l l' : List (Nat × AV)} {n : Nat} {ps : Array Tmp} {cx cy : Code} {x y : RCode} {st : LoopState} {pd : Option Code} (hl : h b = some (.loop ⟨Env.get l, n, ps, cx, cy, st, pd⟩)) (hx : Resd P n cx x) (hy : Resd P n cy y)
    (hlen : as.length = ps.size) (hps : (ps.toList.all fun t => decide (t < n)) = true) (hl' : Env.puts l ps.toList as = l')
    (H : RRunG P (some b) n [.code x, .begin, .code y] (Env.get l') h (fun j _ h' => ∃ r', h' b = some (.loop r') ∧ K j.isNone (h'.set b (.loop { r' with state := if j.isNone then .ready else .done, pending := j })))) : AYield P b as h K :=
  ⟨_, x, y, hl, hx, hy, hlen, hps, by rw [puts_get, hl']; exact H⟩
theorem ACalls.enter {P : Program} {f : FuncId} {fn : Func} {c : Code} {r : RCode} {args : List AV} {h : AHeap} {K : AV → AHeap → Prop} (hf : P.funcs[f]? = some fn) (hb : fn.body = some c) {n : Nat} (hn : fn.ntmps = n) {md : Nat → Bool} (hc : resCodeM P n md c = some r)
    (hl : args.length ≤ n) {l : List (Nat × AV)} (hE : ((args.zipIdx).map fun p => (p.2, p.1)) = l) (H : RRun P fn n [.code r] (Env.get l) h K) : ACalls P f args h K :=
  ACalls.of_run hf hb hn hc hl (by rw [envOf_get, hE]; exact H)
end Go.Av
