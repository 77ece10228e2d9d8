/-
  AdyaDeps answers true for every history
-/
import Derived.Test.YthfolomknkobkaaP18
import Derived.Test.YthfolomknkobkaaP20
import Derived.Test.YthfolomknkobkaaP12
set_option linter.unusedVariables false
namespace Go.Av
inductive ECap where
  | ro | full | tok (i : Nat)
  deriving DecidableEq, Inhabited
inductive EV where
  | k (x : Value)
  | pt (i off : Nat)
  | mp (i : Nat)
  | fn (f : FuncId) (cap : List EV)
  | sl (sz : Nat) (es : List (List EV)) (c : ECap)
  | rp (cs : List EV)
  | ag (cs : List EV)
  | tu (cs : List EV)
  | yd (i : Nat)
  | it (i : Nat)
  | slb (i len : Nat)
  deriving Inhabited
inductive EBlk where
  | box (cs : List EV)
  | map (es : List (Value × EV))
  | grow
  | dead
  | iter (m : Option Nat)
  | loop
  deriving Inhabited
def EBlk.isObj : EBlk → Bool
  | .iter _ => true
  | .loop => true
  | _ => false
structure Ren where
  b : Nat → Option Nat
  c : Nat → Option Cap
  o : Nat → Option (Nat × ABlk)
  t : Nat → List AV
  k : Nat → Nat
def Ren.le (ρ ρ' : Ren) : Prop := (∀ i x, ρ.b i = some x → ρ'.b i = some x) ∧ (∀ i x, ρ.c i = some x → ρ'.c i = some x) ∧ (∀ i x, ρ.o i = some x → ρ'.o i = some x) ∧ (∀ i x, ρ.b i = some x → ρ'.t i = ρ.t i ∧ ρ'.k i = ρ.k i)
theorem Ren.le.refl (ρ : Ren) : ρ.le ρ := ⟨fun _ _ h => h, fun _ _ h => h, fun _ _ h => h, fun _ _ _ => ⟨rfl, rfl⟩⟩
theorem Ren.le.trans {a b c : Ren} (h : a.le b) (h' : b.le c) : a.le c := ⟨fun i x e => h'.1 i x (h.1 i x e), fun i x e => h'.2.1 i x (h.2.1 i x e), fun i x e => h'.2.2.1 i x (h.2.2.1 i x e), fun i x e => let ⟨p, q⟩ := h.2.2.2 i x e; let ⟨p', q'⟩ := h'.2.2.2 i x (h.1 i x e); ⟨p'.trans p, q'.trans q⟩⟩
inductive RC (ρ : Ren) : ECap → Cap → Prop
  | ro : RC ρ .ro .ro
  | full : RC ρ .full .full
  | tok {i : Nat} {c : Cap} : ρ.c i = some c → RC ρ (.tok i) c
theorem RC.mono {ρ ρ' : Ren} (h : ρ.le ρ') {x : ECap} {y : Cap} : RC ρ x y → RC ρ' x y
  | .ro => .ro
  | .full => .full
  | .tok e => .tok (h.2.1 _ _ e)
mutual
inductive RV (ρ : Ren) : EV → AV → Prop
  | k (x : Value) : RV ρ (.k x) (.v x)
  | pt {i b : Nat} (off : Nat) : ρ.b i = some b → RV ρ (.pt i off) (.v (.pointer (some ⟨b, off, none⟩)))
  | mp {i b : Nat} : ρ.b i = some b → RV ρ (.mp i) (.v (.map (some b)))
  | fn (f : FuncId) {cap : List EV} (vs : List Value) : RVs ρ cap (vs.map .v) → RV ρ (.fn f cap) (.v (.func (.func f) #[] vs.toArray))
  | sl (sz : Nat) {es : List (List EV)} {as : List (List AV)} {c : ECap} {c' : Cap} : RVss ρ es as → RC ρ c c' → RV ρ (.sl sz es c) (.sl sz as c')
  | rp {cs : List EV} {as : List AV} : RVs ρ cs as → RV ρ (.rp cs) (.rp as)
  | ag {cs : List EV} {as : List AV} : RVs ρ cs as → RV ρ (.ag cs) (.ag as)
  | tu {cs : List EV} {as : List AV} : RVs ρ cs as → RV ρ (.tu cs) (.tu as)
  | yd {i b : Nat} {a : ABlk} : ρ.o i = some (b, a) → RV ρ (.yd i) (.v (.func (.yield b) #[] #[]))
  | it {i b : Nat} {a : ABlk} : ρ.o i = some (b, a) → RV ρ (.it i) (.v (.pointer (some ⟨b, 0, none⟩)))
  | slb {i b : Nat} (len k : Nat) : ρ.b i = some b → ρ.k i = k → RV ρ (.slb i len) (slAt b 0 len k)
inductive RVs (ρ : Ren) : List EV → List AV → Prop
  | nil : RVs ρ [] []
  | cons {e : EV} {a : AV} {es : List EV} {as : List AV} : RV ρ e a → RVs ρ es as → RVs ρ (e :: es) (a :: as)
inductive RVss (ρ : Ren) : List (List EV) → List (List AV) → Prop
  | nil : RVss ρ [] []
  | cons {e : List EV} {a : List AV} {es : List (List EV)} {as : List (List AV)} : RVs ρ e a → RVss ρ es as → RVss ρ (e :: es) (a :: as)
end
mutual
theorem RV.mono {ρ ρ' : Ren} (h : ρ.le ρ') {e : EV} {a : AV} : RV ρ e a → RV ρ' e a
  | .k x => .k x
  | .pt off e => .pt off (h.1 _ _ e)
  | .mp e => .mp (h.1 _ _ e)
  | .fn f vs r => .fn f vs (RVs.mono h r)
  | .sl sz r c => .sl sz (RVss.mono h r) (c.mono h)
  | .rp r => .rp (RVs.mono h r)
  | .ag r => .ag (RVs.mono h r)
  | .tu r => .tu (RVs.mono h r)
  | .yd e => .yd (h.2.2.1 _ _ e)
  | .it e => .it (h.2.2.1 _ _ e)
  | .slb l k e f => .slb l k (h.1 _ _ e) (((h.2.2.2 _ _ e).2).trans f)
theorem RVs.mono {ρ ρ' : Ren} (h : ρ.le ρ') {e : List EV} {a : List AV} : RVs ρ e a → RVs ρ' e a
  | .nil => .nil
  | .cons r rs => .cons (RV.mono h r) (RVs.mono h rs)
theorem RVss.mono {ρ ρ' : Ren} (h : ρ.le ρ') {e : List (List EV)} {a : List (List AV)} : RVss ρ e a → RVss ρ' e a
  | .nil => .nil
  | .cons r rs => .cons (RVs.mono h r) (RVss.mono h rs)
end
section
variable {ρ : Ren}
theorem RVs.length : ∀ {es : List EV} {as : List AV}, RVs ρ es as → as.length = es.length
  | _, _, .nil => rfl
  | _, _, .cons _ h => by simp [RVs.length h]
theorem RVs.get : ∀ {es : List EV} {as : List AV}, RVs ρ es as → ∀ {i : Nat} {e : EV}, es[i]? = some e → ∃ a, as[i]? = some a ∧ RV ρ e a
  | _, _, .nil, i, e, h => by simp at h
  | _, _, .cons (a := a) h1 h2, 0, e, h => by simp at h; subst h; exact ⟨a, rfl, h1⟩
  | _, _, .cons h1 h2, i + 1, e, h => by simp at h; simpa using RVs.get h2 h
theorem RVs.append : ∀ {es fs : List EV} {as bs : List AV}, RVs ρ es as → RVs ρ fs bs → RVs ρ (es ++ fs) (as ++ bs)
  | _, _, _, _, .nil, h => h
  | _, _, _, _, .cons h1 h2, h => .cons h1 (RVs.append h2 h)
theorem RVs.take : ∀ {es : List EV} {as : List AV}, RVs ρ es as → ∀ n, RVs ρ (es.take n) (as.take n)
  | _, _, .nil, n => by simpa using .nil
  | _, _, .cons h1 h2, 0 => by simpa using .nil
  | _, _, .cons h1 h2, n + 1 => .cons h1 (RVs.take h2 n)
theorem RVs.drop : ∀ {es : List EV} {as : List AV}, RVs ρ es as → ∀ n, RVs ρ (es.drop n) (as.drop n)
  | _, _, .nil, n => by simpa using .nil
  | _, _, .cons h1 h2, 0 => .cons h1 h2
  | _, _, .cons h1 h2, n + 1 => RVs.drop h2 n
theorem RVs.set : ∀ {es : List EV} {as : List AV}, RVs ρ es as → ∀ (i : Nat) {e : EV} {a : AV}, RV ρ e a → RVs ρ (es.set i e) (as.set i a)
  | _, _, .nil, i, _, _, _ => by simpa using .nil
  | _, _, .cons h1 h2, 0, _, _, h => .cons h h2
  | _, _, .cons h1 h2, i + 1, _, _, h => .cons h1 (RVs.set h2 i h)
theorem RVs.map_k : ∀ (l : List Value), RVs ρ (l.map .k) (l.map .v)
  | [] => .nil
  | x :: l => .cons (.k x) (RVs.map_k l)
theorem RVss.length : ∀ {es : List (List EV)} {as : List (List AV)}, RVss ρ es as → as.length = es.length
  | _, _, .nil => rfl
  | _, _, .cons _ h => by simp [RVss.length h]
theorem RVss.get : ∀ {es : List (List EV)} {as : List (List AV)}, RVss ρ es as → ∀ {i : Nat} {e : List EV}, es[i]? = some e → ∃ a, as[i]? = some a ∧ RVs ρ e a
  | _, _, .nil, i, e, h => by simp at h
  | _, _, .cons (a := a) h1 h2, 0, e, h => by simp at h; subst h; exact ⟨a, rfl, h1⟩
  | _, _, .cons h1 h2, i + 1, e, h => by simp at h; simpa using RVss.get h2 h
theorem RVss.append : ∀ {es fs : List (List EV)} {as bs : List (List AV)}, RVss ρ es as → RVss ρ fs bs → RVss ρ (es ++ fs) (as ++ bs)
  | _, _, _, _, .nil, h => h
  | _, _, _, _, .cons h1 h2, h => .cons h1 (RVss.append h2 h)
theorem RVss.take : ∀ {es : List (List EV)} {as : List (List AV)}, RVss ρ es as → ∀ n, RVss ρ (es.take n) (as.take n)
  | _, _, .nil, n => by simpa using .nil
  | _, _, .cons h1 h2, 0 => by simpa using .nil
  | _, _, .cons h1 h2, n + 1 => .cons h1 (RVss.take h2 n)
theorem RVss.drop : ∀ {es : List (List EV)} {as : List (List AV)}, RVss ρ es as → ∀ n, RVss ρ (es.drop n) (as.drop n)
  | _, _, .nil, n => by simpa using .nil
  | _, _, .cons h1 h2, 0 => .cons h1 h2
  | _, _, .cons h1 h2, n + 1 => RVss.drop h2 n
def EV.one : EV → Bool
  | .k x => x.oneCell'
  | .ag _ => false
  | .tu _ => false
  | _ => true
def EV.cells? : EV → Option (List EV)
  | .k (.agg vs) => if vs.toList.all Value.oneCell' then some (vs.toList.map .k) else none
  | .k (.tuple _) => none
  | .k x => some [.k x]
  | .ag cs => if cs.all EV.one then some cs else none
  | .tu _ => none
  | x => some [x]
theorem RV.one {e : EV} {a : AV} (h : RV ρ e a) (h1 : e.one = true) : a.one = true := by
  cases h with
  | k x => exact h1
  | pt _ _ => rfl
  | mp _ => rfl
  | fn _ _ _ => rfl
  | sl _ _ _ => rfl
  | rp _ => rfl
  | ag _ => cases h1
  | tu _ => cases h1
  | yd _ => rfl
  | it _ => rfl
  | slb _ _ _ _ => rfl
theorem RVs.one : ∀ {es : List EV} {as : List AV}, RVs ρ es as → es.all EV.one = true → as.all AV.one = true
  | _, _, .nil, _ => rfl
  | _, _, .cons h1 h2, h => by
    simp only [List.all_cons, Bool.and_eq_true] at h ⊢
    exact ⟨h1.one h.1, RVs.one h2 h.2⟩
theorem RV.cells? {e : EV} {a : AV} (h : RV ρ e a) {cs : List EV} (hc : e.cells? = some cs) : ∃ as, a.cells? = some as ∧ RVs ρ cs as := by
  cases h with
  | k x =>
    cases x with
    | agg vs =>
      simp only [EV.cells?] at hc
      split at hc
      · rename_i hall; cases hc; exact ⟨_, by simp only [AV.cells?, hall, if_true], RVs.map_k _⟩
      · cases hc
    | tuple vs => simp [EV.cells?] at hc
    | _ => simp only [EV.cells?, Option.some.injEq] at hc; subst hc; exact ⟨_, by simp [AV.cells?, Value.oneCell'], .cons (.k _) .nil⟩
  | pt off h => simp only [EV.cells?, Option.some.injEq] at hc; subst hc; exact ⟨_, by simp [AV.cells?, Value.oneCell'], .cons (.pt off h) .nil⟩
  | mp h => simp only [EV.cells?, Option.some.injEq] at hc; subst hc; exact ⟨_, by simp [AV.cells?, Value.oneCell'], .cons (.mp h) .nil⟩
  | fn f vs h => simp only [EV.cells?, Option.some.injEq] at hc; subst hc; exact ⟨_, by simp [AV.cells?, Value.oneCell'], .cons (.fn f vs h) .nil⟩
  | sl sz h c => simp only [EV.cells?, Option.some.injEq] at hc; subst hc; exact ⟨_, rfl, .cons (.sl sz h c) .nil⟩
  | rp h => simp only [EV.cells?, Option.some.injEq] at hc; subst hc; exact ⟨_, rfl, .cons (.rp h) .nil⟩
  | ag h =>
    simp only [EV.cells?] at hc
    split at hc
    · rename_i hall; cases hc; exact ⟨_, by simp only [AV.cells?, h.one hall, if_true], h⟩
    · cases hc
  | tu h => simp [EV.cells?] at hc
  | yd h => simp only [EV.cells?, Option.some.injEq] at hc; subst hc; exact ⟨_, by simp [AV.cells?, Value.oneCell'], .cons (.yd h) .nil⟩
  | it h => simp only [EV.cells?, Option.some.injEq] at hc; subst hc; exact ⟨_, by simp [AV.cells?, Value.oneCell'], .cons (.it h) .nil⟩
  | slb l k h hk => simp only [EV.cells?, Option.some.injEq] at hc; subst hc; exact ⟨_, by simp [AV.cells?, Value.oneCell'], .cons (.slb l k h hk) .nil⟩
def loadE (agg : Bool) (sz : Nat) (cs : List EV) : Option EV :=
  if agg then (if sz ≤ cs.length then some (.ag (cs.take sz)) else none) else if sz = 1 then cs[0]? else none
theorem RVs.load {cs : List EV} {as : List AV} (h : RVs ρ cs as) {agg : Bool} {sz : Nat} {e : EV} (he : loadE agg sz cs = some e) : ∃ a, loadAV agg sz as = some a ∧ RV ρ e a := by
  unfold loadE at he
  unfold loadAV
  rw [h.length]
  cases agg with
  | true =>
    simp only [if_true] at he ⊢
    split at he
    · rename_i hl; cases he; exact ⟨_, by rw [if_pos hl], .ag (h.take sz)⟩
    · cases he
  | false =>
    simp only [Bool.false_eq_true, if_false] at he ⊢
    split at he
    · rename_i hl; obtain ⟨a, h1, h2⟩ := h.get he; exact ⟨a, by rw [if_pos hl, h1], h2⟩
    · cases he
def overE (cs : List EV) (off : Nat) (xs : List EV) : List EV := cs.take off ++ xs ++ cs.drop (off + xs.length)
theorem RVs.over {cs xs : List EV} {as bs : List AV} (h : RVs ρ cs as) (h' : RVs ρ xs bs) (off : Nat) : RVs ρ (overE cs off xs) (over as off bs) := by
  unfold overE Av.over
  rw [h'.length]
  exact ((h.take off).append h').append (h.drop _)
def fillE : List EV → List (Nat × Nat × EV) → Option (List EV)
  | cells, [] => some cells
  | cells, (off, sz, x) :: rest =>
    match x.cells? with
    | some cs => if cs.length = sz ∧ off + sz ≤ cells.length then fillE (overE cells off cs) rest else none
    | none => none
inductive RPs (ρ : Ren) : List (Nat × Nat × EV) → List (Nat × Nat × AV) → Prop
  | nil : RPs ρ [] []
  | cons {off sz : Nat} {e : EV} {a : AV} {es : List (Nat × Nat × EV)} {as : List (Nat × Nat × AV)} : RV ρ e a → RPs ρ es as → RPs ρ ((off, sz, e) :: es) ((off, sz, a) :: as)
theorem fillE_spec : ∀ {ps : List (Nat × Nat × EV)} {qs : List (Nat × Nat × AV)}, RPs ρ ps qs → ∀ {cs out : List EV} {as : List AV}, RVs ρ cs as → fillE cs ps = some out → ∃ bs, afill as qs = some bs ∧ RVs ρ out bs
  | _, _, .nil, cs, out, as, h, e => by simp only [fillE, Option.some.injEq] at e; subst e; exact ⟨as, rfl, h⟩
  | _, _, .cons h1 h2, cs, out, as, h, e => by
    simp only [fillE] at e
    split at e
    · rename_i xs hx
      obtain ⟨bs, g1, g2⟩ := h1.cells? hx
      split at e
      · rename_i hl
        obtain ⟨out', o1, o2⟩ := fillE_spec h2 (h.over g2 _) e
        refine ⟨out', ?_, o2⟩
        simp only [afill, g1]
        rw [if_pos (by rw [g2.length, h.length]; exact hl)]
        exact o1
      · cases e
    · cases e
def chunksE (sz n : Nat) (cells : List EV) : List (List EV) :=
  match n with
  | 0 => []
  | n + 1 => cells.take sz :: chunksE sz n (cells.drop sz)
theorem chunksE_spec (sz : Nat) : ∀ (n : Nat) {cs : List EV} {as : List AV}, RVs ρ cs as → RVss ρ (chunksE sz n cs) (chunks sz n as)
  | 0, _, _, _ => .nil
  | n + 1, _, _, h => .cons (h.take sz) (chunksE_spec sz n (h.drop sz))
end
inductive RObj (ρ : Ren) : EBlk → ABlk → Prop
  | iterN : RObj ρ (.iter none) (.keep (.mapIter none 0 #[] 0))
  | iter {m bm s : Nat} : ρ.b m = some bm → RObj ρ (.iter (some m)) (.keep (.mapIter (some bm) s #[] s))
  | loop {r : ALoop} : r.state = .ready → r.pending = none → RObj ρ .loop (.loop r)
theorem RObj.mono {ρ ρ' : Ren} (h : ρ.le ρ') {k : EBlk} {a : ABlk} : RObj ρ k a → RObj ρ' k a
  | .iterN => .iterN
  | .iter e => .iter (h.1 _ _ e)
  | .loop e f => .loop e f
theorem RObj.not {ρ : Ren} {k : EBlk} {a : ABlk} (h : RObj ρ k a) : (∀ cs, a ≠ .box cs) ∧ (∀ es, a ≠ .map es) ∧ ∀ u s, a ≠ .grow u s := by
  cases h <;> exact ⟨fun _ e => (by cases e), fun _ e => (by cases e), fun _ _ e => (by cases e)⟩
structure Hp (ρ : Ren) (H : List EBlk) (h₀ h : AHeap) : Prop where
  box : ∀ (i : Nat) cs, H[i]? = some (.box cs) → ∃ b as, ρ.b i = some b ∧ RVs ρ cs as ∧ h b = some (.box (as ++ ρ.t i))
  map : ∀ (i : Nat) es, H[i]? = some (.map es) → ∃ b as, ρ.b i = some b ∧ h b = some (.map as) ∧ as.map (·.1) = es.map (·.1) ∧ RVs ρ (es.map (·.2)) (as.map (·.2))
  grow : ∀ (i : Nat), H[i]? = some .grow → ∃ c, ρ.c i = some c ∧ (c = .full ∨ ∃ b u s, c = .tok b u s ∧ h b = some (.grow u s) ∧ h₀ b = none)
  ltb : ∀ i x, ρ.b i = some x → i < H.length
  ltc : ∀ i x, ρ.c i = some x → i < H.length
  inj : ∀ i j x, ρ.b i = some x → ρ.b j = some x → i = j
  injc : ∀ (i j b u s u' s' : Nat), H[i]? = some .grow → H[j]? = some .grow → ρ.c i = some (.tok b u s) → ρ.c j = some (.tok b u' s') → i = j
  own : ∀ i x, ρ.b i = some x → (∃ cs, h x = some (.box cs)) ∨ ∃ es, h x = some (.map es)
  kinds : ∀ (i : Nat) b, ρ.b i = some b → H[i]? ≠ some .grow ∧ H[i]? ≠ some .dead ∧ ∀ k, H[i]? = some k → k.isObj = false
  new : ∀ i x, ρ.b i = some x → h₀ x = none
  fr : ∀ b o, h₀ b = some o → h b = some o
  all : ∀ b o, h b = some o → h₀ b = some o ∨ (∃ i, ρ.b i = some b ∧ i < H.length) ∨ (∃ i u s, H[i]? = some .grow ∧ ρ.c i = some (.tok b u s)) ∨ ∃ i k, H[i]? = some k ∧ k.isObj = true ∧ ρ.o i = some (b, o)
  obj : ∀ (i : Nat) k, H[i]? = some k → k.isObj = true → ∃ x a, ρ.o i = some (x, a) ∧ h x = some a ∧ h₀ x = none ∧ RObj ρ k a
  lto : ∀ i x, ρ.o i = some x → i < H.length
  injo : ∀ (i j : Nat) k k' x a a', H[i]? = some k → k.isObj = true → H[j]? = some k' → k'.isObj = true → ρ.o i = some (x, a) → ρ.o j = some (x, a') → i = j
theorem Hp.start (h : AHeap) : Hp ⟨fun _ => none, fun _ => none, fun _ => none, fun _ => [], fun _ => 0⟩ [] h h :=
  ⟨fun i cs e => by simp at e, fun i es e => by simp at e, fun i e => by simp at e, fun i x e => (by cases e), fun i x e => (by cases e), fun i j x e => (by cases e), fun i j b u s u' s' e => by simp at e, fun i x e => (by cases e), fun i x e => (by cases e), fun i x e => (by cases e), fun b o e => e, fun b o e => .inl e, fun i k e => by simp at e, fun i x e => (by cases e), fun i j k k' x a a' e => by simp at e⟩
theorem Hp.le {ρ : Ren} {H : List EBlk} {h₀ h : AHeap} (hp : Hp ρ H h₀ h) : h₀.le h := fun b o e => ⟨o, hp.fr b o e, .refl o⟩
def Ren.addBT (ρ : Ren) (n b : Nat) (tl : List AV) (k : Nat) : Ren := ⟨fun i => if i = n then some b else ρ.b i, ρ.c, ρ.o, fun i => if i = n then tl else ρ.t i, fun i => if i = n then k else ρ.k i⟩
abbrev Ren.addB (ρ : Ren) (n b : Nat) : Ren := ρ.addBT n b [] 0
def Ren.addC (ρ : Ren) (n : Nat) (c : Cap) : Ren := ⟨ρ.b, fun i => if i = n then some c else ρ.c i, ρ.o, ρ.t, ρ.k⟩
def Ren.addO (ρ : Ren) (n : Nat) (x : Nat × ABlk) : Ren := ⟨ρ.b, ρ.c, fun i => if i = n then some x else ρ.o i, ρ.t, ρ.k⟩
theorem Hp.addBT_le {ρ : Ren} {H : List EBlk} {h₀ h : AHeap} (hp : Hp ρ H h₀ h) (b : Nat) (tl : List AV) (k : Nat) : ρ.le (ρ.addBT H.length b tl k) :=
  ⟨fun i x e => by have := hp.ltb i x e; simp only [Ren.addBT]; rw [if_neg (by omega)]; exact e, fun i x e => e, fun i x e => e, fun i x e => by have := hp.ltb i x e; simp only [Ren.addBT]; rw [if_neg (by omega), if_neg (by omega)]; exact ⟨rfl, rfl⟩⟩
theorem Hp.addB_le {ρ : Ren} {H : List EBlk} {h₀ h : AHeap} (hp : Hp ρ H h₀ h) (b : Nat) : ρ.le (ρ.addB H.length b) := hp.addBT_le b [] 0
theorem Hp.addC_le {ρ : Ren} {H : List EBlk} {h₀ h : AHeap} (hp : Hp ρ H h₀ h) (c : Cap) : ρ.le (ρ.addC H.length c) :=
  ⟨fun i x e => e, fun i x e => by have := hp.ltc i x e; simp only [Ren.addC]; rw [if_neg (by omega)]; exact e, fun i x e => e, fun i x e => ⟨rfl, rfl⟩⟩
theorem Hp.addO_le {ρ : Ren} {H : List EBlk} {h₀ h : AHeap} (hp : Hp ρ H h₀ h) (y : Nat × ABlk) : ρ.le (ρ.addO H.length y) :=
  ⟨fun i x e => e, fun i x e => e, fun i x e => by have := hp.lto i x e; simp only [Ren.addO]; rw [if_neg (by omega)]; exact e, fun i x e => ⟨rfl, rfl⟩⟩
theorem Hp.get_app {H : List EBlk} {o y : EBlk} {i : Nat} (e : (H ++ [o])[i]? = some y) : (i < H.length ∧ H[i]? = some y) ∨ (i = H.length ∧ y = o) := by
  rcases Nat.lt_trichotomy i H.length with h | h | h
  · rw [List.getElem?_append_left h] at e; exact .inl ⟨h, e⟩
  · subst h; simp at e; exact .inr ⟨rfl, e.symm⟩
  · rw [List.getElem?_eq_none (by simp; omega)] at e; cases e
theorem Hp.allocT {ρ : Ren} {H : List EBlk} {h₀ h : AHeap} (hp : Hp ρ H h₀ h) {b : Nat} (hb : h b = none) {tl : List AV} {kc : Nat} {o : EBlk} {a : ABlk}
    (ho : (∃ cs as, o = .box cs ∧ a = .box (as ++ tl) ∧ RVs (ρ.addBT H.length b tl kc) cs as) ∨ (o = .map [] ∧ a = .map [])) : Hp (ρ.addBT H.length b tl kc) (H ++ [o]) h₀ (h.set b a) := by
  have hle := hp.addBT_le b tl kc
  have hne : ∀ {x y}, h x = some y → x ≠ b := fun e e' => by subst e'; rw [hb] at e; cases e
  have h0b : h₀ b = none := by
    cases e : h₀ b with
    | none => rfl
    | some y => have := hp.fr b y e; rw [hb] at this; cases this
  have self : (ρ.addBT H.length b tl kc).b H.length = some b := by simp [Ren.addBT]
  have notb : ∀ i x, ρ.b i = some x → x ≠ b := fun i x e => by
    rcases hp.own i x e with ⟨cs, g⟩ | ⟨es, g⟩ <;> exact hne g
  have oth : ∀ {x y}, h x = some y → (h.set b a) x = some y := fun e => by rw [AHeap.set_other _ _ (hne e)]; exact e
  have get : ∀ {i x}, (ρ.addBT H.length b tl kc).b i = some x → (i = H.length ∧ x = b) ∨ (i ≠ H.length ∧ ρ.b i = some x) := fun {i x} e => by
    simp only [Ren.addBT] at e
    split at e
    · rename_i hi; cases e; exact .inl ⟨hi, rfl⟩
    · rename_i hi; exact .inr ⟨hi, e⟩
  refine ⟨fun i cs e => ?_, fun i es e => ?_, fun i e => ?_, fun i x e => ?_, fun i x e => ?_, fun i j x e e' => ?_, fun i j b' u s u' s' e e' => ?_, fun i x e => ?_, fun i x e => ?_, fun i x e => ?_, fun x y e => oth (hp.fr x y e), fun x y e => ?_, fun i k e ek => ?_, fun i x e => ?_, fun i j k k' x a1 a2 e ek e' ek' g g' => ?_⟩
  · rcases Hp.get_app e with ⟨_, e⟩ | ⟨rfl, e2⟩
    · obtain ⟨b', as, g1, g2, g3⟩ := hp.box i cs e; exact ⟨b', as, hle.1 _ _ g1, g2.mono hle, by rw [(hle.2.2.2 _ _ g1).1]; exact oth g3⟩
    · rcases ho with ⟨cs', as, h1, h2, h3⟩ | ⟨h1, _⟩
      · subst h1; cases e2; subst h2; exact ⟨b, as, self, h3, by rw [AHeap.set_same]; simp [Ren.addBT]⟩
      · subst h1; cases e2
  · rcases Hp.get_app e with ⟨_, e⟩ | ⟨rfl, e2⟩
    · obtain ⟨b', as, g1, g2, g3, g4⟩ := hp.map i es e; exact ⟨b', as, hle.1 _ _ g1, oth g2, g3, g4.mono hle⟩
    · rcases ho with ⟨cs', as, h1, h2, h3⟩ | ⟨h1, h2⟩
      · subst h1; cases e2
      · subst h1; cases e2; subst h2; exact ⟨b, [], self, AHeap.set_same _ _ _, rfl, .nil⟩
  · rcases Hp.get_app e with ⟨_, e⟩ | ⟨rfl, e2⟩
    · obtain ⟨c, g1, g2⟩ := hp.grow i e
      refine ⟨c, g1, g2.imp id fun ⟨b', u, s, q1, q2, q3⟩ => ⟨b', u, s, q1, oth q2, q3⟩⟩
    · rcases ho with ⟨cs', as, h1, h2, h3⟩ | ⟨h1, h2⟩ <;> subst h1 <;> cases e2
  · rcases get e with ⟨rfl, _⟩ | ⟨_, e⟩
    · simp
    · have := hp.ltb i x e; simp; omega
  · have := hp.ltc i x e; simp; omega
  · rcases get e with ⟨p1, p2⟩ | ⟨_, p3⟩
    · rcases get e' with ⟨q1, _⟩ | ⟨_, q3⟩
      · exact p1.trans q1.symm
      · exact absurd p2 (notb j _ q3)
    · rcases get e' with ⟨q1, q2⟩ | ⟨_, q3⟩
      · exact absurd q2 (notb i _ p3)
      · exact hp.inj i j x p3 q3
  · have gr : ∀ {k : Nat}, (H ++ [o])[k]? = some .grow → H[k]? = some .grow := fun {k} e => by
      rcases Hp.get_app e with ⟨_, e⟩ | ⟨rfl, e2⟩
      · exact e
      · rcases ho with ⟨cs', as, h1, h2, h3⟩ | ⟨h1, h2⟩ <;> subst h1 <;> cases e2
    exact hp.injc i j b' u s u' s' (gr e) (gr e')
  · rcases get e with ⟨rfl, rfl⟩ | ⟨_, e⟩
    · rcases ho with ⟨cs', as, h1, h2, h3⟩ | ⟨h1, h2⟩
      · subst h2; exact .inl ⟨_, AHeap.set_same _ _ _⟩
      · subst h2; exact .inr ⟨[], AHeap.set_same _ _ _⟩
    · exact (hp.own i x e).imp (fun ⟨c, g⟩ => ⟨c, oth g⟩) (fun ⟨c, g⟩ => ⟨c, oth g⟩)
  · rcases get e with ⟨rfl, _⟩ | ⟨hne', e⟩
    · rw [List.getElem?_append_right (Nat.le_refl _), Nat.sub_self, List.getElem?_cons_zero]
      rcases ho with ⟨cs', as, h1, _⟩ | ⟨h1, _⟩ <;> subst h1 <;> simp [EBlk.isObj]
    · have hlt := hp.ltb i x e
      rw [List.getElem?_append_left hlt]
      exact hp.kinds i x e
  · rcases get e with ⟨rfl, rfl⟩ | ⟨_, e⟩
    · exact h0b
    · exact hp.new i x e
  · by_cases hx : x = b
    · subst hx; exact .inr (.inl ⟨H.length, self, by simp⟩)
    · rw [AHeap.set_other _ _ hx] at e
      rcases hp.all x y e with g | ⟨i, g1, g2⟩ | ⟨i, u, s, g1, g2⟩ | ⟨i, k, g1, g2, g3⟩
      · exact .inl g
      · exact .inr (.inl ⟨i, hle.1 _ _ g1, by simp; omega⟩)
      · have hlt := (List.getElem?_eq_some_iff.1 g1).1
        exact .inr (.inr (.inl ⟨i, u, s, by rw [List.getElem?_append_left hlt]; exact g1, g2⟩))
      · have hlt := (List.getElem?_eq_some_iff.1 g1).1
        exact .inr (.inr (.inr ⟨i, k, by rw [List.getElem?_append_left hlt]; exact g1, g2, g3⟩))
  · rcases Hp.get_app e with ⟨_, e⟩ | ⟨rfl, e2⟩
    · obtain ⟨x, a', g1, g2, g3, g4⟩ := hp.obj i k e ek
      exact ⟨x, a', g1, oth g2, g3, g4.mono hle⟩
    · rcases ho with ⟨cs', as, h1, _⟩ | ⟨h1, _⟩ <;> subst h1 <;> subst e2 <;> cases ek
  · have := hp.lto i x e; simp; omega
  · have gr : ∀ {m : Nat} {k : EBlk}, (H ++ [o])[m]? = some k → k.isObj = true → H[m]? = some k := fun {m k} e ek => by
      rcases Hp.get_app e with ⟨_, e⟩ | ⟨rfl, e2⟩
      · exact e
      · rcases ho with ⟨cs', as, h1, _⟩ | ⟨h1, _⟩ <;> subst h1 <;> subst e2 <;> cases ek
    exact hp.injo i j k k' x a1 a2 (gr e ek) ek (gr e' ek') ek' g g'
theorem Hp.alloc {ρ : Ren} {H : List EBlk} {h₀ h : AHeap} (hp : Hp ρ H h₀ h) {b : Nat} (hb : h b = none) {o : EBlk} {a : ABlk}
    (ho : (∃ cs as, o = .box cs ∧ a = .box as ∧ RVs (ρ.addB H.length b) cs as) ∨ (o = .map [] ∧ a = .map [])) : Hp (ρ.addB H.length b) (H ++ [o]) h₀ (h.set b a) :=
  hp.allocT hb (ho.imp (fun ⟨cs, as, h1, h2, h3⟩ => ⟨cs, as, h1, by rw [List.append_nil]; exact h2, h3⟩) id)
theorem getElem?_set_ne' {α : Type} {l : List α} {i j : Nat} {x y : α} (e : (l.set i x)[j]? = some y) : (j = i ∧ y = x) ∨ (j ≠ i ∧ l[j]? = some y) := by
  by_cases h : i = j
  · subst h
    rw [List.getElem?_set_self'] at e
    cases hh : l[i]? with
    | none => rw [hh] at e; cases e
    | some z => rw [hh] at e; cases e; exact .inl ⟨rfl, rfl⟩
  · rw [List.getElem?_set_ne h] at e; exact .inr ⟨Ne.symm h, e⟩
theorem Hp.turn {ρ : Ren} {H : List EBlk} {h₀ h : AHeap} (hp : Hp ρ H h₀ h) {i b : Nat} (hi : ρ.b i = some b) {o : EBlk} {a : ABlk}
    (ho : (∃ cs as, o = .box cs ∧ a = .box (as ++ ρ.t i) ∧ RVs ρ cs as) ∨ (∃ es as, o = .map es ∧ a = .map as ∧ as.map (·.1) = es.map (·.1) ∧ RVs ρ (es.map (·.2)) (as.map (·.2)))) : Hp ρ (H.set i o) h₀ (h.set b a) := by
  have gb : ∀ {x u s}, h x = some (.grow u s) → x ≠ b := fun {x u s} e e' => by
    subst e'
    rcases hp.own i x hi with ⟨cs, g⟩ | ⟨es, g⟩ <;> rw [g] at e <;> cases e
  have oth : ∀ {j x}, ρ.b j = some x → j ≠ i → x ≠ b := fun {j x} e hne e' => by subst e'; exact hne (hp.inj _ _ _ e hi)
  refine ⟨fun j cs e => ?_, fun j es e => ?_, fun j e => ?_, fun j x e => by rw [List.length_set]; exact hp.ltb j x e, fun j x e => by rw [List.length_set]; exact hp.ltc j x e, hp.inj, fun j k b' u s u' s' e e' => ?_, fun j x e => ?_, fun j x e => ?_, hp.new, fun x y e => ?_, fun x y e => ?_, fun j k e ek => ?_, fun j x e => by rw [List.length_set]; exact hp.lto j x e, fun j j' k k' x a1 a2 e ek e' ek' g g' => ?_⟩
  · rcases getElem?_set_ne' e with ⟨rfl, e2⟩ | ⟨hne, e⟩
    · rcases ho with ⟨cs', as, h1, h2, h3⟩ | ⟨es, as, h1, _⟩
      · subst h1; cases e2; subst h2; exact ⟨b, as, hi, h3, AHeap.set_same _ _ _⟩
      · subst h1; cases e2
    · obtain ⟨b', as, g1, g2, g3⟩ := hp.box j cs e
      exact ⟨b', as, g1, g2, by rw [AHeap.set_other _ _ (oth g1 hne)]; exact g3⟩
  · rcases getElem?_set_ne' e with ⟨rfl, e2⟩ | ⟨hne, e⟩
    · rcases ho with ⟨cs', as, h1, h2, h3⟩ | ⟨es, as, h1, h2, h3, h4⟩
      · subst h1; cases e2
      · subst h1; cases e2; subst h2; exact ⟨b, as, hi, AHeap.set_same _ _ _, h3, h4⟩
    · obtain ⟨b', as, g1, g2, g3⟩ := hp.map j es e
      exact ⟨b', as, g1, by rw [AHeap.set_other _ _ (oth g1 hne)]; exact g2, g3⟩
  · rcases getElem?_set_ne' e with ⟨rfl, e2⟩ | ⟨hne, e⟩
    · rcases ho with ⟨cs', as, h1, h2, h3⟩ | ⟨es, as, h1, h2, h3, h4⟩ <;> subst h1 <;> cases e2
    · obtain ⟨c, g1, g2⟩ := hp.grow j e
      exact ⟨c, g1, g2.imp id fun ⟨b', u, s, q1, q2, q3⟩ => ⟨b', u, s, q1, by rw [AHeap.set_other _ _ (gb q2)]; exact q2, q3⟩⟩
  · have gr : ∀ {k : Nat}, (H.set i o)[k]? = some .grow → H[k]? = some .grow := fun {k} e => by
      rcases getElem?_set_ne' e with ⟨rfl, e2⟩ | ⟨_, e⟩
      · rcases ho with ⟨cs', as, h1, h2, h3⟩ | ⟨es, as, h1, h2, h3, h4⟩ <;> subst h1 <;> cases e2
      · exact e
    exact hp.injc j k b' u s u' s' (gr e) (gr e')
  · by_cases hx : x = b
    · subst hx
      rcases ho with ⟨cs', as, h1, h2, h3⟩ | ⟨es, as, h1, h2, h3, h4⟩
      · subst h2; exact .inl ⟨_, AHeap.set_same _ _ _⟩
      · subst h2; exact .inr ⟨as, AHeap.set_same _ _ _⟩
    · exact (hp.own j x e).imp (fun ⟨c, g⟩ => ⟨c, by rw [AHeap.set_other _ _ hx]; exact g⟩) (fun ⟨c, g⟩ => ⟨c, by rw [AHeap.set_other _ _ hx]; exact g⟩)
  · by_cases hji : j = i
    · subst hji
      rw [List.getElem?_set_self (hp.ltb j b hi)]
      rcases ho with ⟨cs', as, h1, _⟩ | ⟨es, as, h1, _⟩ <;> subst h1 <;> simp [EBlk.isObj]
    · rw [List.getElem?_set_ne (Ne.symm hji)]
      exact hp.kinds j x e
  · have hx : x ≠ b := fun e' => by subst e'; rw [hp.new i x hi] at e; cases e
    rw [AHeap.set_other _ _ hx]; exact hp.fr x y e
  · by_cases hx : x = b
    · subst hx; exact .inr (.inl ⟨i, hi, by rw [List.length_set]; exact hp.ltb i x hi⟩)
    · rw [AHeap.set_other _ _ hx] at e
      rcases hp.all x y e with g | ⟨k, g1, g2⟩ | ⟨k, u, s, g1, g2⟩ | ⟨k, q, g1, g2, g3⟩
      · exact .inl g
      · exact .inr (.inl ⟨k, g1, by rw [List.length_set]; exact g2⟩)
      · refine .inr (.inr (.inl ⟨k, u, s, ?_, g2⟩))
        rw [List.getElem?_set_ne]
        · exact g1
        · intro e'
          subst e'
          exact (hp.kinds _ _ hi).1 g1
      · refine .inr (.inr (.inr ⟨k, q, ?_, g2, g3⟩))
        rw [List.getElem?_set_ne]
        · exact g1
        · intro e'
          subst e'
          have := (hp.kinds _ _ hi).2.2 _ g1
          rw [g2] at this; cases this
  · rcases getElem?_set_ne' e with ⟨rfl, e2⟩ | ⟨hne, e⟩
    · rcases ho with ⟨cs', as, h1, _⟩ | ⟨es, as, h1, _⟩ <;> subst h1 <;> subst e2 <;> cases ek
    · obtain ⟨x, a', g1, g2, g3, g4⟩ := hp.obj j k e ek
      refine ⟨x, a', g1, ?_, g3, g4⟩
      rw [AHeap.set_other]
      · exact g2
      · intro e'
        subst e'
        have hn := g4.not
        rcases hp.own i x hi with ⟨cs, q⟩ | ⟨es, q⟩ <;> rw [g2] at q <;> cases q
        · exact hn.1 _ rfl
        · exact hn.2.1 _ rfl
  · have gr : ∀ {m : Nat} {k : EBlk}, (H.set i o)[m]? = some k → k.isObj = true → H[m]? = some k := fun {m k} e ek => by
      rcases getElem?_set_ne' e with ⟨rfl, e2⟩ | ⟨_, e⟩
      · rcases ho with ⟨cs', as, h1, _⟩ | ⟨es, as, h1, _⟩ <;> subst h1 <;> subst e2 <;> cases ek
      · exact e
    exact hp.injo j j' k k' x a1 a2 (gr e ek) ek (gr e' ek') ek' g g'
theorem Hp.grown {ρ : Ren} {H H₁ : List EBlk} {h₀ h h₁ : AHeap} (hp : Hp ρ H h₀ h) (hH : H₁ = H ∧ h₁ = h ∨ ∃ i b u s, H₁ = H.set i .dead ∧ H[i]? = some .grow ∧ ρ.c i = some (.tok b u s) ∧ h₁ = h.del b) {c : Cap} {h' : AHeap} (ho : Own h₁ c h') : Hp (ρ.addC H.length c) (H₁ ++ [.grow]) h₀ h' := by
  have hle := hp.addC_le c
  have hl : H₁.length = H.length := by rcases hH with ⟨rfl, _⟩ | ⟨i, b, u, s, rfl, _⟩ <;> simp
  -- what stands in H₁ stood in H, and its block is in h₁
  have old : ∀ {j : Nat} {y : EBlk}, H₁[j]? = some y → y ≠ .dead → H[j]? = some y := fun {j y} e hy => by
    rcases hH with ⟨rfl, _⟩ | ⟨i, b, u, s, rfl, _⟩
    · exact e
    · rcases getElem?_set_ne' e with ⟨_, e⟩ | ⟨_, e⟩
      · exact absurd e hy
      · exact e
  have keep : ∀ {x : Nat} {y : ABlk}, h x = some y → (∀ u s, y ≠ .grow u s) → h₁ x = some y := fun {x y} e hy => by
    rcases hH with ⟨_, rfl⟩ | ⟨i, b, u, s, _, hi, hc, rfl⟩
    · exact e
    · obtain ⟨c', g1, g2⟩ := hp.grow i hi
      rw [hc] at g1; cases g1
      rcases g2 with g2 | ⟨b', u', s', q1, q2, q3⟩
      · cases g2
      · cases q1
        rw [AHeap.del_other]
        · exact e
        · intro e'; subst e'; rw [e] at q2; cases q2; exact hy _ _ rfl
  have up : ∀ {x : Nat} {y : ABlk}, h₁ x = some y → h' x = some y := fun {x y} e => by
    cases ho with
    | full => exact e
    | tok hb => exact AHeap.get_fresh hb e
  have sub : ∀ {x : Nat} {y : ABlk}, h x = some y → (∀ u s, y ≠ .grow u s) → h' x = some y := fun e hy => up (keep e hy)
  have fr1 : ∀ b o, h₀ b = some o → h₁ b = some o := fun b o e => by
    rcases hH with ⟨_, rfl⟩ | ⟨i, b', u, s, _, hi, hc, rfl⟩
    · exact hp.fr b o e
    · obtain ⟨c', g1, g2⟩ := hp.grow i hi
      rw [hc] at g1; cases g1
      rcases g2 with g2 | ⟨b'', u', s', q1, q2, q3⟩
      · cases g2
      · cases q1
        rw [AHeap.del_other]
        · exact hp.fr b o e
        · intro e'; subst e'; rw [q3] at e; cases e
  -- the other slices that grow
  have growOld : ∀ {j : Nat} {b u s}, H₁[j]? = some .grow → ρ.c j = some (.tok b u s) → h b = some (.grow u s) → h₁ b = some (.grow u s) := fun {j b u s} e hc e2 => by
    rcases hH with ⟨_, rfl⟩ | ⟨i, b', u', s', rfl, hi, hc', rfl⟩
    · exact e2
    · rcases getElem?_set_ne' e with ⟨_, e⟩ | ⟨hne, e⟩
      · cases e
      · rw [AHeap.del_other]
        · exact e2
        · intro e'; subst e'; exact hne (hp.injc j i b u s u' s' e hi hc hc')
  have c_old : ∀ {j : Nat} {x : Cap}, j < H.length → (ρ.addC H.length c).c j = some x → ρ.c j = some x := fun {j x} hj e => by
    simp only [Ren.addC] at e; rw [if_neg (by omega)] at e; exact e
  refine ⟨fun j cs e => ?_, fun j es e => ?_, fun j e => ?_, fun j x e => ?_, fun j x e => ?_, hp.inj, fun j k b u s u' s' e e' g g' => ?_, fun j x e => ?_, fun j x e => ?_, hp.new, fun x y e => up (fr1 x y e), fun x y e => ?_, fun j k e ek => ?_, fun j x e => ?_, fun j j' k k' x a1 a2 e ek e' ek' g g' => ?_⟩
  · rcases Hp.get_app e with ⟨_, e⟩ | ⟨_, e⟩
    · obtain ⟨b', as, g1, g2, g3⟩ := hp.box j cs (old e (fun e => by cases e)); exact ⟨b', as, g1, g2.mono hle, sub g3 (fun u s e => by cases e)⟩
    · cases e
  · rcases Hp.get_app e with ⟨_, e⟩ | ⟨_, e⟩
    · obtain ⟨b', as, g1, g2, g3, g4⟩ := hp.map j es (old e (fun e => by cases e)); exact ⟨b', as, g1, sub g2 (fun u s e => by cases e), g3, g4.mono hle⟩
    · cases e
  · rcases Hp.get_app e with ⟨_, e⟩ | ⟨rfl, e2⟩
    · obtain ⟨c', g1, g2⟩ := hp.grow j (old e (fun e => by cases e))
      refine ⟨c', hle.2.1 _ _ g1, g2.imp id fun ⟨b', u, s, q1, q2, q3⟩ => ⟨b', u, s, q1, ?_, q3⟩⟩
      subst q1
      exact up (growOld e g1 q2)
    · rw [hl]
      refine ⟨c, by simp [Ren.addC], ?_⟩
      cases ho with
      | full => exact .inl rfl
      | tok hb =>
        refine .inr ⟨_, _, _, rfl, AHeap.set_same _ _ _, ?_⟩
        rename_i b u s
        cases e0 : h₀ b with
        | none => rfl
        | some y => have := fr1 b y e0; rw [hb] at this; cases this
  · have := hp.ltb j x e; simp [hl]; omega
  · simp only [Ren.addC] at e
    split at e
    · rename_i hj; subst hj; simp [hl]
    · have := hp.ltc j x e; simp [hl]; omega
  · rcases Hp.get_app e with ⟨hj, e⟩ | ⟨rfl, _⟩
    · rcases Hp.get_app e' with ⟨hk, e'⟩ | ⟨rfl, _⟩
      · exact hp.injc j k b u s u' s' (old e (fun e => by cases e)) (old e' (fun e => by cases e)) (c_old (by omega) g) (c_old (by omega) g')
      · exfalso
        have g1 := c_old (by omega) g
        obtain ⟨c', q1, q2⟩ := hp.grow j (old e (fun e => by cases e))
        rw [g1] at q1; cases q1
        rcases q2 with q2 | ⟨_, _, _, q, q2, _⟩
        · cases q2
        · cases q
          have h1 := growOld e g1 q2
          simp only [Ren.addC, hl, if_true, Option.some.injEq] at g'
          subst g'
          cases ho with
          | tok hb => rw [hb] at h1; cases h1
    · rcases Hp.get_app e' with ⟨hk, e'⟩ | ⟨rfl, _⟩
      · exfalso
        have g1 := c_old (by omega) g'
        obtain ⟨c', q1, q2⟩ := hp.grow k (old e' (fun e => by cases e))
        rw [g1] at q1; cases q1
        rcases q2 with q2 | ⟨_, _, _, q, q2, _⟩
        · cases q2
        · cases q
          have h1 := growOld e' g1 q2
          simp only [Ren.addC, hl, if_true, Option.some.injEq] at g
          subst g
          cases ho with
          | tok hb => rw [hb] at h1; cases h1
      · rfl
  · exact (hp.own j x e).imp (fun ⟨c, g⟩ => ⟨c, sub g (fun u s e => by cases e)⟩) (fun ⟨c, g⟩ => ⟨c, sub g (fun u s e => by cases e)⟩)
  · have hlt := hp.ltb j x e
    rw [List.getElem?_append_left (by omega)]
    have hk := hp.kinds j x e
    rcases hH with ⟨rfl, _⟩ | ⟨i, b', u', s', rfl, hi, _⟩
    · exact hk
    · rw [List.getElem?_set_ne]
      · exact hk
      · intro e'; subst e'; exact hk.1 hi
  · have inner : h₁ x = some y → h₀ x = some y ∨ (∃ i, ρ.b i = some x ∧ i < H.length) ∨ (∃ i u s, H₁[i]? = some .grow ∧ ρ.c i = some (.tok x u s)) ∨ ∃ i k, H₁[i]? = some k ∧ k.isObj = true ∧ ρ.o i = some (x, y) := fun e => by
      rcases hH with ⟨rfl, rfl⟩ | ⟨i, b', u', s', rfl, hi, hc', rfl⟩
      · exact hp.all x y e
      · have hx : x ≠ b' := fun e' => by subst e'; simp at e
        rw [AHeap.del_other _ hx] at e
        rcases hp.all x y e with g | g | ⟨k, u, s, g1, g2⟩ | ⟨k, q, g1, g2, g3⟩
        · exact .inl g
        · exact .inr (.inl g)
        · refine .inr (.inr (.inl ⟨k, u, s, ?_, g2⟩))
          rw [List.getElem?_set_ne]
          · exact g1
          · intro e'; subst e'; rw [hc'] at g2; cases g2; exact hx rfl
        · refine .inr (.inr (.inr ⟨k, q, ?_, g2, g3⟩))
          rw [List.getElem?_set_ne]
          · exact g1
          · intro e'; subst e'; rw [hi] at g1; cases g1; cases g2
    have lift : (h₀ x = some y ∨ (∃ i, ρ.b i = some x ∧ i < H.length) ∨ (∃ i u s, H₁[i]? = some .grow ∧ ρ.c i = some (.tok x u s)) ∨ ∃ i k, H₁[i]? = some k ∧ k.isObj = true ∧ ρ.o i = some (x, y)) → h₀ x = some y ∨ (∃ i, (ρ.addC H.length c).b i = some x ∧ i < (H₁ ++ [EBlk.grow]).length) ∨ (∃ i u s, (H₁ ++ [EBlk.grow])[i]? = some .grow ∧ (ρ.addC H.length c).c i = some (.tok x u s)) ∨ ∃ i k, (H₁ ++ [EBlk.grow])[i]? = some k ∧ k.isObj = true ∧ (ρ.addC H.length c).o i = some (x, y) := fun g => by
      rcases g with g | ⟨i, g1, g2⟩ | ⟨i, u, s, g1, g2⟩ | ⟨i, k, g1, g2, g3⟩
      · exact .inl g
      · exact .inr (.inl ⟨i, g1, by simp [hl]; omega⟩)
      · have hlt := (List.getElem?_eq_some_iff.1 g1).1
        exact .inr (.inr (.inl ⟨i, u, s, by rw [List.getElem?_append_left hlt]; exact g1, hle.2.1 _ _ g2⟩))
      · have hlt := (List.getElem?_eq_some_iff.1 g1).1
        exact .inr (.inr (.inr ⟨i, k, by rw [List.getElem?_append_left hlt]; exact g1, g2, g3⟩))
    cases ho with
    | full => exact lift (inner e)
    | tok hb =>
      rename_i b u s
      by_cases hx : x = b
      · subst hx
        exact .inr (.inr (.inl ⟨H.length, u, s, by rw [← hl]; simp, by simp [Ren.addC]⟩))
      · rw [AHeap.set_other _ _ hx] at e
        exact lift (inner e)
  · rcases Hp.get_app e with ⟨_, e⟩ | ⟨rfl, e2⟩
    · obtain ⟨x, a', g1, g2, g3, g4⟩ := hp.obj j k (old e (fun e => by subst e; cases ek)) ek
      exact ⟨x, a', g1, sub g2 g4.not.2.2, g3, g4.mono hle⟩
    · subst e2; cases ek
  · have := hp.lto j x e; simp [hl]; omega
  · have gr : ∀ {m : Nat} {k : EBlk}, (H₁ ++ [EBlk.grow])[m]? = some k → k.isObj = true → H[m]? = some k := fun {m k} e ek => by
      rcases Hp.get_app e with ⟨_, e⟩ | ⟨rfl, e2⟩
      · exact old e (fun e => by subst e; cases ek)
      · subst e2; cases ek
    exact hp.injo j j' k k' x a1 a2 (gr e ek) ek (gr e' ek') ek' g g'
theorem Hp.newObj {ρ : Ren} {H : List EBlk} {h₀ h : AHeap} (hp : Hp ρ H h₀ h) {b : Nat} (hb : h b = none) {k : EBlk} {a : ABlk} (hk : k.isObj = true) (ho : RObj ρ k a) : Hp (ρ.addO H.length (b, a)) (H ++ [k]) h₀ (h.set b a) := by
  have hle := hp.addO_le (b, a)
  have hne : ∀ {x y}, h x = some y → x ≠ b := fun e e' => by subst e'; rw [hb] at e; cases e
  have h0b : h₀ b = none := by
    cases e : h₀ b with
    | none => rfl
    | some y => have := hp.fr b y e; rw [hb] at this; cases this
  have oth : ∀ {x y}, h x = some y → (h.set b a) x = some y := fun e => by rw [AHeap.set_other _ _ (hne e)]; exact e
  have old : ∀ {j : Nat} {y : EBlk}, (H ++ [k])[j]? = some y → y.isObj = false → H[j]? = some y := fun {j y} e hy => by
    rcases Hp.get_app e with ⟨_, e⟩ | ⟨_, e⟩
    · exact e
    · subst e; rw [hk] at hy; cases hy
  have self : (ρ.addO H.length (b, a)).o H.length = some (b, a) := by simp [Ren.addO]
  have o_old : ∀ {j : Nat} {x : Nat × ABlk}, j < H.length → (ρ.addO H.length (b, a)).o j = some x → ρ.o j = some x := fun {j x} hj e => by
    simp only [Ren.addO] at e; rw [if_neg (by omega)] at e; exact e
  refine ⟨fun i cs e => ?_, fun i es e => ?_, fun i e => ?_, fun i x e => ?_, fun i x e => ?_, hp.inj, fun i j b' u s u' s' e e' => hp.injc i j b' u s u' s' (old e rfl) (old e' rfl), fun i x e => ?_, fun i x e => ?_, hp.new, fun x y e => oth (hp.fr x y e), fun x y e => ?_, fun i q e eq => ?_, fun i x e => ?_, fun i j q q' x a1 a2 e eq e' eq' g g' => ?_⟩
  · obtain ⟨b', as, g1, g2, g3⟩ := hp.box i cs (old e rfl); exact ⟨b', as, g1, g2.mono hle, oth g3⟩
  · obtain ⟨b', as, g1, g2, g3, g4⟩ := hp.map i es (old e rfl); exact ⟨b', as, g1, oth g2, g3, g4.mono hle⟩
  · obtain ⟨c, g1, g2⟩ := hp.grow i (old e rfl)
    exact ⟨c, g1, g2.imp id fun ⟨b', u, s, q1, q2, q3⟩ => ⟨b', u, s, q1, oth q2, q3⟩⟩
  · have := hp.ltb i x e; simp; omega
  · have := hp.ltc i x e; simp; omega
  · exact (hp.own i x e).imp (fun ⟨c, g⟩ => ⟨c, oth g⟩) (fun ⟨c, g⟩ => ⟨c, oth g⟩)
  · have hlt := hp.ltb i x e
    rw [List.getElem?_append_left hlt]
    exact hp.kinds i x e
  · by_cases hx : x = b
    · subst hx
      rw [AHeap.set_same] at e; cases e
      exact .inr (.inr (.inr ⟨H.length, k, by simp, hk, self⟩))
    · rw [AHeap.set_other _ _ hx] at e
      rcases hp.all x y e with g | ⟨i, g1, g2⟩ | ⟨i, u, s, g1, g2⟩ | ⟨i, q, g1, g2, g3⟩
      · exact .inl g
      · exact .inr (.inl ⟨i, g1, by simp; omega⟩)
      · have hlt := (List.getElem?_eq_some_iff.1 g1).1
        exact .inr (.inr (.inl ⟨i, u, s, by rw [List.getElem?_append_left hlt]; exact g1, g2⟩))
      · have hlt := (List.getElem?_eq_some_iff.1 g1).1
        exact .inr (.inr (.inr ⟨i, q, by rw [List.getElem?_append_left hlt]; exact g1, g2, hle.2.2.1 _ _ g3⟩))
  · rcases Hp.get_app e with ⟨_, e⟩ | ⟨rfl, e2⟩
    · obtain ⟨x, a', g1, g2, g3, g4⟩ := hp.obj i q e eq
      exact ⟨x, a', hle.2.2.1 _ _ g1, oth g2, g3, g4.mono hle⟩
    · subst e2; exact ⟨b, a, self, AHeap.set_same _ _ _, h0b, ho.mono hle⟩
  · simp only [Ren.addO] at e
    split at e
    · rename_i hj; subst hj; simp
    · have := hp.lto i x e; simp; omega
  · rcases Hp.get_app e with ⟨hi, e⟩ | ⟨rfl, _⟩
    · rcases Hp.get_app e' with ⟨hj, e'⟩ | ⟨rfl, _⟩
      · exact hp.injo i j q q' x a1 a2 e eq e' eq' (o_old hi g) (o_old hj g')
      · exfalso
        obtain ⟨x', a', g1, g2, _⟩ := hp.obj i q e eq
        rw [o_old hi g] at g1; cases g1
        rw [self] at g'; cases g'
        exact hne g2 rfl
    · rcases Hp.get_app e' with ⟨hj, e'⟩ | ⟨rfl, _⟩
      · exfalso
        obtain ⟨x', a', g1, g2, _⟩ := hp.obj j q' e' eq'
        rw [o_old hj g'] at g1; cases g1
        rw [self] at g; cases g
        exact hne g2 rfl
      · rfl
theorem Hp.endObj {ρ : Ren} {H : List EBlk} {h₀ h : AHeap} (hp : Hp ρ H h₀ h) {i b : Nat} {k : EBlk} {a : ABlk} (hi : H[i]? = some k) (hk : k.isObj = true) (ho : ρ.o i = some (b, a)) : Hp ρ (H.set i .dead) h₀ (h.del b) := by
  obtain ⟨x, a', g1, g2, g3, g4⟩ := hp.obj i k hi hk
  rw [ho] at g1; cases g1
  have old : ∀ {j : Nat} {y : EBlk}, (H.set i .dead)[j]? = some y → y ≠ .dead → H[j]? = some y ∧ j ≠ i := fun {j y} e hy => by
    rcases getElem?_set_ne' e with ⟨_, e⟩ | ⟨hne, e⟩
    · exact absurd e hy
    · exact ⟨e, hne⟩
  have keep : ∀ {x : Nat} {y : ABlk}, h x = some y → (y = a → x ≠ b) → (h.del b) x = some y := fun {x y} e hy => by
    rw [AHeap.del_other]
    · exact e
    · intro e'; subst e'; rw [g2] at e; cases e; exact hy rfl rfl
  have hn := g4.not
  refine ⟨fun j cs e => ?_, fun j es e => ?_, fun j e => ?_, fun j x e => by rw [List.length_set]; exact hp.ltb j x e, fun j x e => by rw [List.length_set]; exact hp.ltc j x e, hp.inj,
    fun j j' b' u s u' s' e e' => hp.injc j j' b' u s u' s' (old e (fun e => by cases e)).1 (old e' (fun e => by cases e)).1, fun j x e => ?_, fun j x e => ?_, hp.new, fun x y e => ?_, fun x y e => ?_, fun j q e eq => ?_,
    fun j x e => by rw [List.length_set]; exact hp.lto j x e, fun j j' q q' x a1 a2 e eq e' eq' q1 q2 => hp.injo j j' q q' x a1 a2 (old e (fun e => by subst e; cases eq)).1 eq (old e' (fun e => by subst e; cases eq')).1 eq' q1 q2⟩
  · obtain ⟨b', as, q1, q2, q3⟩ := hp.box j cs (old e (fun e => by cases e)).1
    exact ⟨b', as, q1, q2, keep q3 (fun e => absurd e.symm (hn.1 _))⟩
  · obtain ⟨b', as, q1, q2, q3, q4⟩ := hp.map j es (old e (fun e => by cases e)).1
    exact ⟨b', as, q1, keep q2 (fun e => absurd e.symm (hn.2.1 _)), q3, q4⟩
  · obtain ⟨c, q1, q2⟩ := hp.grow j (old e (fun e => by cases e)).1
    exact ⟨c, q1, q2.imp id fun ⟨b', u, s, r1, r2, r3⟩ => ⟨b', u, s, r1, keep r2 (fun e => absurd e.symm (hn.2.2 _ _)), r3⟩⟩
  · exact (hp.own j x e).imp (fun ⟨c, g⟩ => ⟨c, keep g (fun e => absurd e.symm (hn.1 _))⟩) (fun ⟨c, g⟩ => ⟨c, keep g (fun e => absurd e.symm (hn.2.1 _))⟩)
  · have hkk := hp.kinds j x e
    rw [List.getElem?_set_ne]
    · exact hkk
    · intro e'; subst e'; have := hkk.2.2 _ hi; rw [hk] at this; cases this
  · rw [AHeap.del_other]
    · exact hp.fr x y e
    · intro e'; subst e'; rw [g3] at e; cases e
  · have hx : x ≠ b := fun e' => by subst e'; simp at e
    rw [AHeap.del_other _ hx] at e
    rcases hp.all x y e with g | ⟨j, q1, q2⟩ | ⟨j, u, s, q1, q2⟩ | ⟨j, q, q1, q2, q3⟩
    · exact .inl g
    · exact .inr (.inl ⟨j, q1, by rw [List.length_set]; exact q2⟩)
    · refine .inr (.inr (.inl ⟨j, u, s, ?_, q2⟩))
      rw [List.getElem?_set_ne]
      · exact q1
      · intro e'; subst e'; rw [hi] at q1; cases q1; cases hk
    · refine .inr (.inr (.inr ⟨j, q, ?_, q2, q3⟩))
      rw [List.getElem?_set_ne]
      · exact q1
      · intro e'; subst e'; rw [ho] at q3; cases q3; exact hx rfl
  · obtain ⟨e, hne⟩ := old e (fun e => by subst e; cases eq)
    obtain ⟨x, a', q1, q2, q3, q4⟩ := hp.obj j q e eq
    refine ⟨x, a', q1, ?_, q3, q4⟩
    rw [AHeap.del_other]
    · exact q2
    · intro e'
      subst e'
      exact hne (hp.injo j i q k x a' a e eq hi hk q1 ho)
theorem RC.det {ρ : Ren} {x : ECap} {a b : Cap} (h : RC ρ x a) (h' : RC ρ x b) : a = b := by
  cases h with
  | ro => cases h'; rfl
  | full => cases h'; rfl
  | tok e => cases h' with | tok e' => rw [e] at e'; exact Option.some.inj e'
mutual
theorem RV.det {ρ : Ren} : ∀ {e : EV} {a b : AV}, RV ρ e a → RV ρ e b → a = b
  | _, _, _, .k x, h => by cases h; rfl
  | _, _, _, .pt off e, h => by cases h with | pt _ e' => rw [e] at e'; cases e'; rfl
  | _, _, _, .mp e, h => by cases h with | mp e' => rw [e] at e'; cases e'; rfl
  | _, _, _, .fn f vs r, h => by
    cases h with
    | fn _ ws r' =>
      have := RVs.det r r'
      have hinj : vs = ws := (List.map_inj_right (fun a b h => by injection h)).1 this
      rw [hinj]
  | _, _, _, .sl sz r c, h => by cases h with | sl _ r' c' => rw [RVss.det r r', c.det c']
  | _, _, _, .rp r, h => by cases h with | rp r' => rw [RVs.det r r']
  | _, _, _, .ag r, h => by cases h with | ag r' => rw [RVs.det r r']
  | _, _, _, .tu r, h => by cases h with | tu r' => rw [RVs.det r r']
  | _, _, _, .yd e, h => by cases h with | yd e' => rw [e] at e'; cases e'; rfl
  | _, _, _, .it e, h => by cases h with | it e' => rw [e] at e'; cases e'; rfl
  | _, _, _, .slb l k e f, h => by cases h with | slb _ _ e' f' => rw [e] at e'; cases e'; rw [← f, ← f']
theorem RVs.det {ρ : Ren} : ∀ {e : List EV} {a b : List AV}, RVs ρ e a → RVs ρ e b → a = b
  | _, _, _, .nil, h => by cases h; rfl
  | _, _, _, .cons r rs, h => by cases h with | cons r' rs' => rw [RV.det r r', RVs.det rs rs']
theorem RVss.det {ρ : Ren} : ∀ {e : List (List EV)} {a b : List (List AV)}, RVss ρ e a → RVss ρ e b → a = b
  | _, _, _, .nil, h => by cases h; rfl
  | _, _, _, .cons r rs, h => by cases h with | cons r' rs' => rw [RVs.det r r', RVss.det rs rs']
end
theorem Hp.ext {ρ ρ' : Ren} {H H' : List EBlk} {h₀ h h' : AHeap} (hp : Hp ρ H h₀ h) (hp' : Hp ρ' H' h₀ h') (hρ : ρ.le ρ') (hpre : ∀ (i : Nat) (o : EBlk), H[i]? = some o → H'[i]? = some o) : h.le h' := fun b o e => by
  rcases hp.all b o e with g | ⟨i, g1, g2⟩ | ⟨i, u, s, g1, g2⟩ | ⟨i, k, g1, g2, g3⟩
  · exact ⟨o, hp'.fr b o g, .refl o⟩
  · refine ⟨o, ?_, .refl o⟩
    cases ho : H[i]? with
    | none => rw [List.getElem?_eq_none_iff] at ho; omega
    | some y =>
      cases y with
      | box cs =>
        obtain ⟨b1, as, q1, q2, q3⟩ := hp.box i cs ho
        obtain ⟨b2, as', r1, r2, r3⟩ := hp'.box i cs (hpre i _ ho)
        rw [g1] at q1; cases q1
        rw [hρ.1 _ _ g1] at r1; cases r1
        rw [q3] at e; cases e
        rw [(q2.mono hρ).det r2, ← (hρ.2.2.2 _ _ g1).1]; exact r3
      | map es =>
        obtain ⟨b1, as, q1, q3, q4, q5⟩ := hp.map i es ho
        obtain ⟨b2, as', r1, r3, r4, r5⟩ := hp'.map i es (hpre i _ ho)
        rw [g1] at q1; cases q1
        rw [hρ.1 _ _ g1] at r1; cases r1
        rw [q3] at e; cases e
        have h2 := (q5.mono hρ).det r5
        have h1 : as.map (·.1) = as'.map (·.1) := q4.trans r4.symm
        have : as = as' := by
          clear q3 r3 q4 r4 q5 r5
          induction as generalizing as' with
          | nil => cases as' with | nil => rfl | cons _ _ => simp at h1
          | cons p l ih => cases as' with
            | nil => simp at h1
            | cons q m =>
              simp only [List.map_cons, List.cons.injEq] at h1 h2
              rw [ih m h2.2 h1.2, Prod.ext h1.1 h2.1]
        rw [this]; exact r3
      | grow => exact absurd ho (hp.kinds i b g1).1
      | dead => exact absurd ho (hp.kinds i b g1).2.1
      | iter m => have := (hp.kinds i b g1).2.2 _ ho; cases this
      | loop => have := (hp.kinds i b g1).2.2 _ ho; cases this
  · obtain ⟨c1, q1, q2⟩ := hp.grow i g1
    rw [g2] at q1; cases q1
    obtain ⟨c2, r1, r2⟩ := hp'.grow i (hpre i _ g1)
    rw [hρ.2.1 _ _ g2] at r1; cases r1
    rcases q2 with q2 | ⟨_, _, _, q, q2, _⟩
    · cases q2
    · cases q
      rcases r2 with r2 | ⟨_, _, _, r, r2, _⟩
      · cases r2
      · cases r
        rw [q2] at e; cases e
        exact ⟨_, r2, .refl _⟩
  · obtain ⟨x, a, q1, q2, q3, q4⟩ := hp'.obj i k (hpre i _ g1) g2
    rw [hρ.2.2.1 _ _ g3] at q1; cases q1
    exact ⟨o, q2, .refl _⟩
def vbeq0 : Value → Value → Bool
  | .bool a, .bool b => a == b
  | .int k m, .int j n => decide (k = j) && decide (m = n)
  | .string s, .string t => decide (s.data.toList = t.data.toList)
  | .slice none a b, .slice none c d => Nat.beq a c && Nat.beq b d
  | .pointer none, .pointer none => true
  | .map none, .map none => true
  | .nilFunc, .nilFunc => true
  | .nilIface, .nilIface => true
  | .tuple a, .tuple b => Nat.beq a.size 0 && Nat.beq b.size 0
  | _, _ => false
theorem vbeq0_eq {a b : Value} (h : vbeq0 a b = true) : a = b := by
  unfold vbeq0 at h
  split at h <;> simp_all
  · rename_i s t
    cases s; cases t; simp_all
def vsbeq0 : List Value → List Value → Bool
  | [], [] => true
  | a :: l, b :: m => vbeq0 a b && vsbeq0 l m
  | _, _ => false
theorem vsbeq0_eq : ∀ {a b : List Value}, vsbeq0 a b = true → a = b
  | [], b, h => by cases b <;> simp [vsbeq0] at h; rfl
  | x :: l, b, h => by cases b <;> simp [vsbeq0] at h; rw [vbeq0_eq h.1, vsbeq0_eq h.2]
def vbeq : Value → Value → Bool
  | .agg a, .agg b => vsbeq0 a.toList b.toList
  | a, b => vbeq0 a b
theorem vbeq_eq {a b : Value} (h : vbeq a b = true) : a = b := by
  unfold vbeq at h
  split at h
  · rename_i x y
    have := vsbeq0_eq h
    cases x; cases y; simp_all
  · exact vbeq0_eq h
mutual
def EV.beq : EV → EV → Bool
  | .k a, .k b => vbeq a b
  | .pt i o, .pt j p => Nat.beq i j && Nat.beq o p
  | .mp i, .mp j => Nat.beq i j
  | .fn f c, .fn g d => decide (f = g) && EVs.beq c d
  | .sl s es c, .sl t fs d => Nat.beq s t && EVss.beq es fs && decide (c = d)
  | .rp a, .rp b => EVs.beq a b
  | .ag a, .ag b => EVs.beq a b
  | .tu a, .tu b => EVs.beq a b
  | .yd i, .yd j => Nat.beq i j
  | .it i, .it j => Nat.beq i j
  | .slb i l, .slb j m => Nat.beq i j && Nat.beq l m
  | _, _ => false
def EVs.beq : List EV → List EV → Bool
  | [], [] => true
  | a :: l, b :: m => EV.beq a b && EVs.beq l m
  | _, _ => false
def EVss.beq : List (List EV) → List (List EV) → Bool
  | [], [] => true
  | a :: l, b :: m => EVs.beq a b && EVss.beq l m
  | _, _ => false
end
mutual
theorem EV.beq_eq : ∀ {a b : EV}, EV.beq a b = true → a = b
  | .k a, b, h => by cases b <;> simp [EV.beq] at h; rw [vbeq_eq h]
  | .pt i o, b, h => by cases b <;> simp [EV.beq] at h; rw [h.1, h.2]
  | .mp i, b, h => by cases b <;> simp [EV.beq] at h; rw [h]
  | .fn f c, b, h => by cases b <;> simp [EV.beq] at h; rw [h.1, EVs.beq_eq h.2]
  | .sl s es c, b, h => by cases b <;> simp [EV.beq] at h; rw [h.1.1, EVss.beq_eq h.1.2, h.2]
  | .rp a, b, h => by cases b <;> simp [EV.beq] at h; rw [EVs.beq_eq h]
  | .ag a, b, h => by cases b <;> simp [EV.beq] at h; rw [EVs.beq_eq h]
  | .tu a, b, h => by cases b <;> simp [EV.beq] at h; rw [EVs.beq_eq h]
  | .yd i, b, h => by cases b <;> simp [EV.beq] at h; rw [h]
  | .it i, b, h => by cases b <;> simp [EV.beq] at h; rw [h]
  | .slb i l, b, h => by cases b <;> simp [EV.beq] at h; rw [h.1, h.2]
theorem EVs.beq_eq : ∀ {a b : List EV}, EVs.beq a b = true → a = b
  | [], b, h => by cases b <;> simp [EVs.beq] at h; rfl
  | x :: l, b, h => by cases b <;> simp [EVs.beq] at h; rw [EV.beq_eq h.1, EVs.beq_eq h.2]
theorem EVss.beq_eq : ∀ {a b : List (List EV)}, EVss.beq a b = true → a = b
  | [], b, h => by cases b <;> simp [EVss.beq] at h; rfl
  | x :: l, b, h => by cases b <;> simp [EVss.beq] at h; rw [EVs.beq_eq h.1, EVss.beq_eq h.2]
end
def entsBeq : List (Value × EV) → List (Value × EV) → Bool
  | [], [] => true
  | a :: l, b :: m => vbeq a.1 b.1 && EV.beq a.2 b.2 && entsBeq l m
  | _, _ => false
theorem entsBeq_eq : ∀ {a b : List (Value × EV)}, entsBeq a b = true → a = b
  | [], b, h => by cases b <;> simp [entsBeq] at h; rfl
  | x :: l, b, h => by
    cases b with
    | nil => simp [entsBeq] at h
    | cons y m =>
      simp only [entsBeq, Bool.and_eq_true] at h
      rw [entsBeq_eq h.2]
      have h1 := vbeq_eq h.1.1
      have h2 := EV.beq_eq h.1.2
      cases x; cases y
      simp_all
def EBlk.beq : EBlk → EBlk → Bool
  | .box a, .box b => EVs.beq a b
  | .map a, .map b => entsBeq a b
  | .grow, .grow => true
  | .dead, .dead => true
  | .iter m, .iter n => decide (m = n)
  | .loop, .loop => true
  | _, _ => false
theorem EBlk.beq_eq {a b : EBlk} (h : EBlk.beq a b = true) : a = b := by
  cases a <;> cases b <;> simp [EBlk.beq] at h
  · rw [EVs.beq_eq h]
  · rw [entsBeq_eq h]
  · rfl
  · rfl
  · rw [h]
  · rfl
def heapBeq : List EBlk → List EBlk → Bool
  | [], [] => true
  | a :: l, b :: m => EBlk.beq a b && heapBeq l m
  | _, _ => false
theorem heapBeq_eq : ∀ {a b : List EBlk}, heapBeq a b = true → a = b
  | [], b, h => by cases b <;> simp [heapBeq] at h; rfl
  | x :: l, b, h => by cases b <;> simp [heapBeq] at h; rw [EBlk.beq_eq h.1, heapBeq_eq h.2]
def preBeq : List EBlk → List EBlk → Bool
  | [], _ => true
  | a :: l, b :: m => EBlk.beq a b && preBeq l m
  | _ :: _, [] => false
theorem preBeq_ok : ∀ {a b : List EBlk}, preBeq a b = true → ∀ (i : Nat) (o : EBlk), a[i]? = some o → b[i]? = some o
  | [], b, h, i, o, e => by simp at e
  | x :: l, b, h, i, o, e => by
    cases b with
    | nil => simp [preBeq] at h
    | cons z m =>
      simp only [preBeq, Bool.and_eq_true] at h
      cases i with
      | zero => simp at e; subst e; simp [EBlk.beq_eq h.1]
      | succ i => simpa using preBeq_ok h.2 i o (by simpa using e)
mutual
def EV.closed : EV → Option AV
  | .k v => some (.v v)
  | .sl sz es _ => match EVss.closed es with | some as => some (.sl sz as .ro) | none => none
  | .ag cs => match EVs.closed cs with | some as => some (.ag as) | none => none
  | .tu cs => match EVs.closed cs with | some as => some (.tu as) | none => none
  | _ => none
def EVs.closed : List EV → Option (List AV)
  | [] => some []
  | e :: es => match EV.closed e, EVs.closed es with | some a, some as => some (a :: as) | _, _ => none
def EVss.closed : List (List EV) → Option (List (List AV))
  | [] => some []
  | e :: es => match EVs.closed e, EVss.closed es with | some a, some as => some (a :: as) | _, _ => none
end
mutual
def EV.ro : EV → EV
  | .sl sz es _ => .sl sz (EVss.ro es) .ro
  | .ag cs => .ag (EVs.ro cs)
  | .tu cs => .tu (EVs.ro cs)
  | e => e
def EVs.ro : List EV → List EV
  | [] => []
  | e :: es => EV.ro e :: EVs.ro es
def EVss.ro : List (List EV) → List (List EV)
  | [] => []
  | e :: es => EVs.ro e :: EVss.ro es
end
inductive ALess : List (List AV) → List (List AV) → Prop
  | nil : ALess [] []
  | cons {x y : List AV} {xs ys : List (List AV)} : ALes x y → ALess xs ys → ALess (x :: xs) (y :: ys)
theorem ALes.len : ∀ {xs ys : List AV}, ALes xs ys → ys.length = xs.length
  | _, _, .nil => rfl
  | _, _, .cons _ h => by simp [ALes.len h]
theorem ALes.app : ∀ {xs ys xs' ys' : List AV}, ALes xs ys → ALes xs' ys' → ALes (xs ++ xs') (ys ++ ys')
  | _, _, _, _, .nil, h => h
  | _, _, _, _, .cons e g, h => .cons e (ALes.app g h)
theorem ALess.flat : ∀ {xs ys : List (List AV)}, ALess xs ys → ALes xs.flatten ys.flatten
  | _, _, .nil => .nil
  | _, _, .cons h hs => by simp only [List.flatten_cons]; exact h.app hs.flat
theorem ALess.len : ∀ {xs ys : List (List AV)}, ALess xs ys → ys.length = xs.length
  | _, _, .nil => rfl
  | _, _, .cons _ h => by simp [ALess.len h]
theorem ALess.sz {sz : Nat} : ∀ {xs ys : List (List AV)}, ALess xs ys → (∀ e ∈ xs, e.length = sz) → ∀ e ∈ ys, e.length = sz
  | _, _, .nil, _, e, he => by simp at he
  | _, _, .cons h hs, hx, e, he => by
    rcases List.mem_cons.1 he with rfl | he
    · rw [h.len]; exact hx _ (List.mem_cons_self ..)
    · exact ALess.sz hs (fun e he => hx e (List.mem_cons_of_mem _ he)) e he
theorem ALe.slss {sz : Nat} {xs ys : List (List AV)} {c : Cap} (h : ALess xs ys) : ALe (.sl sz xs c) (.sl sz ys .ro) := fun st u hu => by
  cases hu with
  | nil _ _ a hc => cases h; exact .nil sz .ro a trivial
  | sl _ _ _ b off cap vs g1 g2 g3 g4 g5 g6 =>
    have hl := h.len
    have := VRel.sl (st := st) sz ys .ro b off cap vs (h.flat.rel g1) g2 (h.sz g3) (by omega) g5 trivial
    rw [hl] at this
    exact this
mutual
theorem closed_ok {ρ ρ' : Ren} : ∀ {e : EV} {a y : AV}, RV ρ' e a → EV.closed e = some y → ALe a y ∧ RV ρ (EV.ro e) y
  | _, _, _, .k x, h => by simp only [EV.closed, Option.some.injEq] at h; subst h; exact ⟨.refl _, .k x⟩
  | _, _, _, .pt off e, h => by simp [EV.closed] at h
  | _, _, _, .mp e, h => by simp [EV.closed] at h
  | _, _, _, .fn f vs r, h => by simp [EV.closed] at h
  | _, _, _, .rp r, h => by simp [EV.closed] at h
  | _, _, _, .yd r, h => by simp [EV.closed] at h
  | _, _, _, .it r, h => by simp [EV.closed] at h
  | _, _, _, .slb _ _ r _, h => by simp [EV.closed] at h
  | _, _, _, .sl sz r c, h => by
    simp only [EV.closed] at h
    split at h <;> cases h
    rename_i hs
    obtain ⟨g1, g2⟩ := closedss_ok (ρ := ρ) r hs
    exact ⟨ALe.slss g1, .sl sz g2 .ro⟩
  | _, _, _, .ag r, h => by
    simp only [EV.closed] at h
    split at h <;> cases h
    rename_i hs
    obtain ⟨g1, g2⟩ := closeds_ok (ρ := ρ) r hs
    exact ⟨ALe.ag g1, .ag g2⟩
  | _, _, _, .tu r, h => by
    simp only [EV.closed] at h
    split at h <;> cases h
    rename_i hs
    obtain ⟨g1, g2⟩ := closeds_ok (ρ := ρ) r hs
    exact ⟨ALe.tu g1, .tu g2⟩
theorem closeds_ok {ρ ρ' : Ren} : ∀ {e : List EV} {a y : List AV}, RVs ρ' e a → EVs.closed e = some y → ALes a y ∧ RVs ρ (EVs.ro e) y
  | _, _, _, .nil, h => by simp only [EVs.closed, Option.some.injEq] at h; subst h; exact ⟨.nil, .nil⟩
  | _, _, _, .cons r rs, h => by
    simp only [EVs.closed] at h
    split at h <;> cases h
    rename_i h1 h2
    obtain ⟨g1, g2⟩ := closed_ok (ρ := ρ) r h1
    obtain ⟨g3, g4⟩ := closeds_ok (ρ := ρ) rs h2
    exact ⟨.cons g1 g3, .cons g2 g4⟩
theorem closedss_ok {ρ ρ' : Ren} : ∀ {e : List (List EV)} {a y : List (List AV)}, RVss ρ' e a → EVss.closed e = some y → ALess a y ∧ RVss ρ (EVss.ro e) y
  | _, _, _, .nil, h => by simp only [EVss.closed, Option.some.injEq] at h; subst h; exact ⟨.nil, .nil⟩
  | _, _, _, .cons r rs, h => by
    simp only [EVss.closed] at h
    split at h <;> cases h
    rename_i h1 h2
    obtain ⟨g1, g2⟩ := closeds_ok (ρ := ρ) r h1
    obtain ⟨g3, g4⟩ := closedss_ok (ρ := ρ) rs h2
    exact ⟨.cons g1 g3, .cons g2 g4⟩
end
mutual
theorem closed_rv {ρ : Ren} : ∀ {e : EV} {y : AV}, EV.closed e = some y → RV ρ (EV.ro e) y
  | .k x, _, h => by simp only [EV.closed, Option.some.injEq] at h; subst h; exact .k x
  | .pt _ _, _, h => by simp [EV.closed] at h
  | .mp _, _, h => by simp [EV.closed] at h
  | .fn _ _, _, h => by simp [EV.closed] at h
  | .rp _, _, h => by simp [EV.closed] at h
  | .yd _, _, h => by simp [EV.closed] at h
  | .it _, _, h => by simp [EV.closed] at h
  | .slb _ _, _, h => by simp [EV.closed] at h
  | .sl sz es c, _, h => by
    simp only [EV.closed] at h
    split at h <;> cases h
    rename_i hs
    exact .sl sz (closedss_rv hs) .ro
  | .ag cs, _, h => by
    simp only [EV.closed] at h
    split at h <;> cases h
    rename_i hs
    exact .ag (closeds_rv hs)
  | .tu cs, _, h => by
    simp only [EV.closed] at h
    split at h <;> cases h
    rename_i hs
    exact .tu (closeds_rv hs)
theorem closeds_rv {ρ : Ren} : ∀ {e : List EV} {y : List AV}, EVs.closed e = some y → RVs ρ (EVs.ro e) y
  | [], _, h => by simp only [EVs.closed, Option.some.injEq] at h; subst h; exact .nil
  | e :: es, _, h => by
    simp only [EVs.closed] at h
    split at h <;> cases h
    rename_i h1 h2
    exact .cons (closed_rv h1) (closeds_rv h2)
theorem closedss_rv {ρ : Ren} : ∀ {e : List (List EV)} {y : List (List AV)}, EVss.closed e = some y → RVss ρ (EVss.ro e) y
  | [], _, h => by simp only [EVss.closed, Option.some.injEq] at h; subst h; exact .nil
  | e :: es, _, h => by
    simp only [EVss.closed] at h
    split at h <;> cases h
    rename_i h1 h2
    exact .cons (closeds_rv h1) (closedss_rv h2)
end
end Go.Av
