import Derived.Test.YtnmgamcmjjngcaaU3
import Derived.WideKeyPair
set_option linter.unusedVariables false
set_option linter.unusedSimpArgs false
namespace Go.Proofs.Ytnmgamcmjjngcaa
open Go.Av

theorem key106 : WideMaps.ArrKey Try.prog 106 22 2 := ⟨Try.underlying106, by kernel_rfl, by kernel_rfl, by kernel_rfl⟩
theorem types_pos : ∃ m, Try.prog.types.size = m + 1 := ⟨Try.prog.types.size - 1, by
  have : 0 < Try.prog.types.size := of_decide_eq_true (by kernel_rfl)
  omega⟩
theorem wf_u64 (x : UInt64) : (Lit.int .u64 (x.toNat : Int)).wf = true := by
  have := x.toNat_lt
  simp [Lit.wf, IntKind.min, IntKind.max, IntKind.signed, IntKind.bits]
  omega
theorem key_of (k : UInt64 × UInt64) : ∃ l, keyOf Try.prog 106 (pairV k) = some l := ⟨_, WideMaps.keyOf_pair key106 Try.underlying22 types_pos (wf_u64 _) (wf_u64 _)⟩

theorem pairV_inj {a b : UInt64 × UInt64} (h : pairV a = pairV b) : a = b := by
  simp only [pairV, Value.agg.injEq, Array.mk.injEq, List.cons.injEq, Value.int.injEq, true_and, and_true] at h
  obtain ⟨h1, h2⟩ := h
  exact Prod.ext (UInt64.toNat_inj.1 (by exact_mod_cast h1)) (UInt64.toNat_inj.1 (by exact_mod_cast h2))

def isCut (l : List ((UInt64 × UInt64) × Bool)) (k : UInt64 × UInt64) : Bool := match l.find? (fun p => p.1 == k) with | some p => p.2 | none => false

theorem isCut_at {l : List ((UInt64 × UInt64) × Bool)} (hn : (l.map (·.1)).Nodup) {j : Nat} {k : UInt64 × UInt64} {b : Bool} (h : l[j]? = some (k, b)) : isCut l k = b := by
  induction l generalizing j with
  | nil => simp at h
  | cons p l ih =>
    simp only [List.map_cons, List.nodup_cons] at hn
    unfold isCut
    rw [List.find?_cons]
    cases j with
    | zero => simp only [List.getElem?_cons_zero, Option.some.injEq] at h; subst h; simp
    | succ j =>
      simp only [List.getElem?_cons_succ] at h
      have hne : (p.1 == k) = false := by
        simp only [beq_eq_false_iff_ne, ne_eq]
        intro e
        exact hn.1 (by rw [e]; exact List.mem_map.2 ⟨_, List.mem_of_getElem? h, rfl⟩)
      rw [hne]
      exact ih hn.2 h

theorem isCut_none {l : List ((UInt64 × UInt64) × Bool)} {k : UInt64 × UInt64} (h : ∀ p ∈ l, p.1 ≠ k) : isCut l k = false := by
  unfold isCut
  rw [List.find?_eq_none.2 (fun p hp => by simpa using h p hp)]

theorem S.lookupCut {c : Cls} {E : AEnv} {h : AHeap} {K : AV → AHeap → Prop} {x y : Operand} {bm : Nat} {l : List ((UInt64 × UInt64) × Bool)} {k : UInt64 × UInt64} (hc : c ≠ .pure) (hx : aev E x = some (.v (.map (some bm)))) (hb : h bm = some (.map (cutEnts l))) (hn : (l.map (·.1)).Nodup)
    (hy : aev E y = some (.ag [u64 k.1, u64 k.2])) (hk : K (bl (isCut l k)) h) : ROpS Try.prog c (.lookup 106 (.bool false) x y false) E h K := by
  obtain ⟨lk, hlk⟩ := key_of k
  refine R.lookup (key := pairV k) (l := lk) key106.law hc hx hb hy ?_ hlk ?_ ?_ ?_ hk
  · intro st u hu
    cases hu with
    | ag _ vs hv =>
      obtain ⟨l⟩ := vs
      have hv' : VRels st ([.int .u64 k.1.toNat, .int .u64 k.2.toNat].map AV.v) l := hv
      rw [hv'.atoms]; rfl
  · intro p hp
    obtain ⟨q, _, rfl⟩ := List.mem_map.1 hp
    exact key_of q.1
  · intro hno
    rw [isCut_none fun p hp e => hno _ (List.mem_map.2 ⟨p, hp, rfl⟩) (by simp only [e])]
  · intro j av hj
    simp only [cutEnts, List.getElem?_map, Option.map_eq_some_iff] at hj
    obtain ⟨q, hq, he⟩ := hj
    simp only [Prod.mk.injEq] at he
    have hk' := pairV_inj he.1
    rw [isCut_at hn (j := j) (b := q.2) (by rw [hq, ← hk'])]
    exact he.2

def Msg.key (x : Msg) : UInt64 × UInt64 := (min x.src x.dst, max x.src x.dst)
def clampT (n : Int) : Nat := (min (max n 0) 3).toNat
def clampD (n : Int) : Nat := (min (max n 0) 100).toNat
def Mesh.send1 (M : Mesh) (x : Msg) : Mesh :=
  if isCut M.cut x.key then { M with sent := M.sent + 1 }
  else { M with sent := M.sent + 1, wait := M.wait ++ List.replicate (clampT (fateAt M.fates M.sent).times) ⟨x, (M.now : Int) + clampD (fateAt M.fates M.sent).delay⟩ }
def Mesh.send : Mesh → List Msg → Mesh
  | M, [] => M
  | M, x :: l => (M.send1 x).send l

theorem one_fly (f : Fly) : ∀ e ∈ [f.cells], ∀ a ∈ e, a.one = true := by
  intro e he a ha
  simp only [List.mem_singleton] at he
  subst he
  simp only [Fly.cells, Msg.cells, List.cons_append, List.nil_append, List.mem_cons, List.not_mem_nil, or_false] at ha
  rcases ha with rfl | rfl | rfl | rfl | rfl | rfl | rfl | rfl | rfl | rfl | rfl | rfl | rfl | rfl | rfl <;> rfl

theorem over_app (A S X : List AV) (n : Nat) (hn : n = A.length) : over (A ++ S) n X = A ++ X ++ S.drop X.length := by
  subst hn
  unfold over
  rw [List.take_left, List.drop_append, List.drop_of_length_le (by omega), List.nil_append, show A.length + X.length - A.length = X.length by omega]

theorem waitLen (l : List Fly) : (l.map Fly.cells).flatten.length = l.length * 15 := by rw [flatten_length _ (fly_len l), List.length_map]

theorem MAt.free {h₀ h : AHeap} {M : Mesh} {p bm : Nat} (H : MAt h₀ M p bm h) {b : Nat} (hb : h b = none) : h₀ b = none := by
  cases e : h₀ b with
  | none => rfl
  | some o => have := H.fr b o e; rw [hb] at this; cases this

/-- One message more waits. -/
theorem S.appendFly {h₀ h : AHeap} {M : Mesh} {p bm : Nat} {c : Cls} {E : AEnv} {K : AV → AHeap → Prop} {x y : Operand} {zero : List Value} {v y' : AV} {f : Fly} (hc : c = .act) (H : MAt h₀ M p bm h) (hp : h p = some (.box [fates M.fates, i64 M.sent, i64 M.now, .v (.map (some bm)), v])) (hw : WaitAt h₀ p M.wait v h)
    (hx : aev E x = some v) (hy : aev E y = some y') (hs : Go.Av.Src 15 y' [f.cells]) (hl : M.wait.length ≤ 1000000)
    (hk : ∀ v' h', (∀ x o, h₀ x = some o → h' x = some o) → h' bm = some (.map (cutEnts M.cut)) → h' p = h p → (WaitAt h₀ p (M.wait ++ [f]) v' h') → K v' h') : ROpS Try.prog c (.append 15 168 zero x y) E h K := by
  rcases hw with ⟨hnil, rfl⟩ | ⟨b, cap, sp, w1, w2, rfl, w4, w5, w6, w7⟩
  · refine R.appendBox hc hx .nil hy hs (one_fly f) (by simp) (by simp) (by simp) (fun b cap hb hc1 hc2 => hk _ _ (fun x o e => AHeap.get_fresh hb (H.fr x o e)) (AHeap.get_fresh hb H.hm) (AHeap.set_other _ _ ?_) (.inr ⟨b, cap, List.replicate ((cap - [f.cells].length) * 15) .any, H.free hb, ?_, ?_, ?_, ?_, ?_, hc2⟩))
    · intro e; subst e; rw [hb] at hp; cases hp
    · intro e; subst e; rw [hb] at hp; cases hp
    · rw [hnil]; rfl
    · rw [hnil, AHeap.set_same]; rfl
    · rw [hnil]; simp
    · rw [hnil]; exact hc1
  · have hpb : p ≠ b := Ne.symm w2
    have hmb : bm ≠ b := fun e => by subst e; rw [H.hm] at w4; cases w4
    have hwl := waitLen M.wait
    have hlen : ((M.wait.map Fly.cells).flatten ++ sp).length = cap * 15 := by
      rw [List.length_append, hwl, w5, ← Nat.add_mul]; congr 1; omega
    have hfl : ((M.wait ++ [f]).map Fly.cells).flatten = (M.wait.map Fly.cells).flatten ++ [f.cells].flatten := by simp
    have hf15 : [f.cells].flatten.length = 15 := rfl
    refine R.appendOwn hc hx w4 (by rw [hlen]; omega) w6 hy hs (one_fly f) (by simp) (by simp; omega) (by simp; omega) (fun hroom => hk _ _ (fun x o e => ?_) ?_ (AHeap.set_other _ _ hpb) (.inr ⟨b, cap, sp.drop 15, w1, w2, ?_, ?_, ?_, ?_, w7⟩))
      (fun b' cap' hb' hc1 hc2 => hk _ _ (fun x o e => AHeap.get_fresh hb' (H.fr x o e)) (AHeap.get_fresh hb' H.hm) (AHeap.set_other _ _ ?_) (.inr ⟨b', cap', List.replicate ((cap' - (M.wait.length + [f.cells].length)) * 15) .any, H.free hb', ?_, ?_, ?_, ?_, ?_, hc2⟩))
    · have hxb : x ≠ b := fun e' => by subst e'; rw [w1] at e; cases e
      rw [AHeap.set_other _ _ hxb]; exact H.fr x o e
    · rw [AHeap.set_other _ _ hmb]; exact H.hm
    · simp
    · rw [AHeap.set_same, over_app _ _ _ _ (by rw [hwl]; omega), hfl, hf15]
    · rw [List.length_drop, w5, List.length_append]
      simp at hroom ⊢
      omega
    · simpa using hroom
    · intro e; subst e; rw [hb'] at hp; cases hp
    · intro e; subst e; rw [hb'] at hp; cases hp
    · simp
    · rw [AHeap.set_same, List.drop_zero, List.take_append_of_le_length (by rw [hwl]; omega), List.take_of_length_le (by rw [hwl]; omega), hfl]
    · simp
    · simpa using hc1

end Go.Proofs.Ytnmgamcmjjngcaa
