import Derived.Test.YtnmgamcmjjngcaaU4
set_option linter.unusedVariables false
set_option linter.unusedSimpArgs false
namespace Go.Proofs.Ytnmgamcmjjngcaa
open Go.Av

def setCut : List ((UInt64 × UInt64) × Bool) → UInt64 × UInt64 → Bool → List ((UInt64 × UInt64) × Bool)
  | [], k, b => [(k, b)]
  | p :: l, k, b => if p.1 = k then (k, b) :: l else p :: setCut l k b

theorem setCut_new : ∀ {l : List ((UInt64 × UInt64) × Bool)} {k : UInt64 × UInt64} (b : Bool), (∀ p ∈ l, p.1 ≠ k) → setCut l k b = l ++ [(k, b)]
  | [], k, b, _ => rfl
  | p :: l, k, b, h => by
    rw [setCut, if_neg (h p (List.mem_cons_self ..)), setCut_new b fun q hq => h q (List.mem_cons_of_mem _ hq)]; rfl

theorem setCut_old : ∀ {l : List ((UInt64 × UInt64) × Bool)} {k : UInt64 × UInt64} (b : Bool) {j : Nat} {b' : Bool}, (l.map (·.1)).Nodup → l[j]? = some (k, b') → setCut l k b = l.set j (k, b)
  | [], k, b, j, b', _, h => by simp at h
  | p :: l, k, b, 0, b', hn, h => by
    simp only [List.getElem?_cons_zero, Option.some.injEq] at h
    subst h
    rw [setCut, if_pos rfl]; rfl
  | p :: l, k, b, j + 1, b', hn, h => by
    simp only [List.getElem?_cons_succ] at h
    simp only [List.map_cons, List.nodup_cons] at hn
    have hne : p.1 ≠ k := fun e => hn.1 (by rw [e]; exact List.mem_map.2 ⟨_, List.mem_of_getElem? h, rfl⟩)
    rw [setCut, if_neg hne, setCut_old b hn.2 h]; rfl

theorem setCut_keys : ∀ (l : List ((UInt64 × UInt64) × Bool)) (k : UInt64 × UInt64) (b : Bool), (setCut l k b).map (·.1) = if k ∈ l.map (·.1) then l.map (·.1) else l.map (·.1) ++ [k]
  | [], k, b => by simp [setCut]
  | p :: l, k, b => by
    rw [setCut]
    by_cases h : p.1 = k
    · subst h; simp
    · rw [if_neg h, List.map_cons, setCut_keys l k b]
      by_cases h2 : k ∈ l.map (·.1)
      · rw [if_pos h2, if_pos (by simp only [List.map_cons, List.mem_cons]; exact .inr h2)]; rfl
      · rw [if_neg h2, if_neg (by simp only [List.map_cons, List.mem_cons]; exact fun e => e.elim (fun e => h e.symm) h2)]; rfl

theorem setCut_nodup {l : List ((UInt64 × UInt64) × Bool)} (k : UInt64 × UInt64) (b : Bool) (hn : (l.map (·.1)).Nodup) : ((setCut l k b).map (·.1)).Nodup := by
  rw [setCut_keys]
  split
  · exact hn
  · next h =>
    rw [List.nodup_append]
    exact ⟨hn, by simp, fun a ha c hc => by simp only [List.mem_singleton] at hc; subst hc; exact fun e => h (e ▸ ha)⟩

theorem isCut_set : ∀ (l : List ((UInt64 × UInt64) × Bool)) (k k' : UInt64 × UInt64) (b : Bool), isCut (setCut l k b) k' = if k = k' then b else isCut l k'
  | [], k, k', b => by
    by_cases h : k = k'
    · subst h; simp [setCut, isCut]
    · have : (k == k') = false := by simpa using h
      simp [setCut, isCut, h, this]
  | p :: l, k, k', b => by
    have ih := isCut_set l k k' b
    rw [setCut]
    unfold isCut at ih ⊢
    by_cases h1 : p.1 = k
    · rw [if_pos h1, List.find?_cons, List.find?_cons]
      by_cases h2 : k = k'
      · subst h2; simp
      · have e1 : (k == k') = false := by simpa using h2
        have e2 : (p.1 == k') = false := by rw [h1]; exact e1
        simp [h2, e1, e2]
    · rw [if_neg h1, List.find?_cons, List.find?_cons]
      by_cases h3 : p.1 = k'
      · have h2 : ¬ k = k' := fun e => h1 (h3.trans e.symm)
        have e : (p.1 == k') = true := by simpa using h3
        simp [h2, e]
      · have e : (p.1 == k') = false := by simpa using h3
        rw [e]
        exact ih

/-- Cut of a mesh that somebody made. -/
theorem cut_spec' {h₀ h : AHeap} {M : Mesh} {p bm : Nat} (H : MAt h₀ M p bm h) (k : UInt64 × UInt64) (b : Bool) {h' : AHeap} (he : h' = h.set bm (.map (cutEnts (setCut M.cut k b)))) : MAt h₀ { M with cut := setCut M.cut k b } p bm h' := by
  subst he
  obtain ⟨v, hp, hw⟩ := H.hp
  have hpm : p ≠ bm := fun e => by subst e; rw [H.hm] at hp; cases hp
  refine ⟨fun x o e => ?_, H.p0, H.m0, AHeap.set_same _ _ _, setCut_nodup k b H.nd, v, by rw [AHeap.set_other _ _ hpm]; exact hp, ?_⟩
  · rw [AHeap.set_other]
    · exact H.fr x o e
    · intro e'; subst e'; rw [H.m0] at e; cases e
  · rcases hw with hw | ⟨c, cap, sp, g1, g2, g3, g4, g5⟩
    · exact .inl hw
    · have hcm : c ≠ bm := fun e => by subst e; rw [H.hm] at g4; cases g4
      exact .inr ⟨c, cap, sp, g1, g2, g3, by rw [AHeap.set_other _ _ hcm]; exact g4, g5⟩

theorem pair_only {k : UInt64 × UInt64} : ∀ st u, VRel st (.ag [u64 k.1, u64 k.2]) u → u = pairV k := by
  intro st u hu
  cases hu with
  | ag _ vs hv =>
    obtain ⟨l⟩ := vs
    have hv' : VRels st ([.int .u64 k.1.toNat, .int .u64 k.2.toNat].map AV.v) l := hv
    rw [hv'.atoms]; rfl

set_option maxRecDepth 100000 in
theorem tick_spec {h₀ h : AHeap} {M : Mesh} {p bm : Nat} (H : MAt h₀ M p bm h) (hn : M.now ≤ 1000000) : ACalls Try.prog 26 [ptr p] h (fun _ h' => MAt h₀ { M with now := M.now + 1 } p bm h') := by
  obtain ⟨v, hp, hw⟩ := H.hp
  obtain ⟨c, hc1, hc2⟩ := res26
  refine ACalls.enter Try.func26 hc1 Try.ntmps26 hc2 (Nat.le_of_ble_eq_true rfl) rfl ?_
  repeat' (first
    | refine S.nilK ?_
    | (refine S.op rfl ?_; first
      | refine R.callQ (by decide) rfl (ok_made _ hp) ?_
      | refine R.mv rfl ?_
      | refine R.fieldAddr rfl ?_
      | refine R.fieldAddrR rfl ?_
      | refine R.nilCheck rfl ?_
      | refine R.nilCheckR rfl ?_
      | refine R.loadR rfl rfl ?_
      | refine R.load (by decide) rfl (by (repeat' (first | assumption | exact AHeap.set_same _ _ _ | refine AHeap.get_fresh (by assumption) ?_ | refine AHeap.so ?_ ?_ | exact AHeap.n1 (by assumption) | exact AHeap.n2 (by assumption) | exact AHeap.ne_of (by assumption) (by assumption) | exact AHeap.n4 (by assumption) (by assumption) | exact AHeap.n5 (by assumption) | exact AHeap.n6 (by assumption) | exact AHeap.n7 (by assumption) (by assumption) | exact AHeap.n8 (by assumption) (by assumption))); first | done | fail) rfl ?_
      | refine S.addI rfl rfl (by omega) ?_
      | refine S.subI rfl rfl (by omega) ?_
      | refine S.addU rfl rfl ?_
      | refine S.subU rfl rfl ?_
      | refine S.addUc rfl (by decide) ?_
      | refine S.subUc rfl (by decide) ?_
      | refine S.arith rfl rfl rfl ?_
      | refine R.pickT rfl rfl ?_
      | refine R.pickF rfl rfl ?_
      | refine R.len rfl ?_
      | refine R.lenA rfl ?_
      | refine R.lenStr rfl ?_
      | refine S.convIU rfl (by omega) ?_
      | refine S.convUI rfl (by omega) ?_
      | refine R.convInt rfl ?_
      | refine R.not rfl ?_
      | refine R.eqPtrNil rfl rfl ?_
      | refine R.extract rfl rfl ?_
      | refine R.field rfl rfl ?_
      | refine R.alloc rfl (fun b hb => ?_)
      | refine R.box rfl rfl rfl (fun b hb => ?_)
      | refine R.build rfl rfl ?_
      | refine R.buildSl rfl rfl rfl (by decide) ?_
      | refine R.toStr rfl ?_
      | refine R.convStr rfl ?_
      | refine R.minmax rfl ?_
      | refine R.makeFunc rfl rfl ?_
      | (first | refine S.lss rfl rfl (fun hlt => ?_) (fun hlt => by exfalso; omega) | refine S.lss rfl rfl (fun hlt => by exfalso; omega) (fun hlt => ?_) | refine S.lss rfl rfl (fun hlt => ?_) (fun hlt => ?_))
      | (first | refine S.gtr rfl rfl (fun hlt => ?_) (fun hlt => by exfalso; omega) | refine S.gtr rfl rfl (fun hlt => by exfalso; omega) (fun hlt => ?_) | refine S.gtr rfl rfl (fun hlt => ?_) (fun hlt => ?_))
      | (first | refine S.leq rfl rfl (fun hlt => ?_) (fun hlt => by exfalso; omega) | refine S.leq rfl rfl (fun hlt => by exfalso; omega) (fun hlt => ?_) | refine S.leq rfl rfl (fun hlt => ?_) (fun hlt => ?_))
      | (first | refine S.geq rfl rfl (fun hlt => ?_) (fun hlt => by exfalso; omega) | refine S.geq rfl rfl (fun hlt => by exfalso; omega) (fun hlt => ?_) | refine S.geq rfl rfl (fun hlt => ?_) (fun hlt => ?_))
      | (first | refine S.eqInt rfl rfl (fun hlt => ?_) (fun hlt => by exfalso; omega) | refine S.eqInt rfl rfl (fun hlt => by exfalso; omega) (fun hlt => ?_) | refine S.eqInt rfl rfl (fun hlt => ?_) (fun hlt => ?_)))
    | (refine S.op0 rfl ?_; first | refine S.storeS rfl rfl rfl (by rfl) rfl (by first | decide | exact Nat.le_refl _ | exact Nat.le_of_ble_eq_true rfl) ?_ | refine S.store rfl rfl (by (repeat' (first | assumption | exact AHeap.set_same _ _ _ | refine AHeap.get_fresh (by assumption) ?_ | refine AHeap.so ?_ ?_ | exact AHeap.n1 (by assumption) | exact AHeap.n2 (by assumption) | exact AHeap.ne_of (by assumption) (by assumption) | exact AHeap.n4 (by assumption) (by assumption) | exact AHeap.n5 (by assumption) | exact AHeap.n6 (by assumption) | exact AHeap.n7 (by assumption) (by assumption) | exact AHeap.n8 (by assumption) (by assumption))); first | done | fail) rfl rfl rfl (by rfl) rfl ?_)
    | refine S.skip rfl ?_
    | refine S.skip0 rfl ?_
    | refine S.seq ?_
    | refine S.region ?_
    | refine S.regionT ?_
    | refine S.tstep ?_
    | refine S.talt ?_ ?_
    | exact S.tstop
    | refine S.tdone ?_
    | refine S.condT rfl ?_
    | refine S.condF rfl ?_
    | refine RRun.skip ?_
    | refine RRun.block ?_
    | refine RRun.inBlock ?_
    | refine RRun.exit rfl ?_)
  apply S.done rr26
  case hx => repeat (first | exact ResAt.nil | apply ResAt.tmp rfl | apply ResAt.cellA rfl (by (repeat' (first | assumption | exact AHeap.set_same _ _ _ | refine AHeap.get_fresh (by assumption) ?_ | refine AHeap.so ?_ ?_ | exact AHeap.n1 (by assumption) | exact AHeap.n2 (by assumption) | exact AHeap.ne_of (by assumption) (by assumption) | exact AHeap.n4 (by assumption) (by assumption) | exact AHeap.n5 (by assumption) | exact AHeap.n6 (by assumption) | exact AHeap.n7 (by assumption) (by assumption) | exact AHeap.n8 (by assumption) (by assumption))); first | done | fail) (by rfl) | apply ResAt.cell1 rfl (by (repeat' (first | assumption | exact AHeap.set_same _ _ _ | refine AHeap.get_fresh (by assumption) ?_ | refine AHeap.so ?_ ?_ | exact AHeap.n1 (by assumption) | exact AHeap.n2 (by assumption) | exact AHeap.ne_of (by assumption) (by assumption) | exact AHeap.n4 (by assumption) (by assumption) | exact AHeap.n5 (by assumption) | exact AHeap.n6 (by assumption) | exact AHeap.n7 (by assumption) (by assumption) | exact AHeap.n8 (by assumption) (by assumption))); first | done | fail) (by rfl))
  rw [show ((M.now : Int) + 1) = ((M.now + 1 : Nat) : Int) by omega]
  exact H.turn (n := M.sent) (t := M.now + 1) hp hw

set_option maxRecDepth 100000 in
theorem cut_spec {h₀ h : AHeap} {M : Mesh} {p bm : Nat} (H : MAt h₀ M p bm h) (a b : UInt64) (c : Bool) : ACalls Try.prog 20 [ptr p, u64 a, u64 b, bl c] h (fun _ h' => MAt h₀ { M with cut := setCut M.cut (min a b, max a b) c } p bm h') := by
  obtain ⟨v, hp, hw⟩ := H.hp
  obtain ⟨cc, hc1, hc2⟩ := res20
  obtain ⟨lk, hlk⟩ := key_of (min a b, max a b)
  have hall : ∀ q ∈ cutEnts M.cut, ∃ l, keyOf Try.prog 106 q.1 = some l := fun q hq => by
    obtain ⟨r, _, rfl⟩ := List.mem_map.1 hq
    exact key_of r.1
  refine ACalls.enter Try.func20 hc1 Try.ntmps20 hc2 (Nat.le_of_ble_eq_true rfl) rfl ?_
  repeat' (first
    | refine S.nilK ?_
    | (refine S.op rfl ?_; first
      | refine R.callQ (by decide) rfl (ok_made _ hp) ?_
      | refine R.callQ (by decide) rfl (between_spec a b _) ?_
      | refine R.mv rfl ?_
      | refine R.fieldAddr rfl ?_
      | refine R.fieldAddrR rfl ?_
      | refine R.nilCheck rfl ?_
      | refine R.nilCheckR rfl ?_
      | refine R.loadR rfl rfl ?_
      | refine R.load (by decide) rfl (by (repeat' (first | assumption | exact AHeap.set_same _ _ _ | refine AHeap.get_fresh (by assumption) ?_ | refine AHeap.so ?_ ?_ | exact AHeap.n1 (by assumption) | exact AHeap.n2 (by assumption) | exact AHeap.ne_of (by assumption) (by assumption) | exact AHeap.n4 (by assumption) (by assumption) | exact AHeap.n5 (by assumption) | exact AHeap.n6 (by assumption) | exact AHeap.n7 (by assumption) (by assumption) | exact AHeap.n8 (by assumption) (by assumption))); first | done | fail) rfl ?_
      | refine S.addI rfl rfl (by omega) ?_
      | refine S.subI rfl rfl (by omega) ?_
      | refine S.addU rfl rfl ?_
      | refine S.subU rfl rfl ?_
      | refine S.addUc rfl (by decide) ?_
      | refine S.subUc rfl (by decide) ?_
      | refine S.arith rfl rfl rfl ?_
      | refine R.pickT rfl rfl ?_
      | refine R.pickF rfl rfl ?_
      | refine R.len rfl ?_
      | refine R.lenA rfl ?_
      | refine R.lenStr rfl ?_
      | refine S.convIU rfl (by omega) ?_
      | refine S.convUI rfl (by omega) ?_
      | refine R.convInt rfl ?_
      | refine R.not rfl ?_
      | refine R.eqPtrNil rfl rfl ?_
      | refine R.extract rfl rfl ?_
      | refine R.field rfl rfl ?_
      | refine R.alloc rfl (fun b hb => ?_)
      | refine R.box rfl rfl rfl (fun b hb => ?_)
      | refine R.build rfl rfl ?_
      | refine R.buildSl rfl rfl rfl (by decide) ?_
      | refine R.toStr rfl ?_
      | refine R.convStr rfl ?_
      | refine R.minmax rfl ?_
      | refine R.makeFunc rfl rfl ?_
      | (first | refine S.lss rfl rfl (fun hlt => ?_) (fun hlt => by exfalso; omega) | refine S.lss rfl rfl (fun hlt => by exfalso; omega) (fun hlt => ?_) | refine S.lss rfl rfl (fun hlt => ?_) (fun hlt => ?_))
      | (first | refine S.gtr rfl rfl (fun hlt => ?_) (fun hlt => by exfalso; omega) | refine S.gtr rfl rfl (fun hlt => by exfalso; omega) (fun hlt => ?_) | refine S.gtr rfl rfl (fun hlt => ?_) (fun hlt => ?_))
      | (first | refine S.leq rfl rfl (fun hlt => ?_) (fun hlt => by exfalso; omega) | refine S.leq rfl rfl (fun hlt => by exfalso; omega) (fun hlt => ?_) | refine S.leq rfl rfl (fun hlt => ?_) (fun hlt => ?_))
      | (first | refine S.geq rfl rfl (fun hlt => ?_) (fun hlt => by exfalso; omega) | refine S.geq rfl rfl (fun hlt => by exfalso; omega) (fun hlt => ?_) | refine S.geq rfl rfl (fun hlt => ?_) (fun hlt => ?_))
      | (first | refine S.eqInt rfl rfl (fun hlt => ?_) (fun hlt => by exfalso; omega) | refine S.eqInt rfl rfl (fun hlt => by exfalso; omega) (fun hlt => ?_) | refine S.eqInt rfl rfl (fun hlt => ?_) (fun hlt => ?_)))
    | (refine S.op0 rfl ?_; first | refine S.storeS rfl rfl rfl (by rfl) rfl (by first | decide | exact Nat.le_refl _ | exact Nat.le_of_ble_eq_true rfl) ?_ | refine S.store rfl rfl (by (repeat' (first | assumption | exact AHeap.set_same _ _ _ | refine AHeap.get_fresh (by assumption) ?_ | refine AHeap.so ?_ ?_ | exact AHeap.n1 (by assumption) | exact AHeap.n2 (by assumption) | exact AHeap.ne_of (by assumption) (by assumption) | exact AHeap.n4 (by assumption) (by assumption) | exact AHeap.n5 (by assumption) | exact AHeap.n6 (by assumption) | exact AHeap.n7 (by assumption) (by assumption) | exact AHeap.n8 (by assumption) (by assumption))); first | done | fail) rfl rfl rfl (by rfl) rfl ?_)
    | refine S.skip rfl ?_
    | refine S.skip0 rfl ?_
    | refine S.seq ?_
    | refine S.region ?_
    | refine S.regionT ?_
    | refine S.tstep ?_
    | refine S.talt ?_ ?_
    | exact S.tstop
    | refine S.tdone ?_
    | refine S.condT rfl ?_
    | refine S.condF rfl ?_
    | refine RRun.skip ?_
    | refine RRun.block ?_
    | refine RRun.inBlock ?_
    | refine RRun.exit rfl ?_)
  refine S.op0 rfl (R.mapUpdate (key := pairV (min a b, max a b)) key106.law rfl rfl H.hm rfl (pair_only (k := (min a b, max a b))) rfl hlk hall (fun hno => ?_) (fun j av hj => ?_))
  ·
    repeat' (first
      | refine S.nilK ?_
      | (refine S.op rfl ?_; first
        | refine R.mv rfl ?_
        | refine R.fieldAddr rfl ?_
        | refine R.fieldAddrR rfl ?_
        | refine R.nilCheck rfl ?_
        | refine R.nilCheckR rfl ?_
        | refine R.loadR rfl rfl ?_
        | refine R.load (by decide) rfl (by (repeat' (first | assumption | exact AHeap.set_same _ _ _ | refine AHeap.get_fresh (by assumption) ?_ | refine AHeap.so ?_ ?_ | exact AHeap.n1 (by assumption) | exact AHeap.n2 (by assumption) | exact AHeap.ne_of (by assumption) (by assumption) | exact AHeap.n4 (by assumption) (by assumption) | exact AHeap.n5 (by assumption) | exact AHeap.n6 (by assumption) | exact AHeap.n7 (by assumption) (by assumption) | exact AHeap.n8 (by assumption) (by assumption))); first | done | fail) rfl ?_
        | refine S.addI rfl rfl (by omega) ?_
        | refine S.subI rfl rfl (by omega) ?_
        | refine S.addU rfl rfl ?_
        | refine S.subU rfl rfl ?_
        | refine S.addUc rfl (by decide) ?_
        | refine S.subUc rfl (by decide) ?_
        | refine S.arith rfl rfl rfl ?_
        | refine R.pickT rfl rfl ?_
        | refine R.pickF rfl rfl ?_
        | refine R.len rfl ?_
        | refine R.lenA rfl ?_
        | refine R.lenStr rfl ?_
        | refine S.convIU rfl (by omega) ?_
        | refine S.convUI rfl (by omega) ?_
        | refine R.convInt rfl ?_
        | refine R.not rfl ?_
        | refine R.eqPtrNil rfl rfl ?_
        | refine R.extract rfl rfl ?_
        | refine R.field rfl rfl ?_
        | refine R.alloc rfl (fun b hb => ?_)
        | refine R.box rfl rfl rfl (fun b hb => ?_)
        | refine R.build rfl rfl ?_
        | refine R.buildSl rfl rfl rfl (by decide) ?_
        | refine R.toStr rfl ?_
        | refine R.convStr rfl ?_
        | refine R.minmax rfl ?_
        | refine R.makeFunc rfl rfl ?_
        | (first | refine S.lss rfl rfl (fun hlt => ?_) (fun hlt => by exfalso; omega) | refine S.lss rfl rfl (fun hlt => by exfalso; omega) (fun hlt => ?_) | refine S.lss rfl rfl (fun hlt => ?_) (fun hlt => ?_))
        | (first | refine S.gtr rfl rfl (fun hlt => ?_) (fun hlt => by exfalso; omega) | refine S.gtr rfl rfl (fun hlt => by exfalso; omega) (fun hlt => ?_) | refine S.gtr rfl rfl (fun hlt => ?_) (fun hlt => ?_))
        | (first | refine S.leq rfl rfl (fun hlt => ?_) (fun hlt => by exfalso; omega) | refine S.leq rfl rfl (fun hlt => by exfalso; omega) (fun hlt => ?_) | refine S.leq rfl rfl (fun hlt => ?_) (fun hlt => ?_))
        | (first | refine S.geq rfl rfl (fun hlt => ?_) (fun hlt => by exfalso; omega) | refine S.geq rfl rfl (fun hlt => by exfalso; omega) (fun hlt => ?_) | refine S.geq rfl rfl (fun hlt => ?_) (fun hlt => ?_))
        | (first | refine S.eqInt rfl rfl (fun hlt => ?_) (fun hlt => by exfalso; omega) | refine S.eqInt rfl rfl (fun hlt => by exfalso; omega) (fun hlt => ?_) | refine S.eqInt rfl rfl (fun hlt => ?_) (fun hlt => ?_)))
      | (refine S.op0 rfl ?_; first | refine S.storeS rfl rfl rfl (by rfl) rfl (by first | decide | exact Nat.le_refl _ | exact Nat.le_of_ble_eq_true rfl) ?_ | refine S.store rfl rfl (by (repeat' (first | assumption | exact AHeap.set_same _ _ _ | refine AHeap.get_fresh (by assumption) ?_ | refine AHeap.so ?_ ?_ | exact AHeap.n1 (by assumption) | exact AHeap.n2 (by assumption) | exact AHeap.ne_of (by assumption) (by assumption) | exact AHeap.n4 (by assumption) (by assumption) | exact AHeap.n5 (by assumption) | exact AHeap.n6 (by assumption) | exact AHeap.n7 (by assumption) (by assumption) | exact AHeap.n8 (by assumption) (by assumption))); first | done | fail) rfl rfl rfl (by rfl) rfl ?_)
      | refine S.skip rfl ?_
      | refine S.skip0 rfl ?_
      | refine S.seq ?_
      | refine S.region ?_
      | refine S.regionT ?_
      | refine S.tstep ?_
      | refine S.talt ?_ ?_
      | exact S.tstop
      | refine S.tdone ?_
      | refine S.condT rfl ?_
      | refine S.condF rfl ?_
      | refine RRun.skip ?_
      | refine RRun.block ?_
      | refine RRun.inBlock ?_
      | refine RRun.exit rfl ?_)
    apply S.done rr20
    case hx => repeat (first | exact ResAt.nil | apply ResAt.tmp rfl | apply ResAt.cellA rfl (by (repeat' (first | assumption | exact AHeap.set_same _ _ _ | refine AHeap.get_fresh (by assumption) ?_ | refine AHeap.so ?_ ?_ | exact AHeap.n1 (by assumption) | exact AHeap.n2 (by assumption) | exact AHeap.ne_of (by assumption) (by assumption) | exact AHeap.n4 (by assumption) (by assumption) | exact AHeap.n5 (by assumption) | exact AHeap.n6 (by assumption) | exact AHeap.n7 (by assumption) (by assumption) | exact AHeap.n8 (by assumption) (by assumption))); first | done | fail) (by rfl) | apply ResAt.cell1 rfl (by (repeat' (first | assumption | exact AHeap.set_same _ _ _ | refine AHeap.get_fresh (by assumption) ?_ | refine AHeap.so ?_ ?_ | exact AHeap.n1 (by assumption) | exact AHeap.n2 (by assumption) | exact AHeap.ne_of (by assumption) (by assumption) | exact AHeap.n4 (by assumption) (by assumption) | exact AHeap.n5 (by assumption) | exact AHeap.n6 (by assumption) | exact AHeap.n7 (by assumption) (by assumption) | exact AHeap.n8 (by assumption) (by assumption))); first | done | fail) (by rfl))
    refine cut_spec' H (min a b, max a b) c ?_
    rw [setCut_new c (fun q hq e => hno _ (List.mem_map.2 ⟨q, hq, rfl⟩) (by simp only [e]))]
    rw [show cutEnts (M.cut ++ [((min a b, max a b), c)]) = cutEnts M.cut ++ [(pairV (min a b, max a b), bl c)] by simp [cutEnts]]
  ·
    repeat' (first
      | refine S.nilK ?_
      | (refine S.op rfl ?_; first
        | refine R.mv rfl ?_
        | refine R.fieldAddr rfl ?_
        | refine R.fieldAddrR rfl ?_
        | refine R.nilCheck rfl ?_
        | refine R.nilCheckR rfl ?_
        | refine R.loadR rfl rfl ?_
        | refine R.load (by decide) rfl (by (repeat' (first | assumption | exact AHeap.set_same _ _ _ | refine AHeap.get_fresh (by assumption) ?_ | refine AHeap.so ?_ ?_ | exact AHeap.n1 (by assumption) | exact AHeap.n2 (by assumption) | exact AHeap.ne_of (by assumption) (by assumption) | exact AHeap.n4 (by assumption) (by assumption) | exact AHeap.n5 (by assumption) | exact AHeap.n6 (by assumption) | exact AHeap.n7 (by assumption) (by assumption) | exact AHeap.n8 (by assumption) (by assumption))); first | done | fail) rfl ?_
        | refine S.addI rfl rfl (by omega) ?_
        | refine S.subI rfl rfl (by omega) ?_
        | refine S.addU rfl rfl ?_
        | refine S.subU rfl rfl ?_
        | refine S.addUc rfl (by decide) ?_
        | refine S.subUc rfl (by decide) ?_
        | refine S.arith rfl rfl rfl ?_
        | refine R.pickT rfl rfl ?_
        | refine R.pickF rfl rfl ?_
        | refine R.len rfl ?_
        | refine R.lenA rfl ?_
        | refine R.lenStr rfl ?_
        | refine S.convIU rfl (by omega) ?_
        | refine S.convUI rfl (by omega) ?_
        | refine R.convInt rfl ?_
        | refine R.not rfl ?_
        | refine R.eqPtrNil rfl rfl ?_
        | refine R.extract rfl rfl ?_
        | refine R.field rfl rfl ?_
        | refine R.alloc rfl (fun b hb => ?_)
        | refine R.box rfl rfl rfl (fun b hb => ?_)
        | refine R.build rfl rfl ?_
        | refine R.buildSl rfl rfl rfl (by decide) ?_
        | refine R.toStr rfl ?_
        | refine R.convStr rfl ?_
        | refine R.minmax rfl ?_
        | refine R.makeFunc rfl rfl ?_
        | (first | refine S.lss rfl rfl (fun hlt => ?_) (fun hlt => by exfalso; omega) | refine S.lss rfl rfl (fun hlt => by exfalso; omega) (fun hlt => ?_) | refine S.lss rfl rfl (fun hlt => ?_) (fun hlt => ?_))
        | (first | refine S.gtr rfl rfl (fun hlt => ?_) (fun hlt => by exfalso; omega) | refine S.gtr rfl rfl (fun hlt => by exfalso; omega) (fun hlt => ?_) | refine S.gtr rfl rfl (fun hlt => ?_) (fun hlt => ?_))
        | (first | refine S.leq rfl rfl (fun hlt => ?_) (fun hlt => by exfalso; omega) | refine S.leq rfl rfl (fun hlt => by exfalso; omega) (fun hlt => ?_) | refine S.leq rfl rfl (fun hlt => ?_) (fun hlt => ?_))
        | (first | refine S.geq rfl rfl (fun hlt => ?_) (fun hlt => by exfalso; omega) | refine S.geq rfl rfl (fun hlt => by exfalso; omega) (fun hlt => ?_) | refine S.geq rfl rfl (fun hlt => ?_) (fun hlt => ?_))
        | (first | refine S.eqInt rfl rfl (fun hlt => ?_) (fun hlt => by exfalso; omega) | refine S.eqInt rfl rfl (fun hlt => by exfalso; omega) (fun hlt => ?_) | refine S.eqInt rfl rfl (fun hlt => ?_) (fun hlt => ?_)))
      | (refine S.op0 rfl ?_; first | refine S.storeS rfl rfl rfl (by rfl) rfl (by first | decide | exact Nat.le_refl _ | exact Nat.le_of_ble_eq_true rfl) ?_ | refine S.store rfl rfl (by (repeat' (first | assumption | exact AHeap.set_same _ _ _ | refine AHeap.get_fresh (by assumption) ?_ | refine AHeap.so ?_ ?_ | exact AHeap.n1 (by assumption) | exact AHeap.n2 (by assumption) | exact AHeap.ne_of (by assumption) (by assumption) | exact AHeap.n4 (by assumption) (by assumption) | exact AHeap.n5 (by assumption) | exact AHeap.n6 (by assumption) | exact AHeap.n7 (by assumption) (by assumption) | exact AHeap.n8 (by assumption) (by assumption))); first | done | fail) rfl rfl rfl (by rfl) rfl ?_)
      | refine S.skip rfl ?_
      | refine S.skip0 rfl ?_
      | refine S.seq ?_
      | refine S.region ?_
      | refine S.regionT ?_
      | refine S.tstep ?_
      | refine S.talt ?_ ?_
      | exact S.tstop
      | refine S.tdone ?_
      | refine S.condT rfl ?_
      | refine S.condF rfl ?_
      | refine RRun.skip ?_
      | refine RRun.block ?_
      | refine RRun.inBlock ?_
      | refine RRun.exit rfl ?_)
    apply S.done rr20
    case hx => repeat (first | exact ResAt.nil | apply ResAt.tmp rfl | apply ResAt.cellA rfl (by (repeat' (first | assumption | exact AHeap.set_same _ _ _ | refine AHeap.get_fresh (by assumption) ?_ | refine AHeap.so ?_ ?_ | exact AHeap.n1 (by assumption) | exact AHeap.n2 (by assumption) | exact AHeap.ne_of (by assumption) (by assumption) | exact AHeap.n4 (by assumption) (by assumption) | exact AHeap.n5 (by assumption) | exact AHeap.n6 (by assumption) | exact AHeap.n7 (by assumption) (by assumption) | exact AHeap.n8 (by assumption) (by assumption))); first | done | fail) (by rfl) | apply ResAt.cell1 rfl (by (repeat' (first | assumption | exact AHeap.set_same _ _ _ | refine AHeap.get_fresh (by assumption) ?_ | refine AHeap.so ?_ ?_ | exact AHeap.n1 (by assumption) | exact AHeap.n2 (by assumption) | exact AHeap.ne_of (by assumption) (by assumption) | exact AHeap.n4 (by assumption) (by assumption) | exact AHeap.n5 (by assumption) | exact AHeap.n6 (by assumption) | exact AHeap.n7 (by assumption) (by assumption) | exact AHeap.n8 (by assumption) (by assumption))); first | done | fail) (by rfl))
    refine cut_spec' H (min a b, max a b) c ?_
    simp only [cutEnts, List.getElem?_map, Option.map_eq_some_iff] at hj
    obtain ⟨q, hq, he⟩ := hj
    simp only [Prod.mk.injEq] at he
    have hk' := pairV_inj he.1
    rw [setCut_old c H.nd (show M.cut[j]? = some ((min a b, max a b), q.2) by rw [hq, ← hk'])]
    simp only [cutEnts, List.map_set]

end Go.Proofs.Ytnmgamcmjjngcaa
