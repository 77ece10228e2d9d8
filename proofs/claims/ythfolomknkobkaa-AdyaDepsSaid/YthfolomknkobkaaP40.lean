/-
  AdyaDeps answers true for every history
-/
import Derived.Test.YthfolomknkobkaaP38
import Derived.Test.YthfolomknkobkaaP39
import Derived.Test.YthfolomknkobkaaP31
import Derived.Sort.KeysCollected
set_option linter.unusedVariables false
set_option linter.unusedSimpArgs false
namespace Go.Proofs.Ythfolomknkobkaa
open Go.Av
abbrev sv (k : List UInt8) : Value := .string ⟨k.toArray⟩
abbrev leB : List UInt8 → List UInt8 → Bool := fun x y => decide (x ≤ y)
theorem heap_mapBlock (w : World) (b x : Nat) (f : Array Value → Array Value) : (Go.Sort.mapBlock w b f).heap[x]? = if b = x then (w.heap[x]?).map (Go.Sort.onCells f) else w.heap[x]? := by
  unfold Go.Sort.mapBlock
  simp only [Array.getElem?_modify]
theorem sortStr_spec (ss : List (List UInt8)) (b cap : Nat) (sp : List AV) (h : AHeap) (hb : h b = some (.box ((ss.map sv).map .v ++ sp))) (hsz : ss.length ≤ 1000000) :
    ACalls Try.prog 60 [slAt b 0 ss.length cap] h (fun _ h' => h' = h.set b (.box (((ss.mergeSort leB).map sv).map .v ++ sp))) := by
  intro vs W hv hr
  cases hv with
  | cons v1 vs1 =>
    cases vs1
    cases v1
    obtain ⟨ob, hob, cc, tt, rfl, hvb⟩ := hr b _ hb
    have hlen := hvb.length
    have hcc : ∀ j (hj : j < ss.length), cc[j]? = some (sv ss[j]) := fun j hj => by
      obtain ⟨u, hu, hr'⟩ := hvb.get (i := j) (a := .v (sv ss[j])) (by rw [List.getElem?_append_left (by simpa using hj)]; simp [hj])
      cases hr'
      simpa using hu
    have hH : Go.Sort.Holds encStr W b 0 ss.toArray := by
      intro j hj
      have hj' : j < ss.length := by simpa using hj
      constructor
      · rw [cell_of_cells hob, Nat.zero_add, hcc j hj', getElem!_pos _ j hj]
        simp
      · simp [World.frozen?, hob]
    refine (Go.Proofs.Try.slices_Sort_string b 0 cap ss W hH (hr.lt hb) (by omega)).mono ?_
    rintro e w' ⟨rfl, n, os, rfl⟩
    generalize hss : ss.mergeSort (fun x y => decide (x ≤ y)) = rr
    have hrl : rr.length = ss.length := by rw [← hss]; exact List.length_mergeSort _
    have hlt := hr.lt hb
    -- the block, turned
    have hbk : (Go.Sort.grow (Go.Sort.putRow encStr (Go.Sort.ahead W n) b 0 rr.toArray) os).heap[b]? = some (.cells (Go.Sort.putCells encStr 0 rr.toArray cc) tt (0, 0)) := by
      show ((Go.Sort.putRow encStr (Go.Sort.ahead W n) b 0 rr.toArray).heap ++ os)[b]? = _
      rw [Array.getElem?_append_left (by simpa using hlt)]
      unfold Go.Sort.putRow
      rw [heap_mapBlock, if_pos rfl]
      show (W.heap[b]?).map _ = _
      rw [hob]; rfl
    have hoth : ∀ x, x ≠ b → x < W.heap.size → (Go.Sort.grow (Go.Sort.putRow encStr (Go.Sort.ahead W n) b 0 rr.toArray) os).heap[x]? = W.heap[x]? := fun x hx hxl => by
      show ((Go.Sort.putRow encStr (Go.Sort.ahead W n) b 0 rr.toArray).heap ++ os)[x]? = _
      rw [Array.getElem?_append_left (by simpa using hxl)]
      unfold Go.Sort.putRow
      rw [heap_mapBlock, if_neg (Ne.symm hx)]
      rfl
    have hsize : W.heap.size ≤ (Go.Sort.grow (Go.Sort.putRow encStr (Go.Sort.ahead W n) b 0 rr.toArray) os).heap.size := by
      show _ ≤ ((Go.Sort.putRow encStr (Go.Sort.ahead W n) b 0 rr.toArray).heap ++ os).size
      rw [Array.size_append, Go.Sort.size_putRow]
      exact Nat.le_add_right _ _
    have hos : (Go.Sort.grow (Go.Sort.putRow encStr (Go.Sort.ahead W n) b 0 rr.toArray) os).os = W.os ∧ (Go.Sort.grow (Go.Sort.putRow encStr (Go.Sort.ahead W n) b 0 rr.toArray) os).tape = W.tape ∧ (Go.Sort.grow (Go.Sort.putRow encStr (Go.Sort.ahead W n) b 0 rr.toArray) os).output = W.output := ⟨rfl, rfl, rfl⟩
    generalize Go.Sort.grow (Go.Sort.putRow encStr (Go.Sort.ahead W n) b 0 rr.toArray) os = W' at hbk hoth hsize hos
    -- what its cells are
    have hccl : ss.length ≤ cc.size := by
      have : ((ss.map sv).map AV.v ++ sp).length = cc.size := by simpa using hlen
      simp only [List.length_append, List.length_map] at this; omega
    have hnew : VRels (stab h W) ((rr.map sv).map .v ++ sp) (Go.Sort.putCells encStr 0 rr.toArray cc).toList := by
      have htl : (Go.Sort.putCells encStr 0 rr.toArray cc).toList = rr.map sv ++ cc.toList.drop ss.length := by
        apply List.ext_getElem?
        intro k
        rw [Array.getElem?_toList]
        simp only [Go.Sort.putCells, Array.getElem?_mapIdx, Nat.zero_le, true_and, Nat.zero_add, Nat.sub_zero, List.size_toArray]
        by_cases hk : k < rr.length
        · rw [List.getElem?_append_left (by simpa using hk), Array.getElem?_eq_getElem (by omega), Option.map_some, if_pos hk, List.getElem?_map, List.getElem?_eq_getElem hk, getElem!_pos _ k (by simpa using hk)]
          simp
        · rw [List.getElem?_append_right (by simpa using hk), List.getElem?_drop, List.length_map]
          have e : ss.length + (k - rr.length) = k := by omega
          rw [e, Array.getElem?_toList]
          cases cc[k]? with
          | none => rfl
          | some y => rw [Option.map_some, if_neg hk]
      rw [htl]
      refine (VRels.map_v _).append ?_
      have := hvb.drop ss.length
      rwa [List.drop_append_of_le_length (by simp), List.drop_of_length_le (by simp), List.nil_append] at this
    have hle : (stab h W).le (stab (h.set b (.box ((rr.map sv).map .v ++ sp))) W') := by
      intro a u ha
      by_cases hab : a.block = b
      · simp only [stab, hab, hb] at ha; cases ha
      · have hal : a.block < W.heap.size := by
          have hc := stab_cell ha
          rcases Nat.lt_or_ge a.block W.heap.size with g | g
          · exact g
          · rw [cell?_none_of_ge g] at hc; cases hc
        rw [stab_congr (h := h) (w := W) (AHeap.set_other h _ hab) (hoth _ hab hal)]; exact ha
    refine ⟨.tuple #[], .v (.tuple #[]), _, rfl, rfl, .v _, hr.step (b := b) (fun x hx => AHeap.set_other _ _ hx) (fun x hx hs => hoth x hx (by
      obtain ⟨y, hy⟩ := Option.isSome_iff_exists.1 hs; exact hr.lt hy)) hle (fun o ho => ?_), hos.1, hos.2.1, hos.2.2, hsize, hle, fun x hx hn => ?_⟩
    · rw [AHeap.set_same] at ho; cases ho
      exact ⟨_, hbk, _, _, rfl, hnew.mono hle⟩
    · have hne : x ≠ b := fun e => by subst e; rw [hb] at hn; cases hn
      exact ⟨by rw [AHeap.set_other _ _ hne]; exact hn, hoth x hne hx⟩
def isUnit (x : Option (EV × List EBlk)) : Bool := match x with | some (.tu [], _) => true | _ => false
theorem sort_nil_run : isUnit (evalCall kkT (lookT tabL) 2000 30 60 [.k (.slice none 0 0)] []) = true := by kernel_rfl
theorem sort_nil (h : AHeap) : ACalls Try.prog 60 [.v (.slice none 0 0)] h (fun _ h' => h' = h) := by
  have h1 := sort_nil_run
  unfold isUnit at h1
  split at h1
  · rename_i H' he
    refine ACalls.weak (((evalCall_ok kk_ok tab_ok 2000 30).hcall 60 _ _ _ _ he _ h _ h (Hp.start h) (.cons (.k _) .nil)).mono fun y h' ⟨ρ, _, hp, hv⟩ => ?_)
    exact ⟨_, _, .refl _, hp.le, rfl⟩
  · cases h1
end Go.Proofs.Ythfolomknkobkaa

namespace Go.Proofs.Ythfolomknkobkaa
open Go.Av
open Go.Ad (Seen Span Run Dep commit keysOf)
theorem sv_inj {a b : List UInt8} (h : sv a = sv b) : a = b := by simpa [sv] using h
def unsv : Value → List UInt8
  | .string s => s.data.toList
  | _ => []
theorem unsv_sv (k : List UInt8) : unsv (sv k) = k := by simp [unsv, sv]
theorem perm_sv {vs : List Value} {ks : List (List UInt8)} (h : vs.Perm (ks.map sv)) : ∃ ss : List (List UInt8), ss.Perm ks ∧ vs = ss.map sv := by
  refine ⟨vs.map unsv, ?_, ?_⟩
  · have := h.map unsv
    rw [List.map_map] at this
    have e : (unsv ∘ sv) = id := by funext k; exact unsv_sv k
    rwa [e, List.map_id] at this
  · rw [List.map_map]
    conv => lhs; rw [← List.map_id vs]
    apply List.map_congr_left
    intro v hv
    obtain ⟨k, _, rfl⟩ := List.mem_map.1 (h.mem_iff.1 hv)
    simp [unsv_sv]
def entsK (ks : List (List UInt8)) : List (Value × AV) := ks.map fun k => (sv k, bl true)
theorem sorted_spec (q m : Nat) (ks : List (List UInt8)) (hn : ks.length ≤ 1000000) (h : AHeap) (hq : h q = some (.box [.v (.map (some m))])) (hm : h m = some (.map (entsK ks))) :
    ACalls Try.prog 41 [.v (.func (.func 61) #[] #[.pointer (some ⟨q, 0, none⟩)])] h (fun x h' => ∃ B, RowG ((ks.mergeSort leB).map sv) x B h' ∧ (∀ y o, h y = some o → y ≠ m → h' y = some o) ∧ (∀ y, B y → h y = none)) := by
  have ccol := collect_spec q m (entsK ks) (by simpa [entsK] using hn) (fun p hp => by obtain ⟨k, _, rfl⟩ := List.mem_map.1 hp; exact ⟨_, rfl⟩) h hq hm
  have hents : (entsK ks).map (·.1) = ks.map sv := by simp [entsK]
  rw [hents] at ccol
  obtain ⟨c, hc1, hc2⟩ := res41
  refine ACalls.enter Try.func41 hc1 Try.ntmps41 hc2 (Nat.le_of_ble_eq_true rfl) rfl ?_
  repeat' (first | refine S.nilK ?_ | (refine S.op rfl ?_; first | refine R.mv rfl ?_) | refine S.seq ?_ | refine S.region ?_)
  refine S.op rfl (R.call rfl rfl (ccol.mono ?_))
  rintro x h' ⟨vs, B, hperm, hrow, hF, hB⟩
  obtain ⟨ss, hss, rfl⟩ := perm_sv hperm
  have hms : ks.mergeSort leB = ss.mergeSort leB := (Go.mergeSort_of_perm hss).symm
  rw [hms]
  rcases hrow with ⟨he, rfl, hB0⟩ | ⟨b, cap, sp, rfl, hb, hl, hcap, hne, hBb⟩
  · have hs0 : ss = [] := by simpa using he
    subst hs0
    have c60 := fun h => sort_nil h
    repeat' (first | refine S.nilK ?_ | (refine S.op rfl ?_; first | refine callU rfl rfl (c60 _) (fun _ => ?_) | refine R.mv rfl ?_) | refine S.seq ?_ | refine S.region ?_)
    apply S.ret rr41
    case hx => repeat (first | exact ResAt.nil | apply ResAt.tmp rfl)
    exact ⟨B, .inl ⟨by simp, rfl, hB0⟩, hF, hB⟩
  · have hsl : (ss.map sv).length = ss.length := by simp
    have hss2 : ss.length ≤ 1000000 := by rw [hss.length_eq]; exact hn
    have c60 : ACalls Try.prog 60 [slAt b 0 (ss.map sv).length cap] h' (fun _ h2 => h2 = h'.set b (.box (((ss.mergeSort leB).map sv).map .v ++ sp))) := by rw [hsl]; exact sortStr_spec ss b cap sp h' hb hss2
    repeat' (first | refine S.nilK ?_ | (refine S.op rfl ?_; first | refine callU rfl rfl c60 (fun _ => ?_) | refine R.mv rfl ?_) | refine S.seq ?_ | refine S.region ?_)
    apply S.ret rr41
    case hx => repeat (first | exact ResAt.nil | apply ResAt.tmp rfl)
    have hml : (ss.mergeSort leB).length = ss.length := List.length_mergeSort _
    refine ⟨B, .inr ⟨b, cap, sp, by show slAt _ _ _ _ = _; rw [hsl, List.length_map, hml], AHeap.set_same _ _ _, by rw [List.length_map, hml]; rw [hsl] at hl; exact hl, hcap, ?_, hBb⟩, fun y o hy hym => ?_, hB⟩
    · intro e
      have := congrArg List.length e
      simp only [List.length_map, hml, List.length_nil] at this
      apply hne
      rw [List.eq_nil_of_length_eq_zero this]; rfl
    · rw [AHeap.set_other _ _ (fun e => by subst e; rw [hB y ((hBb y).2 rfl)] at hy; cases hy)]
      exact hF y o hy hym
def addK (ks : List (List UInt8)) (k : List UInt8) : List (List UInt8) := if k ∈ ks then ks else ks ++ [k]
theorem addK_len (ks : List (List UInt8)) (k : List UInt8) : (addK ks k).length ≤ ks.length + 1 := by
  unfold addK; split <;> simp
theorem addKs_len : ∀ (kl ks : List (List UInt8)), (kl.foldl addK ks).length ≤ ks.length + kl.length
  | [], ks => by simp
  | k :: kl, ks => by
    rw [List.foldl_cons]
    have h1 := addKs_len kl (addK ks k)
    have h2 := addK_len ks k
    simp only [List.length_cons]; omega
def keysD (l : List Run) : List (List UInt8) := (keysOf l).foldl addK []
theorem mapK {P : Program} {c : Cls} {E : AEnv} {h : AHeap} {K : AV → AHeap → Prop} {kt : TypeId} {mo x : Operand} {m : Nat} {ks : List (List UInt8)} {k : List UInt8} (ht : P.underlying kt = some .string) (hc : c = .act) (hm : aev E mo = some (.v (.map (some m)))) (hb : h m = some (.map (entsK ks))) (hx : aev E x = some (.v (sv k)))
    (hk : K (.v undef) (h.set m (.map (entsK (addK ks k))))) : ROpS P c (.mapUpdate kt mo x (.const (.bool true))) E h K := by
  refine R.mapUpdateR (key := sv k) (KeyR.str ht) hc hm hb hx (fun st u hu => hu.inv_v) rfl ⟨_, rfl⟩ (fun p hp => by obtain ⟨k', _, rfl⟩ := List.mem_map.1 hp; exact ⟨_, rfl⟩) (fun hno => ?_) (fun j av hj => ?_)
  · have hk2 : k ∉ ks := fun hm => hno (sv k, bl true) (List.mem_map.2 ⟨k, hm, rfl⟩) rfl
    have e : entsK (addK ks k) = entsK ks ++ [(sv k, .v (.bool true))] := by unfold addK entsK; rw [if_neg hk2]; simp
    rw [e] at hk; exact hk
  · have hk2 : k ∈ ks := by
      obtain ⟨k', hk', e⟩ := List.mem_map.1 (List.mem_of_getElem? hj)
      have e1 : sv k' = sv k := congrArg Prod.fst e
      rw [← sv_inj e1]; exact hk'
    have e : (entsK ks).set j (sv k, .v (.bool true)) = entsK (addK ks k) := by
      unfold addK; rw [if_pos hk2]
      have hlt := (List.getElem?_eq_some_iff.1 hj).1
      have hav : (entsK ks)[j]? = some (sv k, .v (.bool true)) := by
        rw [hj]
        obtain ⟨k', hk', e⟩ := List.mem_map.1 (List.mem_of_getElem? hj)
        have e2 : bl true = av := congrArg Prod.snd e
        rw [← e2]
      apply List.ext_getElem?
      intro i
      rw [List.getElem?_set]
      split
      · rename_i hji; subst hji; first | (rw [if_pos hlt, hav]) | rw [hav]
      · rfl
    rw [e]; exact hk
theorem keys_in (m : Nat) (kl : List (List UInt8)) (hkl : kl.length ≤ 1000000) (ks0 : List (List UInt8)) (h0 : AHeap) (hm0 : h0 m = none) (A B C : AV) (k : List RT) (Q : AV → AHeap → Prop)
    (H : ∀ h, h m = some (.map (entsK (kl.foldl addK ks0))) → h0.le h → RRun Try.prog Try.f25 48 k (Env.get [(3, .v (.map (some m))), (12, A), (13, B), (14, C)]) h Q) : ∀ (n j : Nat) (ks : List (List UInt8)) (h : AHeap), j + n = kl.length → (kl.drop j).foldl addK ks = kl.foldl addK ks0 → h m = some (.map (entsK ks)) → h0.le h →
    RRun Try.prog Try.f25 48 (.inLoop r25l1 :: .inBlock 2 :: k) (Env.get [(3, .v (.map (some m))), (12, A), (13, B), (14, C), (22, keysA kl), (23, i64 kl.length), (24, i64 j)]) h Q := by
  intro n
  induction n with
  | zero =>
    intro j ks h hj hf hm hle
    rw [List.drop_of_length_le (by omega), List.foldl_nil] at hf
    subst hf
    refine RRun.inLoop ?_
    repeat' (first | refine S.nilK ?_ | (refine S.op rfl ?_; first | ((first | refine S.lss rfl rfl ?_ ?_) <;> intro hlt <;> try (exfalso; omega))) | refine S.seq ?_ | refine S.region ?_ | refine S.condF rfl ?_ | refine RRun.exit rfl ?_)
    exact S.keep [3, 12, 13, 14] rfl (H h hm hle)
  | succ n ih =>
    intro j ks h hj hf hm hle
    have hje : j < kl.length := by omega
    have h1 : (kl.map fun k => [bys k])[((j : Nat) : Int).toNat]? = some [bys kl[j]] := by simp [hje]
    rw [List.drop_eq_getElem_cons hje, List.foldl_cons] at hf
    generalize kl[j] = key at h1 hf
    refine RRun.inLoop ?_
    repeat' (first | (refine S.op0 rfl (mapK (k := key) Try.underlying9 rfl rfl hm rfl ?_)) | refine S.nilK ?_ | (refine S.op rfl ?_; first | refine R.indexAddr rfl rfl (by omega) h1 ?_ | refine R.toStr (l := key) rfl ?_ | refine R.mv rfl ?_ | refine R.loadR rfl rfl ?_ | refine S.addI rfl rfl (by omega) ?_ | ((first | refine S.lss rfl rfl ?_ ?_) <;> intro hlt <;> try (exfalso; omega))) | refine S.seq ?_ | refine S.region ?_ | refine S.condT rfl ?_ | refine RRun.skip ?_ | refine RRun.block ?_ | refine RRun.inBlock ?_)
    rw [show ((j : Int) + 1) = ((j + 1 : Nat) : Int) by omega]
    exact S.keep [3, 12, 13, 14, 22, 23, 24] rfl (ih (j + 1) (addK ks key) _ (by omega) hf (AHeap.set_same _ _ _) (hle.set _ hm0))
theorem keysOf_cons (r : Run) (l : List Run) : keysOf (r :: l) = if commit r = true then r.keys ++ keysOf l else keysOf l := by
  unfold keysOf
  rw [List.filter_cons]
  split
  · rw [List.flatMap_cons]
  · rfl
theorem keys_out (m : Nat) (l : List Run) (hl : l.length ≤ 1000000) (hk : ∀ r ∈ l, r.keys.length ≤ 1000000) (h0 : AHeap) (hm0 : h0 m = none) (k : List RT) (Q : AV → AHeap → Prop)
    (H : ∀ h, h m = some (.map (entsK (keysD l))) → h0.le h → RRun Try.prog Try.f25 48 k (Env.get [(3, .v (.map (some m)))]) h Q) : ∀ (n i : Nat) (ks : List (List UInt8)) (h : AHeap), i + n = l.length → (keysOf (l.drop i)).foldl addK ks = keysD l → h m = some (.map (entsK ks)) → h0.le h →
    RRun Try.prog Try.f25 48 (.inLoop r25l0 :: .inBlock 0 :: k) (Env.get [(3, .v (.map (some m))), (12, runsA l), (13, i64 l.length), (14, i64 i)]) h Q := by
  intro n
  induction n with
  | zero =>
    intro i ks h hi hf hm hle
    rw [List.drop_of_length_le (by omega)] at hf
    have hf2 : ks = keysD l := hf
    subst hf2
    refine RRun.inLoop ?_
    repeat' (first | refine S.nilK ?_ | (refine S.op rfl ?_; first | ((first | refine S.lss rfl rfl ?_ ?_) <;> intro hlt <;> try (exfalso; omega))) | refine S.seq ?_ | refine S.region ?_ | refine S.condF rfl ?_ | refine RRun.exit rfl ?_)
    exact S.keep [3] rfl (H h hm hle)
  | succ n ih =>
    intro i ks h hi hf hm hle
    have hie : i < l.length := by omega
    have h1 : (l.map fun k => runC k)[((i : Nat) : Int).toNat]? = some (runC l[i]) := by simp [hie]
    have hkl := hk l[i] (List.getElem_mem hie)
    rw [List.drop_eq_getElem_cons hie, keysOf_cons] at hf
    generalize l[i] = r at h1 hf hkl
    have hcm : commit r = decide (r.state = 1) := rfl
    rw [hcm] at hf
    have hkm : (r.keys.map fun k => [bys k]).length = r.keys.length := by simp
    refine RRun.inLoop ?_
    by_cases hs : r.state = 1
    · rw [decide_eq_true hs, if_pos rfl, List.foldl_append] at hf
      repeat' (first | refine S.nilK ?_ | (refine S.op rfl ?_; first | refine R.indexAddr rfl rfl (by omega) h1 ?_ | refine R.mv rfl ?_ | refine R.fieldAddr rfl ?_ | refine R.loadR rfl rfl ?_ | refine R.load (by decide) rfl (by (repeat' (first | exact AHeap.set_same _ _ _)); first | done | fail) rfl ?_ | refine R.len rfl ?_ | refine R.alloc rfl (fun b hb => ?_) | ((first | refine S.lss rfl rfl ?_ ?_ | refine S.eqInt rfl rfl ?_ ?_) <;> intro hlt <;> try (exfalso; omega))) | (refine S.op0 rfl ?_; first | refine S.storeS rfl rfl rfl (by rfl) rfl (by first | decide | exact Nat.le_refl _ | exact Nat.le_of_ble_eq_true rfl) ?_) | refine S.seq ?_ | refine S.region ?_ | refine S.condT rfl ?_ | refine S.condF rfl ?_ | refine RRun.skip ?_ | refine RRun.block ?_)
      all_goals first
        | (exfalso; omega)
        | skip
      rw [hkm]
      have hmb : m ≠ b := AHeap.ne_of hb hm
      refine RRun.loopIn (S.keep [3, 12, 13, 14, 22, 23, 24] rfl (keys_in m r.keys hkl ks h0 hm0 _ _ _ _ _ (fun h2 hm2 hle2 => ?_) r.keys.length 0 ks _ (by omega) rfl ((AHeap.set_other _ _ hmb).trans hm) (hle.set _ (hle.none hb))))
      repeat' (first | refine S.nilK ?_ | (refine S.op rfl ?_; first | refine R.mv rfl ?_ | refine S.addI rfl rfl (by omega) ?_) | refine S.region ?_ | refine RRun.inBlock ?_)
      rw [show ((i : Int) + 1) = ((i + 1 : Nat) : Int) by omega]
      exact S.keep [3, 12, 13, 14] rfl (ih (i + 1) _ h2 (by omega) hf hm2 hle2)
    · rw [decide_eq_false hs, if_neg (by decide)] at hf
      repeat' (first | refine S.nilK ?_ | (refine S.op rfl ?_; first | refine R.indexAddr rfl rfl (by omega) h1 ?_ | refine R.mv rfl ?_ | refine R.fieldAddr rfl ?_ | refine R.loadR rfl rfl ?_ | refine R.load (by decide) rfl (by (repeat' (first | exact AHeap.set_same _ _ _)); first | done | fail) rfl ?_ | refine S.addI rfl rfl (by omega) ?_ | refine R.alloc rfl (fun b hb => ?_) | ((first | refine S.lss rfl rfl ?_ ?_ | refine S.eqInt rfl rfl ?_ ?_) <;> intro hlt <;> try (exfalso; omega))) | (refine S.op0 rfl ?_; first | refine S.storeS rfl rfl rfl (by rfl) rfl (by first | decide | exact Nat.le_refl _ | exact Nat.le_of_ble_eq_true rfl) ?_) | refine S.seq ?_ | refine S.region ?_ | refine S.condT rfl ?_ | refine RRun.skip ?_ | refine RRun.block ?_ | refine RRun.exit rfl ?_)
      all_goals first
        | (exfalso; omega)
        | skip
      rw [show ((i : Int) + 1) = ((i + 1 : Nat) : Int) by omega]
      exact S.keep [3, 12, 13, 14] rfl (S.drop (by repeat (first | exact AHeap.le.refl _ | refine AHeap.le.set ?_ _ (by (repeat' (first | assumption)); first | done | fail))) (ih (i + 1) ks h (by omega) hf hm hle))
theorem keys_bytes (T : List (List UInt8)) (n : Nat) (hn0 : n = T.length) (hn : n ≤ 1000000) (hTl : ∀ k ∈ T, k.length ≤ maxLen) (h₀ : AHeap) (k : List RT) (Q : AV → AHeap → Prop)
    (H : ∀ c h, Grow h₀ h c → RRun Try.prog Try.f25 48 k (Env.get [(8, .sl 1 (T.map fun k => [bys k]) c)]) h Q) : ∀ (m i : Nat) (ns : List (List UInt8)) (c : Cap) (h : AHeap), i + m = n → ns.length = i → ns ++ T.drop i = T → Grow h₀ h c →
    RRun Try.prog Try.f25 48 (.inLoop r25l2 :: .inBlock 4 :: k) (Env.get [(8, .sl 1 (ns.map fun k => [bys k]) c), (35, .sl 1 (T.map fun k => [AV.v (sv k)]) .ro), (36, i64 n), (37, i64 i)]) h Q := by
  intro m
  induction m with
  | zero =>
    intro i ns c h hi hl hT hg
    rw [List.drop_of_length_le (by omega), List.append_nil] at hT
    subst hT
    refine RRun.inLoop ?_
    repeat' (first | refine S.nilK ?_ | (refine S.op rfl ?_; first | ((first | refine S.lss rfl rfl ?_ ?_) <;> intro hlt <;> try (exfalso; omega))) | refine S.seq ?_ | refine S.region ?_ | refine S.condF rfl ?_ | refine RRun.exit rfl ?_)
    exact S.keep [8] rfl (H c h hg)
  | succ m ih =>
    intro i ns c h hi hl hT hg
    have hie : i < T.length := by omega
    have h1 : (T.map fun k => [AV.v (sv k)])[((i : Nat) : Int).toNat]? = some [AV.v (sv T[i])] := by simp [hie]
    have hkl := hTl _ (List.getElem_mem hie)
    rw [List.drop_eq_getElem_cons hie] at hT
    generalize T[i] = key at h1 hT hkl
    have hlen : (ns.map fun k => [bys k]).length = ns.length := by simp
    refine RRun.inLoop ?_
    repeat' (first | refine S.nilK ?_ | (refine S.op rfl ?_; first | refine R.indexAddr rfl rfl (by omega) h1 ?_ | refine S.toBytesS (l := key) rfl hkl ?_ | refine R.mv rfl ?_ | refine R.loadR rfl rfl ?_ | refine R.buildSl rfl rfl rfl (by decide) ?_ | ((first | refine S.lss rfl rfl ?_ ?_) <;> intro hlt <;> try (exfalso; omega))) | refine S.seq ?_ | refine S.region ?_ | refine S.condT rfl ?_ | refine RRun.skip ?_ | refine RRun.block ?_)
    refine S.op rfl (S.appendG (ys := [[bys key]]) rfl hg rfl (.sl _ _) rfl (.sl _ _) (by intro e he a ha; simp only [List.mem_singleton] at he; subst he; simp only [List.mem_singleton] at ha; subst ha; rfl) (by rw [hlen]; simp; omega) (by rw [hlen]; simp; omega) (fun c' h' hg' hbox => ?_))
    repeat' (first | refine S.nilK ?_ | (refine S.op rfl ?_; first | refine R.mv rfl ?_ | refine S.addI rfl rfl (by omega) ?_) | refine S.region ?_ | refine RRun.inBlock ?_)
    rw [show (ns.map fun k => [bys k]) ++ [[bys key]] = (ns ++ [key]).map fun k => [bys k] by simp, show ((i : Int) + 1) = ((i + 1 : Nat) : Int) by omega]
    exact S.keep [8, 35, 36, 37] rfl (ih (i + 1) _ _ _ (by omega) (by simp; omega) (by simpa using hT) hg')
theorem svflat : ∀ (T : List (List UInt8)), (T.map fun k => [AV.v (sv k)]).flatten = (T.map sv).map .v
  | [] => rfl
  | a :: T => by simp only [List.map_cons, List.flatten_cons, svflat T]; rfl
def keysS (l : List Run) : List (List UInt8) := (keysD l).mergeSort leB
theorem keysS_len (l : List Run) : (keysS l).length = (keysD l).length := List.length_mergeSort _
theorem addKs_mem : ∀ (kl ks : List (List UInt8)) (k : List UInt8), k ∈ kl.foldl addK ks ↔ k ∈ ks ∨ k ∈ kl
  | [], ks, k => by simp
  | x :: kl, ks, k => by
    rw [List.foldl_cons, addKs_mem kl]
    unfold addK
    by_cases hx : x ∈ ks
    · rw [if_pos hx]
      simp only [List.mem_cons]
      constructor
      · rintro (h | h)
        · exact .inl h
        · exact .inr (.inr h)
      · rintro (h | h | h)
        · exact .inl h
        · exact .inl (h ▸ hx)
        · exact .inr h
    · rw [if_neg hx]
      simp only [List.mem_append, List.mem_cons, List.mem_nil_iff, or_false]
      constructor
      · rintro ((h | h) | h)
        · exact .inl h
        · exact .inr (.inl h)
        · exact .inr (.inr h)
      · rintro (h | h | h)
        · exact .inl (.inl h)
        · exact .inl (.inr h)
        · exact .inr h
theorem keysS_mem (l : List Run) (k : List UInt8) : k ∈ keysS l ↔ k ∈ keysOf l := by
  unfold keysS
  rw [(List.mergeSort_perm _ _).mem_iff]
  unfold keysD
  rw [addKs_mem]
  simp
theorem keys_spec (l : List Run) (hl : l.length ≤ 1000) (hk : ∀ r ∈ l, r.keys.length ≤ 1000) (hkk : ∀ r ∈ l, ∀ k ∈ r.keys, k.length ≤ maxLen) (hN : (keysOf l).length ≤ 1000000) (h : AHeap) :
    ACalls Try.prog 25 [runsA l] h (fun x h' => x = keysA (keysS l) ∧ h' = h) := by
  have hd : (keysD l).length ≤ 1000000 := by have := addKs_len (keysOf l) []; simp only [List.length_nil] at this; unfold keysD; omega
  have hlen : (l.map fun k => runC k).length = l.length := by simp
  obtain ⟨c, hc1, hc2⟩ := res25
  refine ACalls.weak (ACalls.enter Try.func25 hc1 Try.ntmps25 hc2 (Nat.le_of_ble_eq_true rfl) rfl ?_)
  repeat' (first | refine S.nilK ?_ | (refine S.op rfl ?_; first | refine R.makeMap rfl (fun m hm0 => ?_) | refine R.mv rfl ?_ | refine R.len rfl ?_) | refine S.seq ?_ | refine S.region ?_ | refine RRun.block ?_)
  rw [hlen]
  refine RRun.loopIn (S.keep [3, 12, 13, 14] rfl (keys_out m l (by omega) (fun r hr => Nat.le_trans (hk r hr) (by decide)) h hm0 _ _ (fun h1 hm1 hle1 => ?_) l.length 0 [] _ (by omega) rfl (AHeap.set_same _ _ _) (by repeat (first | exact AHeap.le.refl _ | refine AHeap.le.set ?_ _ (by (repeat' (first | assumption)); first | done | fail)))))
  have ck := keys_fn m h1
  repeat' (first | refine S.nilK ?_ | (refine S.op rfl ?_; first | refine R.mv rfl ?_) | refine S.seq ?_ | refine S.region ?_)
  refine S.op rfl (R.call rfl rfl (ck.mono ?_))
  rintro _ _ ⟨q, hq, rfl, rfl⟩
  have hmq : m ≠ q := AHeap.ne_of hq hm1
  have cs := sorted_spec q m (keysD l) hd (h1.set q (.box [.v (.map (some m))])) (AHeap.set_same _ _ _) ((AHeap.set_other _ _ hmq).trans hm1)
  refine S.op rfl (R.call rfl rfl (cs.mono ?_))
  rintro x h2 ⟨B, hrow, hF, hB⟩
  have hle2 : h.le h2 := fun y o hy => by
    obtain ⟨o', g1, g2⟩ := hle1 y o hy
    have hyq : y ≠ q := fun e => by subst e; rw [hq] at g1; cases g1
    have hym : y ≠ m := fun e => by subst e; rw [hm0] at hy; cases hy
    exact ⟨o', hF y o' ((AHeap.set_other _ _ hyq).trans g1) hym, g2⟩
  have hS : (keysD l).mergeSort leB = keysS l := rfl
  rw [hS] at hrow
  have hsl := keysS_len l
  have hTl : ∀ k ∈ keysS l, k.length ≤ maxLen := fun k hk2 => by
    have := (keysS_mem l k).1 hk2
    unfold keysOf at this
    obtain ⟨r, hr, hkr⟩ := List.mem_flatMap.1 this
    exact hkk r (List.mem_filter.1 hr).1 k hkr
  generalize keysS l = T at hrow hsl hTl ⊢
  rcases hrow with ⟨he, rfl, hB0⟩ | ⟨b, cap, sp, rfl, hb, hl2, hcap, hne, hBb⟩
  · have hs0 : T = [] := by simpa using he
    subst hs0
    repeat' (first | (refine RRun.loopIn ?_) | (refine RRun.inLoop ?_) | refine S.nilK ?_ | (refine S.op rfl ?_; first | refine R.mv rfl ?_ | refine R.lenA rfl ?_ | ((first | refine S.lss rfl rfl ?_ ?_) <;> intro hlt <;> try (exfalso; omega))) | refine S.seq ?_ | refine S.region ?_ | refine S.condF rfl ?_ | refine RRun.block ?_ | refine RRun.exit rfl ?_)
    apply S.ret rr25
    case hx => repeat (first | exact ResAt.nil | apply ResAt.tmp rfl)
    exact ⟨_, h, .nilSl 1 (c := .ro) trivial, hle2, rfl, rfl⟩
  · have hsm : (T.map sv).length = T.length := by simp
    rw [hsm] at hl2
    repeat' (first | refine S.nilK ?_ | (refine S.op rfl ?_; first | refine R.mv rfl ?_ | refine R.lenA rfl ?_) | refine RRun.block ?_)
    rw [hsm]
    have hflat := svflat T
    have hb0 : h b = none := by
      have h1b := hB b ((hBb b).2 rfl)
      exact hle1.none (AHeap.fresh_set h1b).2
    refine S.keep [37, 36, 35, 8] rfl ?_
    refine RRun.freezeS (t := 35) (es := T.map fun k => [AV.v (sv k)]) (sp := sp) (by simp) rfl (by rw [hflat]; exact hb) (sz := 1) (fun e he => by obtain ⟨r, _, rfl⟩ := List.mem_map.1 he; rfl) (by simp only [List.length_map]; omega) hcap ?_
    refine RRun.loopIn (S.keep [8, 35, 36, 37] rfl (RRun.envs (.cons 8 (.nilSl 1 (c := .full) trivial) (.cons 35 (.refl _) (.cons 36 (.refl _) (.cons 37 (.refl _) .nil)))) (keys_bytes T T.length rfl (by omega) hTl h _ _ (fun c2 h3 hg3 => ?_) T.length 0 [] .full _ (by omega) rfl (by simp) (Grow.of_le (hle2.del hb0)))))
    repeat' (first | refine S.nilK ?_ | (refine S.op rfl ?_; first | refine R.mv rfl ?_) | refine S.seq ?_ | refine S.region ?_)
    apply S.ret rr25
    case hx => repeat (first | exact ResAt.nil | apply ResAt.tmp rfl)
    exact ⟨_, h, .toRo _ _ _, hg3.le, rfl, rfl⟩
end Go.Proofs.Ythfolomknkobkaa
