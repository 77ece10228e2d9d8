/-
  ParseCases answers true for every text: a text without a quote reads the same, small or great its letters. No condition.
-/
import Derived.Test.YtdinnoejipmiiaaP17
import Derived.Test.YtdinnoejipmiiaaP14
set_option linter.unusedVariables false
set_option linter.unusedSimpArgs false
namespace Go.Av
abbrev str (l : List UInt8) : AV := .v (.string ⟨l.toArray⟩)
theorem str_of (s : ByteArray) : AV.v (.string s) = str s.data.toList := by cases s; simp
theorem extract_list (l : List UInt8) (a b : Nat) : (⟨l.toArray⟩ : ByteArray).extract a b = ⟨((l.drop a).take (b - a)).toArray⟩ := by
  apply ByteArray.ext
  simp [ByteArray.extract, ByteArray.copySlice]
theorem append_list (a b : List UInt8) : (⟨a.toArray⟩ : ByteArray) ++ ⟨b.toArray⟩ = ⟨(a ++ b).toArray⟩ := by
  apply ByteArray.ext
  simp [ByteArray.data_append]
theorem mk_toList (l : List UInt8) : (⟨l.toArray⟩ : ByteArray).toList = l := by
  simp
section
variable {P : Program} {c : Cls} {E : AEnv} {h : AHeap} {K : AV → AHeap → Prop}
theorem S.lenS {x : Operand} {l : List UInt8} (hx : aev E x = some (str l)) (hk : K (.v (.int .i64 l.length)) h) : ROpS P c (.lenStr x) E h K :=
  R.lenStr hx (by simpa [ByteArray.size] using hk)
theorem S.indexS {x i : Operand} {l : List UInt8} {k : IntKind} {n : Int} {b : UInt8} (hx : aev E x = some (str l)) (hi : aev E i = some (.v (.int k n))) (h0 : 0 ≤ n) (he : l[n.toNat]? = some b) (hk : K (.v (.int .u8 b.toNat)) h) : ROpS P c (.indexStr x i) E h K :=
  R.indexStr hx hi h0 (by simpa using he) hk
theorem S.concat {x y : Operand} {a b : List UInt8} (hx : aev E x = some (str a)) (hy : aev E y = some (str b)) (hlen : a.length + b.length ≤ 9223372036854775807) (hk : K (str (a ++ b)) h) : ROpS P c (.bin .add x y) E h K :=
  R.binStr hx hy (v := .string ⟨(a ++ b).toArray⟩) (by
    have : ¬ ((((⟨a.toArray⟩ : ByteArray).size + (⟨b.toArray⟩ : ByteArray).size : Nat) : Int) > IntKind.i64.max) := by
      simp only [ByteArray.size, List.size_toArray]
      have : IntKind.i64.max = 9223372036854775807 := rfl
      omega
    simp only [binStr, if_neg this, append_list]) hk
theorem S.eqS {neg : Bool} {kk : EqK} {x y : Operand} {a b : List UInt8} (hx : aev E x = some (str a)) (hy : aev E y = some (str b)) (hk : K (.v (.bool (if neg then !(a == b) else a == b))) h) : ROpS P c (.eq neg kk x y) E h K :=
  R.eqStr hx hy (by rw [mk_toList, mk_toList]; exact hk)
theorem S.toStrS {x : Operand} {l : List UInt8} {cc : Cap} (hx : aev E x = some (.sl 1 (byteCells l) cc)) (hk : K (str l) h) : ROpS P c (.toStr x) E h K := R.toStr hx hk
theorem S.toBytesS {x : Operand} {l : List UInt8} (hx : aev E x = some (str l)) (hs : l.length ≤ maxLen) (hk : K (.sl 1 (byteCells l) .ro) h) : ROpS P c (.toBytes x) E h K :=
  R.toBytes hx (by simpa [ByteArray.size] using hs) (by simpa using hk)
theorem S.sliceS {x lo hi : Operand} {l : List UInt8} {k k' : IntKind} {a b : Int} (hx : aev E x = some (str l)) (hlo : aev E lo = some (.v (.int k a))) (hhi : aev E hi = some (.v (.int k' b))) (h0 : 0 ≤ a) (h1 : a ≤ b) (h2 : b ≤ l.length)
    (hk : K (str ((l.drop a.toNat).take (b.toNat - a.toNat))) h) : ROpS P c (.sliceStr x (some lo) (some hi)) E h K :=
  R.sliceStr hx (optInt_int hlo) (optInt_int hhi) rfl rfl h0 h1 (by simpa [ByteArray.size] using h2) (by rw [extract_list]; exact hk)
abbrev u8 (b : UInt8) : AV := .v (.int .u8 b.toNat)
theorem Rel.setRowB {h : AHeap} {w : World} (hr : Rel h w) {g : Nat} {cs cs' : List AV} {cur new : Array Value} {t : TypeId} {f : Nat × Nat} (hg : h g = some (.row cs)) (hw : w.heap[g]? = some (.cells cur t f)) (hf : new.size ≤ f.1) (hv : VRels (stab h w) cs' new.toList) :
    Rel (h.set g (.row cs')) (w.setRow g new) ∧ Evol h w (h.set g (.row cs')) (w.setRow g new) := by
  have hle : (stab h w).le (stab (h.set g (.row cs')) (w.setRow g new)) := by
    intro a u ha
    by_cases hab : a.block = g
    · simp [stab, hab, hg] at ha
    · rw [stab_congr (h := h) (w := w) (AHeap.set_other h _ hab) (setRow_other w g a.block new hab)]; exact ha
  refine ⟨hr.step (b := g) (fun x hx => AHeap.set_other h _ hx) (fun x hx _ => setRow_other w g x new hx) hle (fun o ho => ?_), rfl, rfl, rfl, by simp [World.setRow], hle, fun b hb hn => ?_⟩
  · simp only [AHeap.set_same, Option.some.injEq] at ho
    subst ho
    exact ⟨_, setRow_heap_eq hw, new, t, f, rfl, hf, hv.mono hle⟩
  · have hne : b ≠ g := fun e => by subst e; rw [hg] at hn; cases hn
    exact ⟨by rw [AHeap.set_other h _ hne]; exact hn, setRow_other w g b new hne⟩
theorem setCell_setRow {w : World} {g off : Nat} {cur : Array Value} {t : TypeId} {f : Nat × Nat} {v : Value} (hw : w.heap[g]? = some (.cells cur t f)) : w.setCell ⟨g, off, none⟩ v = w.setRow g (cur.setIfInBounds off v) := by
  unfold World.setCell World.setRow
  congr 1
  apply Array.ext
  · simp
  · intro i h1 h2
    have hlt : i < w.heap.size := by simpa using h1
    simp only [Array.getElem_modify]
    by_cases hi : g = i
    · subst hi
      have : w.heap[g] = .cells cur t f := by
        rw [Array.getElem?_eq_getElem hlt] at hw; exact Option.some.inj hw
      simp [this]
    · simp [hi]
theorem R.storeRow {x y : Operand} {b off : Nat} {cs : List AV} {av : AV} (hc : c = .act) (hx : aev E x = some (ptrAt b off)) (hb : h b = some (.row cs)) (hy : aev E y = some av) (hxs : av.cells? = some [av]) (hfit : off < cs.length)
    (hk : K (.v undef) (h.set b (.row (cs.set off av)))) : ROpS P c (.store 1 x y) E h K := by
  subst hc
  intro o ho
  refine AOp.skip fun ρ w hops hr => ?_
  have hres := resOp_sound ho
  generalize hop : o.op = op' at hres hops
  cases hres with
  | store t _ _ s hs =>
    have e1 := (hops x (by simp [Op.operands]) _ hx).inv_v
    have e2 := hops y (by simp [Op.operands]) _ hy
    obtain ⟨hv, hone⟩ := e2.cells? hxs
    obtain ⟨ob, hob, cc, ty, f, rfl, hf, hvb⟩ := hr b _ hb
    have hlb := hvb.length
    obtain ⟨u, hu⟩ : ∃ u, (ρ y).cells.toList = [u] := by
      have := hv.length
      match hh : (ρ y).cells.toList, this with
      | [u], _ => exact ⟨u, rfl⟩
    rw [hu] at hv hone
    have hvu : VRel (stab h w) av u := by cases hv with | cons h1 _ => exact h1
    have hu1 : u.oneCell' = true := hone u (by simp)
    have hlt : off < cc.size := by simp at hlb; omega
    obtain ⟨u0, hu0⟩ : ∃ u0, w.cell? ⟨b, off, none⟩ = some u0 := by rw [cell_of_cells hob]; exact ⟨cc[off], by simp [hlt]⟩
    have hfz : w.frozen? ⟨b, off, none⟩ = false := by
      simp only [World.frozen?, hob]
      simp; omega
    have hst : (storeCells ⟨b, off, none⟩ [u] 0).run P w = .ok () (w.setRow b (cc.setIfInBounds off u)) := by
      rw [← setCell_setRow hob]
      simp only [storeCells, Sem.run_bind, Addr.add_lit, Nat.add_zero, Go.store]
      cases u <;> simp_all [Sem.run, Value.oneCell', Result.andThen, Go.store]
    have hnew : VRels (stab h w) (cs.set off av) (cc.setIfInBounds off u).toList := by simpa using hvb.set off hvu
    obtain ⟨r1, r2⟩ := hr.setRowB hb hob (new := cc.setIfInBounds off u) (by simpa using hf) hnew
    refine ⟨_, _, ?_, hk, r1, r2⟩
    have hsz : (ρ y).cells.size = 1 := by have := congrArg List.length hu; simpa using this
    simp only [execOp, hop, Instr.storeAt, Sem.run_bind, e1, Instr.sureAddr, Sem.run_pure, Result.andThen_ok, storeVar, run_sizeOf' hs, hsz, hu]
    simp [hst]
theorem R.loadRow {x : Operand} {b off : Nat} {cs : List AV} {av : AV} (hc : c ≠ .pure) (hx : aev E x = some (ptrAt b off)) (hb : h b = some (.row cs)) (hav : loadAV false 1 (cs.drop off) = some av) (hk : K av h) : ROpS P c (.load false 1 x) E h K :=
  ROpS.of_read hc (fun oo ho => AOp.value fun ρ w hops hr => by
    have hres := resOp_sound ho
    generalize hop : oo.op = op' at hres hops
    cases hres with
    | load t _ a s ha hs =>
      have e1 := (hops x (by simp [Op.operands]) _ hx).inv_v
      obtain ⟨y, hy, cc, ty, f, rfl, hf, hv⟩ := hr b _ hb
      obtain ⟨u, h1, h2⟩ := load_rel ha hs (b := b) (off := off) (w := w) (hv.drop off) (fun i u hi => by
        rw [cell_of_cells hy]
        rw [List.getElem?_drop] at hi
        simpa using hi) hav
      exact ⟨u, by simp only [execOp, hop, Instr.loadAt, Sem.run_bind, e1, Instr.sureAddr, Sem.run_pure, Result.andThen_ok, h1], h2⟩) hk
theorem R.toBytesO {x : Operand} {l : List UInt8} (hc : c = .act) (hx : aev E x = some (str l)) (hk : ∀ b cap, h b = none → l.length ≤ cap → K (slAt b 0 l.length cap) (h.set b (.row (l.map u8 ++ List.replicate (cap - l.length) .any)))) : ROpS P c (.toBytes x) E h K := by
  subst hc
  intro oo ho
  refine AOp.act fun ρ w hops hr => ?_
  have hres := resOp_sound ho
  generalize hop : oo.op = op' at hres hops
  cases hres with
  | convSB s' d e _ h1 h2 h3 =>
    have e1 := (hops x (by simp [Op.operands]) _ hx).inv_v
    have hrun := run_bytes_of_string (P := P) w s' d e ⟨l.toArray⟩ h1 h2 h3
    have hsz : (⟨l.toArray⟩ : ByteArray).size = l.length := by simp [ByteArray.size]
    have hge : l.length ≤ grownCap w l.length 0 e := grownCap_ge w l.length 0 e
    rw [hsz] at hrun
    have hv : VRels (stab h w.drew) (l.map u8 ++ List.replicate (grownCap w l.length 0 e - l.length) .any) (bytesRow ⟨l.toArray⟩ (grownCap w l.length 0 e)).toList := by
      have h1 : VRels (stab h w.drew) (l.map u8) (l.map fun b => Value.int .u8 b.toNat) := by
        have : l.map u8 = (l.map fun b => Value.int .u8 b.toNat).map AV.v := by simp
        rw [this]; exact VRels.map_v _
      have h2 := any_rel (st := stab h w.drew) (List.replicate (grownCap w l.length 0 e - l.length) (Value.int .u8 0))
      have h3 := h1.append h2
      simpa [bytesRow, ByteArray.size] using h3
    refine ⟨_, _, _, _, by simp only [execOp, hop, Sem.run_bind, e1, hrun, Result.andThen_ok]; rfl, hk w.heap.size (grownCap w l.length 0 e) hr.fresh hge, .v _, ?_, (Evol.drew h w).trans (Evol.alloc hr.drew fun x hx => AHeap.set_other _ _ hx)⟩
    exact hr.drew.alloc_own (b := .row _) ⟨_, _, _, rfl, Nat.le_refl _, hv⟩
theorem R.toStrRow {x : Operand} {b n cap : Nat} {cs : List AV} {l : List UInt8} (hc : c ≠ .pure) (hx : aev E x = some (slAt b 0 n cap)) (hb : h b = some (.row cs)) (hl : cs.take n = l.map u8) (hn : l.length = n) (hk : K (str l) h) : ROpS P c (.toStr x) E h K :=
  ROpS.of_read hc (fun o ho => AOp.value fun ρ w hops hr => by
    have hres := resOp_sound ho
    generalize hop : o.op = op' at hres hops
    cases hres with
    | convBS s d e _ h1 h2 h3 =>
      have e1 := (hops x (by simp [Op.operands]) _ hx).inv_v
      obtain ⟨y, hy, cc, ty, f, rfl, hf, hv⟩ := hr b _ hb
      have ht : VRels (stab h w) (l.map u8) (cc.toList.take n) := by rw [← hl]; exact hv.take n
      have hvs : cc.toList.take n = (l.map fun b => ((b.toNat : Nat) : Int)).map (Value.int .u8) := by
        have : l.map u8 = ((l.map fun b => ((b.toNat : Nat) : Int)).map (Value.int .u8)).map AV.v := by simp
        rw [this] at ht
        exact ht.atoms
      have hlen : (cc.toList.take n).length = n := by rw [hvs]; simpa using hn
      have hload : (loadCells ⟨b, 0, none⟩ n).run P w = .ok ((l.map fun b => ((b.toNat : Nat) : Int)).map (Value.int .u8)).toArray w := by
        have := run_loadCells_list (P := P) w ⟨b, 0, none⟩ (cc.toList.take n) (fun j v hj => by
          rw [Addr.add_lit, cell_of_cells hy]
          rw [List.getElem?_take] at hj
          split at hj
          · simpa using hj
          · cases hj)
        rw [hlen, hvs] at this
        exact this
      refine ⟨.string ⟨l.toArray⟩, ?_, .v _⟩
      have := run_bytesToString (P := P) w ⟨b, 0, none⟩ n cap _ hload
      simp only [execOp, hop, e1, convert, Sem.run_bind, run_underlying h1, run_underlying h2, run_underlying h3, Result.andThen_ok]
      rw [this, foldl_push_bytes]
      simp) hk
end
theorem callS {P : Program} {c : Cls} {E : AEnv} {h H : AHeap} {K : AV → AHeap → Prop} {f : FuncId} {args : List Operand} {avl : List AV} {x : AV} (hc : c = .act) (ha : avs E args = some avl) (hcall : ACalls P f avl h (fun x' h' => x' = x ∧ h' = H)) (hk : K x H) : ROpS P c (.call f args) E h K :=
  R.call hc ha (hcall.mono fun x' h' ⟨e1, e2⟩ => by subst e1; subst e2; exact hk)
theorem box_le {h : AHeap} {p : Nat} {o o' : ABlk} (ho : BLe o' o) : (h.set p o).le (h.set p o') :=
  AHeap.le.of_del ((AHeap.del_le h p).set _ (AHeap.del_same _ _)) (AHeap.set_same _ _ _) ho
abbrev Fits (n : Int) : Prop := -9223372036854775808 ≤ n ∧ n ≤ 9223372036854775807
theorem wrap_i64_mod (n : Int) : ∃ k : Int, IntKind.i64.wrap n = n + 18446744073709551616 * k := by
  simp only [IntKind.wrap, IntKind.bits, IntKind.signed]
  simp
  split
  · exact ⟨-(n / 18446744073709551616) - 1, by omega⟩
  · exact ⟨-(n / 18446744073709551616), by omega⟩
theorem wrap_i64_fits (n : Int) : Fits (IntKind.i64.wrap n) := by
  simp only [IntKind.wrap, IntKind.bits, IntKind.signed]
  simp
  split <;> omega
theorem wrap_i64_nat {n : Nat} (h : n < 18446744073709551616) : IntKind.i64.wrap (n : Int) < 0 ↔ 9223372036854775808 ≤ n := by
  simp only [IntKind.wrap, IntKind.bits, IntKind.signed]
  simp
  split <;> omega
theorem msb_ofInt {a : Int} (ha : Fits a) : (BitVec.ofInt 64 a).msb = decide (a < 0) := by
  rw [BitVec.msb_eq_toInt, BitVec.toInt_ofInt, Int.bmod_def]
  simp
  split <;> omega
theorem xor_sign {a b : Int} (ha : Fits a) (hb : Fits b) : IntKind.i64.wrap ((BitVec.ofInt 64 a ^^^ BitVec.ofInt 64 b).toNat : Int) < 0 ↔ ¬ (a < 0 ↔ b < 0) := by
  rw [wrap_i64_nat (by have := (BitVec.ofInt 64 a ^^^ BitVec.ofInt 64 b).isLt; simpa using this)]
  have h1 := BitVec.msb_eq_decide (BitVec.ofInt 64 a ^^^ BitVec.ofInt 64 b)
  rw [BitVec.msb_xor, msb_ofInt ha, msb_ofInt hb] at h1
  generalize (BitVec.ofInt 64 a ^^^ BitVec.ofInt 64 b).toNat = m at h1 ⊢
  by_cases h2 : a < 0 <;> by_cases h3 : b < 0 <;> simp only [h2, h3, decide_true, decide_false, Bool.xor_self, Bool.xor_false, Bool.xor_true, Bool.false_xor, Bool.true_xor, Bool.not_true, Bool.not_false, eq_comm (a := false), eq_comm (a := true), decide_eq_true_eq, decide_eq_false_iff_not] at h1 ⊢ <;> simp <;> omega
theorem fdiv_sign {x : Int} (hx : Fits x) : x.fdiv (2 ^ 63) = 0 ↔ ¬ x < 0 := by
  rw [Int.fdiv_eq_ediv_of_nonneg _ (by decide)]
  have : (2 : Int) ^ 63 = 9223372036854775808 := by decide
  rw [this]
  omega
theorem tdiv_wrap {a b : Int} (hb : Fits b) (h0 : b ≠ 0) : (IntKind.i64.wrap (a * b)).tdiv b = a ↔ IntKind.i64.wrap (a * b) = a * b := by
  constructor
  · intro h
    obtain ⟨k, hk⟩ := wrap_i64_mod (a * b)
    have h1 := Int.mul_tdiv_add_tmod (IntKind.i64.wrap (a * b)) b
    rw [h] at h1
    have h3 : ((IntKind.i64.wrap (a * b)).tmod b).natAbs < b.natAbs := by
      rw [Int.natAbs_tmod]; exact Nat.mod_lt _ (by omega)
    have h4 : b * a = a * b := Int.mul_comm _ _
    rw [h4] at h1
    omega
  · intro h
    rw [h]
    exact Int.mul_tdiv_cancel a h0
theorem sub48 {P : Program} {c : Cls} {E : AEnv} {h : AHeap} {K : AV → AHeap → Prop} {x : Operand} {m : Nat} (h1 : 48 ≤ m) (h2 : m ≤ 57) (hx : aev E x = some (.v (.int .u8 (m : Int)))) (hk : K (.v (.int .u8 ((m : Int) - 48))) h) : ROpS P c (.bin .sub x (.const (.int .u8 48))) E h K := by
  refine R.bin hx rfl rfl ?_
  have : IntKind.u8.wrap ((m : Int) - 48) = (m : Int) - 48 := by
    simp only [IntKind.wrap, IntKind.bits, IntKind.signed]
    simp
    omega
  rw [this]; exact hk
theorem conv8 {P : Program} {c : Cls} {E : AEnv} {h : AHeap} {K : AV → AHeap → Prop} {x : Operand} {n : Int} (hx : aev E x = some (.v (.int .u8 n))) (hf : Fits n) (hk : K (.v (.int .i64 n)) h) : ROpS P c (.convInt .i64 x) E h K := by
  refine R.convInt hx ?_
  rw [wrap_i64 hf.1 hf.2]; exact hk
def Foot (C : Nat → Prop) (h h' : AHeap) : Prop := ∀ x o, h x = some o → ¬ C x → h' x = some o
theorem Foot.refl (C : Nat → Prop) (h : AHeap) : Foot C h h := fun _ _ e _ => e
theorem Foot.trans {C C' : Nat → Prop} {h h' h'' : AHeap} (f : Foot C h h') (f' : Foot C' h' h'') (hc : ∀ x, C' x → C x ∨ h x = none) : Foot C h h'' := fun x o e hn =>
  f' x o (f x o e hn) (fun hc' => (hc x hc').elim hn (fun e' => by rw [e] at e'; cases e'))
def YStep (P : Program) (l : Nat) (as : List AV) (C : Nat → Prop) (h : AHeap) (N S : (Nat → Prop) → AHeap → Prop) : Prop :=
  AYield P l as h (fun b h' => ∃ C', (∀ x, C' x → C x ∨ h x = none) ∧ Foot C h h' ∧ (if b then N C' h' else S C' h'))
structure Client (I : (Nat → Prop) → AHeap → Prop) : Prop where
  own : ∀ C h, I C h → ∀ x, C x → h x ≠ none
  loc : ∀ C h h', I C h → (∀ x, C x → h' x = h x) → I C h'
def TokC (c : Cap) (x : Nat) : Prop := ∃ u s, c = .tok x u s
def OwnT (h : AHeap) (c : Cap) : Prop := c = .full ∨ ∃ b u s, c = .tok b u s ∧ h b = some (.grow u s)
theorem ownT_own {h : AHeap} {c : Cap} (ho : OwnT h c) : ∀ x, TokC c x → h x ≠ none := fun x ⟨u, s, e⟩ => by
  rcases ho with rfl | ⟨b, u', s', rfl, hb⟩
  · cases e
  · cases e; rw [hb]; simp
theorem ownT_loc {h h' : AHeap} {c : Cap} (ho : OwnT h c) (hl : ∀ x, TokC c x → h' x = h x) : OwnT h' c := by
  rcases ho with rfl | ⟨b, u', s', rfl, hb⟩
  · exact .inl rfl
  · exact .inr ⟨b, u', s', rfl, by rw [hl b ⟨u', s', rfl⟩]; exact hb⟩
theorem S.appendT {P : Program} {c : Cls} {E : AEnv} {h : AHeap} {K : AV → AHeap → Prop} {sz bytes : Nat} {zero : List Value} {x y : Operand} {d s : AV} {xs ys : List (List AV)} {c0 : Cap} (hc : c = .act) (hg : OwnT h c0) (hx : aev E x = some d) (hd : Dst sz d xs c0) (hy : aev E y = some s) (hs : Src sz s ys)
    (hone : ∀ e ∈ ys, ∀ a ∈ e, a.one = true) (hlen : xs.length + ys.length ≤ 4611686018427387904) (hroom : (xs.length + ys.length) * bytes ≤ 140737488355328)
    (hk : ∀ c' h', OwnT h' c' → (∀ x o, h x = some o → ¬ TokC c0 x → h' x = some o) → (∀ x, TokC c' x → TokC c0 x ∨ h x = none) → K (.sl sz (xs ++ ys) c') h') : ROpS P c (.append sz bytes zero x y) E h K := by
  obtain ⟨h₁, ho, h1, h2⟩ : ∃ h₁, Own h₁ c0 h ∧ (∀ x o, h x = some o → ¬ TokC c0 x → h₁ x = some o) ∧ (∀ x, h₁ x = none → TokC c0 x ∨ h x = none) := by
    rcases hg with rfl | ⟨b, u, s', rfl, hb⟩
    · exact ⟨h, .full, fun _ _ e _ => e, fun _ e => .inr e⟩
    · refine ⟨h.del b, ?_, fun x o e hn => ?_, fun x e => ?_⟩
      · have := Own.tok (h₀ := h.del b) (b := b) (u := u) (s := s') (AHeap.del_same h b)
        have e : (h.del b).set b (.grow u s') = h := by
          funext x
          by_cases hx : x = b
          · subst hx; simp [hb]
          · rw [AHeap.set_other _ _ hx, AHeap.del_other _ hx]
        rwa [e] at this
      · have hx : x ≠ b := fun e' => hn ⟨u, s', by rw [e']⟩
        rw [AHeap.del_other _ hx]; exact e
      · by_cases hx : x = b
        · exact .inl ⟨u, s', by rw [hx]⟩
        · rw [AHeap.del_other _ hx] at e; exact .inr e
  refine R.append hc hx hd ho hy hs hone hlen hroom fun c' h' ho' => ?_
  cases ho' with
  | full => exact hk _ _ (.inl rfl) h1 (fun x ⟨u, s, e⟩ => by cases e)
  | tok hb =>
    rename_i b u s'
    refine hk _ _ (.inr ⟨b, u, s', rfl, AHeap.set_same _ _ _⟩) (fun x o e hn => ?_) (fun x ⟨u', s2, e⟩ => by cases e; exact h2 b hb)
    exact AHeap.get_fresh hb (h1 x o e hn)
end Go.Av
