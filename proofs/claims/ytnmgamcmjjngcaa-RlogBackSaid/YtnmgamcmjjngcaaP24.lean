/-
  A log that is put record by record is replayed as it was, for every input (where its snapshot's members may be).
-/
import Derived.Test.YtnmgamcmjjngcaaP23
import Derived.Test.YtnmgamcmjjngcaaP15
import Derived.Test.YtnmgamcmjjngcaaP22
import Derived.Test.YtnmgamcmjjngcaaP19
import Derived.Test.YtnmgamcmjjngcaaP18
import Derived.Test.YtnmgamcmjjngcaaP16
import Derived.Test.YtnmgamcmjjngcaaP21
set_option linter.unusedVariables false
set_option linter.unusedSimpArgs false
namespace Go.Proofs.Ytnmgamcmjjngcaa
open Go.Av
theorem wn_list (l : List UInt64) (hl : l.length ≤ 1000) (p : Nat) (h₀ : AHeap) (k : List RT) (Q : AV → AHeap → Prop) (acc : List UInt8) (hacc : acc.length ≤ 1000000)
    (hkk : ∀ h', WAt h₀ p (acc ++ putNs l) h' → RRun Try.prog Try.f78 52 k (Env.get []) h' Q) : ∀ (m j : Nat) (h : AHeap), j + m = l.length → WAt h₀ p (acc ++ putNs (l.take j)) h →
    RRun Try.prog Try.f78 52 (.inLoop r78l0 :: .inBlock 0 :: k) (Env.get [(0, ptr p), (9, u64s l), (10, i64 l.length), (11, i64 j)]) h Q := by
  have hla : (l.map fun x => [enc x]).length = l.length := by simp
  intro m
  induction m with
  | zero =>
    intro j h hj hw
    refine RRun.inLoop ?_
    repeat' (first | refine S.nilK ?_ | (refine S.op rfl ?_; first | ((first | refine S.lss rfl rfl ?_ ?_) <;> intro hlt <;> try (exfalso; omega))) | refine S.seq ?_ | refine S.region ?_ | refine S.condF rfl ?_ | refine RRun.exit rfl ?_)
    rw [List.take_of_length_le (by omega)] at hw
    exact S.keep [] rfl (hkk h hw)
  | succ m ih =>
    intro j h hj hw
    have hlt : j < l.length := by omega
    obtain ⟨v, hv⟩ : ∃ v, l[j]? = some v := ⟨l[j], List.getElem?_eq_getElem hlt⟩
    have hga : (l.map fun x => [enc x])[((j : Nat) : Int).toNat]? = some [enc v] := by simp only [Int.toNat_natCast, List.getElem?_map, hv]; rfl
    have htk : l.take (j + 1) = l.take j ++ [v] := by rw [List.take_add_one, hv]; rfl
    have hpn : putNs (l.take (j + 1)) = putNs (l.take j) ++ putN v.toNat := by rw [htk]; simp [putNs]
    have hlen : ∀ i, i ≤ l.length → (putNs (l.take i)).length ≤ 10 * i := by
      intro i
      induction i with
      | zero => intro _; simp [putNs]
      | succ i ihi =>
        intro hi
        obtain ⟨w, hw⟩ : ∃ w, l[i]? = some w := ⟨l[i], List.getElem?_eq_getElem (by omega)⟩
        have e : l.take (i + 1) = l.take i ++ [w] := by rw [List.take_add_one, hw]; rfl
        have e2 : putNs (l.take (i + 1)) = putNs (l.take i) ++ putN w.toNat := by rw [e]; simp [putNs]
        have := ihi (by omega)
        have := putN_len (UInt64.toNat_lt w)
        rw [e2, List.length_append]; omega
    have hlj := hlen j (by omega)
    have hA : (acc ++ putNs (l.take j)).length ≤ 1010000 := by rw [List.length_append]; omega
    have ih' := fun h' => ih (j + 1) h' (by omega)
    rw [hpn, ← List.append_assoc] at ih'
    generalize acc ++ putNs (l.take j) = A at hw hA ih'
    refine RRun.inLoop ?_
    repeat' (first | refine S.nilK ?_ | (refine S.op rfl ?_; first | refine R.indexAddr (cc := .ro) (es := l.map fun x => [enc x]) rfl rfl (by omega) hga ?_ | refine R.mv rfl ?_ | refine R.loadR rfl rfl ?_ | ((first | refine S.lss rfl rfl ?_ ?_) <;> intro hlt <;> try (exfalso; omega))) | refine S.seq ?_ | refine S.region ?_ | refine S.condT rfl ?_ | refine RRun.skip ?_ | refine RRun.block ?_)
    refine RRun.loopIn (S.keep [0, 5, 6, 9, 10, 11] (l' := [(0, ptr p), (5, enc v), (6, i64 (7 * 0 : Nat)), (9, u64s l), (10, i64 l.length), (11, i64 j)]) rfl (wn_shift v [] _ _ h _ _ _ _ (fun s hs1 hs2 hs3 => ?_) 9 0 (by omega) (fun i hi => by omega)))
    repeat' (first | refine S.seq ?_ | refine RRun.block ?_)
    refine RRun.loopIn (S.keep [0, 5, 6, 9, 10, 11] rfl (wn_bytes v p h₀ _ _ _ _ _ s A h hs1 (by omega) hw (fun h2 hw2 => ?_)))
    obtain ⟨c0, hp, ho, h0p, h0t, hpt, hb⟩ := hw2
    have hm : v.toNat % 256 < 256 := Nat.mod_lt _ (by decide)
    have hmm : v.toNat % 256 % 128 = v.toNat % 128 := Nat.mod_mod_of_dvd _ (by decide)
    have hs4 : (A ++ Go.Proofs.Ytnmgamcmjjngcaa.hk v.toNat s).length ≤ 1020000 := by rw [List.length_append, hk_len]; omega
    have hput : A ++ putN v.toNat = A ++ Go.Proofs.Ytnmgamcmjjngcaa.hk v.toNat s ++ [UInt8.ofNat (v.toNat % 128)] := by
      unfold putN
      rw [hiB_hk s v.toNat hs2 hs3]; simp
    rw [hput] at ih'
    repeat' (first | (refine S.op rfl ?_; first | refine S.conv8N rfl ?_ | refine S.low7 hm rfl ?_ | refine R.mv rfl ?_ | refine R.fieldAddr rfl ?_ | refine R.nilCheck rfl ?_ | refine R.load (by decide) rfl (by (repeat' (first | assumption)); first | done | fail) rfl ?_ | refine R.buildSl rfl rfl rfl (by decide) ?_) | refine S.region ?_)
    rw [hmm]
    refine S.op rfl (S.wapp (ys := [UInt8.ofNat (v.toNat % 128)]) rfl hp ho h0p h0t hpt hb rfl rfl (.sl _ _) (by simp only [List.length_cons, List.length_nil]; omega) (fun c' h' hp' hw' => ?_))
    repeat' (first | refine S.nilK ?_ | (refine S.op rfl ?_; first | refine R.mv rfl ?_ | refine R.fieldAddr rfl ?_ | refine R.nilCheck rfl ?_ | refine S.addI rfl rfl (by omega) ?_) | (refine S.op0 rfl ?_; first | refine S.store rfl rfl (by (repeat' (first | assumption)); first | done | fail) rfl rfl rfl (by rfl) rfl ?_) | refine S.region ?_ | refine RRun.inBlock ?_)
    rw [show ((j : Int) + 1) = ((j + 1 : Nat) : Int) by omega]
    exact S.keep [0, 9, 10, 11] rfl (ih' _ hw')
theorem wN_spec (l : List UInt64) (hl : l.length ≤ 1000) (p : Nat) (h₀ h : AHeap) (acc : List UInt8) (hacc : acc.length ≤ 1000000) (hw : WAt h₀ p acc h) :
    ACalls Try.prog 78 [ptr p, u64s l] h (fun _ h' => WAt h₀ p (acc ++ putNs l) h') := by
  obtain ⟨c, hc1, hc2⟩ := res78
  refine ACalls.enter Try.func78 hc1 Try.ntmps78 hc2 (Nat.le_of_ble_eq_true rfl) rfl ?_
  have hla : (l.map fun x => [enc x]).length = l.length := by simp
  repeat' (first | refine S.nilK ?_ | (refine S.op rfl ?_; first | refine R.mv rfl ?_ | refine R.len rfl ?_ | refine R.eqPtrNil rfl rfl ?_) | refine S.seq ?_ | refine S.region ?_ | refine S.condF rfl ?_ | refine RRun.skip ?_ | refine RRun.block ?_)
  rw [hla]
  refine RRun.loopIn (S.keep [0, 9, 10, 11] rfl (wn_list l hl p h₀ _ _ acc hacc (fun h' hw' => ?_) l.length 0 h (by omega) (by simpa [putNs] using hw)))
  repeat' (fail)
  apply S.done rr78
  case hx => repeat (first | exact ResAt.nil)
  exact hw'
def r79 : RCode :=
  (.seq (.region [
    ⟨(some 2), none, .act, .mv (.const (.slice none 0 0))⟩])
  (.seq (.seq (.region [
    ⟨(some 3), none, .act, .mv (.tmp 0)⟩,
    ⟨(some 4), none, .act, .eq false .ptr (.tmp 3) (.const (.pointer none))⟩])
  (.cond (.tmp 4)
   (.seq (.region [
     ⟨(some 2), none, .act, .mv (.const (.slice none 0 0))⟩])
   .ret)
   .skip))
  (.seq (.region [
    ⟨(some 5), none, .act, .mv (.tmp 0)⟩,
    ⟨(some 6), none, .act, .nilCheck (.tmp 5)⟩,
    ⟨(some 7), none, .act, .fieldAddr 0 (.tmp 6)⟩,
    ⟨(some 8), none, .act, .load false 1 (.tmp 7)⟩,
    ⟨(some 9), none, .act, .append 1 1 [(.int .u8 0)] (.const (.slice none 0 0)) (.tmp 8)⟩,
    ⟨(some 2), none, .act, .mv (.tmp 9)⟩])
  .ret)))
theorem res79 : ∃ c, Try.f79.body = some c ∧ resCode Try.prog 10 c = some r79 := ⟨_, rfl, by kernel_rfl⟩
theorem rr79 : resRes Try.prog Try.f79.results.toList = some [.tmp 2] := by kernel_rfl
theorem wBytes_spec (p : Nat) (h : AHeap) (acc : List UInt8) (hacc : acc.length ≤ 10000000) (c0 : Cap) (hp : h p = some (.box [bysC acc c0])) :
    ACalls Try.prog 79 [ptr p] h (fun x h' => x = bysC acc .ro ∧ h' = h) := by
  obtain ⟨c, hc1, hc2⟩ := res79
  refine ACalls.weak (ACalls.enter Try.func79 hc1 Try.ntmps79 hc2 (Nat.le_of_ble_eq_true rfl) rfl ?_)
  repeat' (first | refine S.nilK ?_ | (refine S.op rfl ?_; first | refine R.mv rfl ?_ | refine R.fieldAddr rfl ?_ | refine R.nilCheck rfl ?_ | refine R.load (by decide) rfl (by (repeat' (first | assumption)); first | done | fail) rfl ?_ | refine R.eqPtrNil rfl rfl ?_) | refine S.seq ?_ | refine S.region ?_ | refine S.condF rfl ?_ | refine RRun.skip ?_)
  refine S.op rfl (S.appendG (h₀ := h) (ys := Go.Av.byteCells acc) rfl (.start h) rfl .nil rfl (.sl _ _) (one_bytes acc) (by simp [Go.Av.byteCells]; omega) (by simp [Go.Av.byteCells]; omega) (fun c' h' g1 _ => ?_))
  repeat' (first | refine S.nilK ?_ | (refine S.op rfl ?_; first | refine R.mv rfl ?_))
  apply S.ret rr79
  case hx => repeat (first | exact ResAt.nil | apply ResAt.tmp rfl)
  exact ⟨_, _, .toRo _ _ _, g1.le, rfl, rfl⟩
def zig (n : Int) : Nat := if 0 ≤ n then (2 * n).toNat else (-2 * n - 1).toNat
theorem wrap_u64_neg {n : Int} (h1 : n < 0) (h2 : -18446744073709551616 ≤ n) : IntKind.u64.wrap n = n + 18446744073709551616 := by
  simp only [IntKind.wrap, IntKind.bits, IntKind.signed]
  simp
  omega
theorem xor_ones (a : Nat) (ha : a < 18446744073709551616) : (BitVec.ofInt 64 ((a : Nat) : Int) ^^^ BitVec.ofInt 64 ((18446744073709551615 : Nat) : Int)).toNat = 18446744073709551615 - a := by
  have e : BitVec.ofInt 64 ((18446744073709551615 : Nat) : Int) = BitVec.allOnes 64 := by decide
  rw [e, BitVec.xor_allOnes, BitVec.toNat_not, BitVec.ofInt_natCast, BitVec.toNat_ofNat]
  omega
def r95 : RCode :=
  (.seq (.region [
    ⟨(some 2), none, .act, .mv (.const (.int .u64 0))⟩])
  (.seq (.region [
    ⟨(some 3), none, .act, .mv (.tmp 0)⟩,
    ⟨(some 4), none, .act, .convInt .u64 (.tmp 3)⟩,
    ⟨(some 5), none, .act, .bin .shl (.tmp 4) (.const (.int .u64 1))⟩,
    ⟨(some 6), none, .act, .mv (.tmp 0)⟩,
    ⟨(some 7), none, .act, .bin .shr (.tmp 6) (.const (.int .u64 63))⟩,
    ⟨(some 8), none, .act, .convInt .u64 (.tmp 7)⟩,
    ⟨(some 9), none, .act, .bin .xor (.tmp 5) (.tmp 8)⟩,
    ⟨(some 2), none, .act, .mv (.tmp 9)⟩])
  .ret))
theorem res95 : ∃ c, Try.f95.body = some c ∧ resCode Try.prog 10 c = some r95 := ⟨_, rfl, by kernel_rfl⟩
theorem rr95 : resRes Try.prog Try.f95.results.toList = some [.tmp 2] := by kernel_rfl
theorem zig_spec (n : Int) (hf : -9223372036854775808 ≤ n ∧ n ≤ 9223372036854775807) (h : AHeap) : ACalls Try.prog 95 [i64 n] h (fun x h' => x = enc (UInt64.ofNat (zig n)) ∧ h' = h) := by
  obtain ⟨c, hc1, hc2⟩ := res95
  refine ACalls.enter Try.func95 hc1 Try.ntmps95 hc2 (Nat.le_of_ble_eq_true rfl) rfl ?_
  unfold r95
  refine S.seq (S.region (S.op rfl (R.mv rfl (S.nilK (S.seq (S.region (S.op rfl (R.mv rfl (S.op rfl (R.convInt rfl (S.op rfl (R.shl rfl rfl (by decide) (S.op rfl (R.mv rfl (S.op rfl (R.shr rfl rfl (by decide) (S.op rfl (R.convInt rfl (S.op rfl (S.arith rfl rfl rfl ?_))))))))))))))))))))
  have hz : (IntKind.u64.wrap ((BitVec.ofInt IntKind.u64.bits (IntKind.u64.wrap (IntKind.u64.wrap n * 2 ^ (min (1 : Int).toNat IntKind.u64.bits))) ^^^ BitVec.ofInt IntKind.u64.bits (IntKind.u64.wrap (n.fdiv (2 ^ (min (63 : Int).toNat IntKind.i64.bits))))).toNat : Int)) = ((UInt64.ofNat (zig n)).toNat : Int) := by
    have e1 : (2 : Int) ^ (min (1 : Int).toNat IntKind.u64.bits) = 2 := by decide
    have e2 : (2 : Int) ^ (min (63 : Int).toNat IntKind.i64.bits) = 9223372036854775808 := by decide
    rw [e1, e2, Int.fdiv_eq_ediv_of_nonneg _ (by decide)]
    by_cases h0 : 0 ≤ n
    · obtain ⟨m, rfl⟩ : ∃ m : Nat, n = (m : Int) := ⟨n.toNat, by omega⟩
      have hz : (UInt64.ofNat (zig (m : Int))).toNat = 2 * m := by
        unfold zig; rw [if_pos h0]; simp; omega
      have w1 : IntKind.u64.wrap (m : Int) = (m : Int) := wrap_u64N (by omega)
      have w2 : IntKind.u64.wrap (((2 * m : Nat) : Int)) = ((2 * m : Nat) : Int) := wrap_u64N (by omega)
      rw [hz, w1, show (m : Int) * 2 = ((2 * m : Nat) : Int) by omega, w2, show ((m : Int) / 9223372036854775808) = 0 by omega]
      have : (BitVec.ofInt IntKind.u64.bits ((2 * m : Nat) : Int) ^^^ BitVec.ofInt IntKind.u64.bits (IntKind.u64.wrap 0)).toNat = 2 * m := by
        show (BitVec.ofInt 64 ((2 * m : Nat) : Int) ^^^ BitVec.ofInt 64 (IntKind.u64.wrap 0)).toNat = 2 * m
        have e : BitVec.ofInt 64 (IntKind.u64.wrap 0) = 0#64 := by decide
        rw [e, BitVec.xor_zero, BitVec.ofInt_natCast, BitVec.toNat_ofNat]
        omega
      rw [this, w2]
    · have hz : (UInt64.ofNat (zig n)).toNat = (-2 * n - 1).toNat := by
        unfold zig; rw [if_neg h0]; simp; omega
      have hw : IntKind.u64.wrap (IntKind.u64.wrap n * 2) = ((18446744073709551616 + 2 * n).toNat : Int) := by
        have w1 : IntKind.u64.wrap n = n + 18446744073709551616 := wrap_u64_neg (by omega) (by omega)
        rw [w1]
        simp only [IntKind.wrap, IntKind.bits, IntKind.signed]
        simp
        omega
      rw [hz, hw, show (n / 9223372036854775808) = -1 by omega, show IntKind.u64.wrap (-1) = ((18446744073709551615 : Nat) : Int) by decide]
      show IntKind.u64.wrap ((BitVec.ofInt 64 _ ^^^ BitVec.ofInt 64 _).toNat : Int) = _
      rw [xor_ones _ (by omega), wrap_u64N (by omega)]
      omega
  rw [hz]
  repeat' (first | refine S.nilK ?_ | (refine S.op rfl ?_; first | refine R.mv rfl ?_))
  apply S.ret rr95
  case hx => repeat (first | exact ResAt.nil | apply ResAt.tmp rfl)
  exact ⟨rfl, rfl⟩
end Go.Proofs.Ytnmgamcmjjngcaa

namespace Go.Proofs.Ytnmgamcmjjngcaa
open Go.Av
theorem WAt.start {h : AHeap} {p : Nat} (hp : h p = none) : WAt h p [] (h.set p (.box [bysC [] .full])) :=
  ⟨.full, AHeap.set_same _ _ _, .inl rfl, hp, (fun x ⟨u, s, e⟩ => by cases e), (fun ⟨u, s, e⟩ => by cases e), fun x o e => AHeap.get_fresh hp e⟩
theorem WAt.le {h₀ h : AHeap} {p : Nat} {acc : List UInt8} (hw : WAt h₀ p acc h) : h₀.le h := fun x o e => by
  obtain ⟨c, _, _, _, _, _, hb⟩ := hw
  exact ⟨o, hb x o e, .refl o⟩
theorem WAt.keepBox {h₀ h : AHeap} {p : Nat} {acc : List UInt8} (hw : WAt h₀ p acc h) {x : Nat} {o : ABlk} (hx : h₀ x = some o) : h x = some o := by
  obtain ⟨c, _, _, _, _, _, hb⟩ := hw
  exact hb x o hx
theorem wN_full {p : Nat} {h₀ h : AHeap} {acc : List UInt8} {es : List (List AV)} (l : List UInt64) (he : es = l.map fun x => [enc x]) (hl : l.length ≤ 1000) (hacc : acc.length ≤ 1000000) (hw : WAt h₀ p acc h) :
    ACalls Try.prog 78 [ptr p, .sl 1 es .full] h (fun _ h' => WAt h₀ p (acc ++ putNs l) h') := by
  subst he
  exact ACalls.args (wN_spec l hl p h₀ h acc hacc hw) (.cons (.refl _) (.cons (.toRo 1 (l.map fun x => [enc x]) .full) .nil))
theorem ACalls.subH {P : Program} {f : FuncId} {args : List AV} {h h' : AHeap} {K : AV → AHeap → Prop} (hle : h'.le h) (hc : ACalls P f args h' K) : ACalls P f args h K := fun vs w h1 h2 => by
  obtain ⟨r1, r2⟩ := h2.sub hle
  exact (hc vs w (h1.mono r2.stab) r1).mono fun e w' ⟨u, x, h'', e1, k, e3, e4, e5⟩ => ⟨u, x, h'', e1, k, e3, e4, r2.trans e5⟩
theorem nil_le (h : AHeap) (p : Nat) : (h.set p (.box [bysC [] .full])).le (h.set p (.box [.v (.slice none 0 0)])) :=
  box_le (.box (.cons (.nilSl 1 (c := .full) trivial) .nil))
def putText (b : List UInt8) : List UInt8 := putN b.length ++ b
def r81 : RCode :=
  (.region [
    ⟨(some 4), none, .act, .mv (.tmp 0)⟩,
    ⟨(some 5), none, .act, .mv (.tmp 1)⟩,
    ⟨(some 6), none, .act, .call 95 [(.tmp 5)]⟩,
    ⟨(some 7), none, .act, .buildSl 1 [(.int .u64 0)] 1 [(0, (.tmp 6))]⟩,
    ⟨(some 8), none, .act, .call 78 [(.tmp 4), (.tmp 7)]⟩])
theorem res81 : ∃ c, Try.f81.body = some c ∧ resCode Try.prog 9 c = some r81 := ⟨_, rfl, by kernel_rfl⟩
theorem rr81 : resRes Try.prog Try.f81.results.toList = some [] := by kernel_rfl
theorem wI_spec (n : Int) (hf : -9223372036854775808 ≤ n ∧ n ≤ 9223372036854775807) (p : Nat) (h₀ h : AHeap) (acc : List UInt8) (hacc : acc.length ≤ 1000000) (hw : WAt h₀ p acc h) :
    ACalls Try.prog 81 [ptr p, i64 n] h (fun _ h' => WAt h₀ p (acc ++ putNs [UInt64.ofNat (zig n)]) h') := by
  obtain ⟨c, hc1, hc2⟩ := res81
  refine ACalls.enter Try.func81 hc1 Try.ntmps81 hc2 (Nat.le_of_ble_eq_true rfl) rfl ?_
  repeat' (first | (refine S.op rfl ?_; first | refine callS rfl rfl (zig_spec n hf _) ?_ | refine R.mv rfl ?_ | refine R.buildSl rfl rfl rfl (by decide) ?_) | refine S.region ?_)
  refine S.op rfl (R.call rfl rfl ((wN_full [UInt64.ofNat (zig n)] rfl (by simp) hacc hw).mono ?_))
  intro x h' hw'
  repeat' (first | refine S.nilK ?_)
  apply S.done rr81
  case hx => repeat (first | exact ResAt.nil)
  exact hw'
def r82 : RCode :=
  (.seq (.region [
    ⟨(some 4), none, .act, .mv (.tmp 0)⟩,
    ⟨(some 5), none, .act, .eq true .ptr (.tmp 4) (.const (.pointer none))⟩])
  (.cond (.tmp 5)
   (.seq (.region [
     ⟨(some 6), none, .act, .mv (.tmp 0)⟩,
     ⟨(some 7), none, .act, .mv (.tmp 1)⟩,
     ⟨(some 8), none, .act, .len (.tmp 7)⟩,
     ⟨(some 9), none, .act, .convInt .u64 (.tmp 8)⟩,
     ⟨(some 10), none, .act, .buildSl 1 [(.int .u64 0)] 1 [(0, (.tmp 9))]⟩,
     ⟨(some 11), none, .act, .call 78 [(.tmp 6), (.tmp 10)]⟩])
   (.region [
     ⟨(some 12), none, .act, .mv (.tmp 0)⟩,
     ⟨(some 13), none, .act, .mv (.tmp 0)⟩,
     ⟨(some 14), none, .act, .nilCheck (.tmp 13)⟩,
     ⟨(some 15), none, .act, .fieldAddr 0 (.tmp 14)⟩,
     ⟨(some 16), none, .act, .load false 1 (.tmp 15)⟩,
     ⟨(some 17), none, .act, .mv (.tmp 1)⟩,
     ⟨(some 18), none, .act, .append 1 1 [(.int .u8 0)] (.tmp 16) (.tmp 17)⟩,
     ⟨(some 19), none, .act, .nilCheck (.tmp 12)⟩,
     ⟨(some 20), none, .act, .fieldAddr 0 (.tmp 19)⟩,
     ⟨none, none, .act, .store 1 (.tmp 20) (.tmp 18)⟩]))
   .skip))
theorem res82 : ∃ c, Try.f82.body = some c ∧ resCode Try.prog 21 c = some r82 := ⟨_, rfl, by kernel_rfl⟩
theorem rr82 : resRes Try.prog Try.f82.results.toList = some [] := by kernel_rfl
theorem wText_spec (b : List UInt8) (hb : b.length ≤ 100000000) (p : Nat) (h₀ h : AHeap) (acc : List UInt8) (hacc : acc.length ≤ 1000000) (hw : WAt h₀ p acc h) :
    ACalls Try.prog 82 [ptr p, bysC b .ro] h (fun _ h' => WAt h₀ p (acc ++ putText b) h') := by
  obtain ⟨c, hc1, hc2⟩ := res82
  refine ACalls.enter Try.func82 hc1 Try.ntmps82 hc2 (Nat.le_of_ble_eq_true rfl) rfl ?_
  have hlb : (Go.Av.byteCells b).length = b.length := by simp [Go.Av.byteCells]
  have hu : (UInt64.ofNat b.length).toNat = b.length := by simp; omega
  have hpl := putN_len (n := b.length) (by omega)
  repeat' (first | refine S.nilK ?_ | (refine S.op rfl ?_; first | refine S.convU (by rw [hlb]; omega) rfl ?_ | refine R.mv rfl ?_ | refine R.len rfl ?_ | refine R.eqPtrNil rfl rfl ?_ | refine R.buildSl rfl rfl rfl (by decide) ?_) | refine S.seq ?_ | refine S.region ?_ | refine S.condT rfl ?_)
  refine S.op rfl (R.call rfl rfl ((wN_full [UInt64.ofNat b.length] (by rw [hlb]; simp only [List.map_cons, List.map_nil, enc, Go.Av.u64, hu]; rfl) (by simp) hacc hw).mono ?_))
  intro x h' hw'
  have hpn : putNs [UInt64.ofNat b.length] = putN b.length := by
    simp only [putNs, List.flatMap_cons, List.flatMap_nil, List.append_nil, hu]
  rw [hpn] at hw'
  obtain ⟨c0, hp, ho, h0p, h0t, hpt, hb0⟩ := hw'
  repeat' (first | refine S.nilK ?_ | (refine S.op rfl ?_; first | refine R.mv rfl ?_ | refine R.fieldAddr rfl ?_ | refine R.nilCheck rfl ?_ | refine R.load (by decide) rfl (by (repeat' (first | assumption)); first | done | fail) rfl ?_) | refine S.region ?_)
  refine S.op rfl (S.wapp (ys := b) rfl hp ho h0p h0t hpt hb0 rfl rfl (.sl _ _) (by simp only [List.length_append]; omega) (fun c' h' hp' hw' => ?_))
  repeat' (first | refine S.nilK ?_ | (refine S.op rfl ?_; first | refine R.fieldAddr rfl ?_ | refine R.nilCheck rfl ?_) | (refine S.op0 rfl ?_; first | refine S.store rfl rfl (by (repeat' (first | assumption)); first | done | fail) rfl rfl rfl (by rfl) rfl ?_))
  apply S.done rr82
  case hx => repeat (first | exact ResAt.nil)
  show WAt h₀ p (acc ++ (putN b.length ++ b)) _
  rw [← List.append_assoc]
  exact hw'
def r39 : RCode :=
  (.seq (.region [
    ⟨(some 1), none, .act, .box (.tmp 0)⟩,
    ⟨(some 2), none, .act, .mv (.const (.slice none 0 0))⟩])
  (.seq (.region [
    ⟨(some 4), none, .act, .build [(.slice none 0 0)] []⟩,
    ⟨(some 5), none, .act, .box (.tmp 4)⟩,
    ⟨(some 3), none, .act, .mv (.tmp 5)⟩])
  (.seq (.region [
    ⟨(some 6), none, .act, .mv (.tmp 3)⟩,
    ⟨(some 7), none, .act, .fieldAddr 0 (.tmp 1)⟩,
    ⟨(some 8), none, .act, .load false 1 (.tmp 7)⟩,
    ⟨(some 9), none, .act, .fieldAddr 1 (.tmp 1)⟩,
    ⟨(some 10), none, .act, .load false 1 (.tmp 9)⟩,
    ⟨(some 11), none, .act, .buildSl 1 [(.int .u64 0)] 3 [(0, (.const (.int .u64 1))), (1, (.tmp 8)), (2, (.tmp 10))]⟩,
    ⟨(some 12), none, .act, .call 78 [(.tmp 6), (.tmp 11)]⟩])
  (.seq (.region [
    ⟨(some 13), none, .act, .mv (.tmp 3)⟩,
    ⟨(some 14), none, .act, .call 79 [(.tmp 13)]⟩,
    ⟨(some 2), none, .act, .mv (.tmp 14)⟩])
  .ret))))
theorem res39 : ∃ c, Try.f39.body = some c ∧ resCode Try.prog 15 c = some r39 := ⟨_, rfl, by kernel_rfl⟩
theorem rr39 : resRes Try.prog Try.f39.results.toList = some [.tmp 2] := by kernel_rfl
theorem putHard_spec (t v : UInt64) (h : AHeap) : ACalls Try.prog 39 [.ag [enc t, enc v]] h (fun x h' => x = bysC (putNs [1, t, v]) .ro ∧ h' = h) := by
  obtain ⟨c, hc1, hc2⟩ := res39
  refine ACalls.weak (ACalls.enter Try.func39 hc1 Try.ntmps39 hc2 (Nat.le_of_ble_eq_true rfl) rfl ?_)
  repeat' (first | refine S.nilK ?_ | (refine S.op rfl ?_; first | refine R.mv rfl ?_ | refine R.fieldAddr rfl ?_ | refine R.load (by decide) rfl (by (repeat' (first | exact AHeap.set_same _ _ _ | refine AHeap.get_fresh ‹_› ?_)); first | done | fail) rfl ?_ | refine R.box rfl rfl rfl (fun b hb => ?_) | refine R.build rfl rfl ?_ | refine R.buildSl rfl rfl rfl (by decide) ?_) | refine S.seq ?_ | refine S.region ?_)
  rename_i b1 hb1
  refine S.op rfl (R.call rfl rfl ((ACalls.subH (nil_le _ _) (wN_full [1, t, v] rfl (by simp) (by simp) (WAt.start hb))).mono ?_))
  intro x h' hw'
  obtain ⟨c0, hp, _⟩ := id hw'
  have hl : ([] ++ putNs [1, t, v]).length ≤ 10000000 := by
    have h1 := putN_len (UInt64.toNat_lt 1)
    have h2 := putN_len (UInt64.toNat_lt t)
    have h3 := putN_len (UInt64.toNat_lt v)
    simp only [putNs, List.flatMap_cons, List.flatMap_nil, List.append_nil, List.nil_append, List.length_append]
    omega
  repeat' (first | refine S.nilK ?_ | (refine S.op rfl ?_; first | refine callS rfl rfl (wBytes_spec b h' _ hl c0 hp) ?_ | refine R.mv rfl ?_) | refine S.seq ?_ | refine S.region ?_)
  apply S.ret rr39
  case hx => repeat (first | exact ResAt.nil | apply ResAt.tmp rfl)
  exact ⟨_, h, .refl _, fun x o e => hw'.le x o (AHeap.get_fresh hb1 e), rfl, rfl⟩
end Go.Proofs.Ytnmgamcmjjngcaa

namespace Go.Proofs.Ytnmgamcmjjngcaa
open Go.Av
theorem putNs_len : ∀ (l : List UInt64), (putNs l).length ≤ 10 * l.length
  | [] => by simp [putNs]
  | x :: l => by
    have h1 := putN_len (UInt64.toNat_lt x)
    have h2 := putNs_len l
    rw [show putNs (x :: l) = putN x.toNat ++ putNs l from rfl]
    simp only [List.length_append, List.length_cons]; omega
theorem putText_len {b : List UInt8} (hb : b.length ≤ 100000000) : (putText b).length ≤ 10 + b.length := by
  have := putN_len (n := b.length) (by omega)
  unfold putText; rw [List.length_append]; omega
def putE (e : Entry) : List UInt8 := putNs [2, e.index, e.term] ++ putNs [UInt64.ofNat (zig e.kind)] ++ putText e.data
def r41 : RCode :=
  (.seq (.region [
    ⟨(some 1), none, .act, .box (.tmp 0)⟩,
    ⟨(some 2), none, .act, .mv (.const (.slice none 0 0))⟩])
  (.seq (.region [
    ⟨(some 4), none, .act, .build [(.slice none 0 0)] []⟩,
    ⟨(some 5), none, .act, .box (.tmp 4)⟩,
    ⟨(some 3), none, .act, .mv (.tmp 5)⟩])
  (.seq (.region [
    ⟨(some 6), none, .act, .mv (.tmp 3)⟩,
    ⟨(some 7), none, .act, .fieldAddr 0 (.tmp 1)⟩,
    ⟨(some 8), none, .act, .load false 1 (.tmp 7)⟩,
    ⟨(some 9), none, .act, .fieldAddr 1 (.tmp 1)⟩,
    ⟨(some 10), none, .act, .load false 1 (.tmp 9)⟩,
    ⟨(some 11), none, .act, .buildSl 1 [(.int .u64 0)] 3 [(0, (.const (.int .u64 2))), (1, (.tmp 8)), (2, (.tmp 10))]⟩,
    ⟨(some 12), none, .act, .call 78 [(.tmp 6), (.tmp 11)]⟩])
  (.seq (.region [
    ⟨(some 13), none, .act, .mv (.tmp 3)⟩,
    ⟨(some 14), none, .act, .fieldAddr 2 (.tmp 1)⟩,
    ⟨(some 15), none, .act, .load false 1 (.tmp 14)⟩,
    ⟨(some 16), none, .act, .call 81 [(.tmp 13), (.tmp 15)]⟩])
  (.seq (.region [
    ⟨(some 17), none, .act, .mv (.tmp 3)⟩,
    ⟨(some 18), none, .act, .fieldAddr 3 (.tmp 1)⟩,
    ⟨(some 19), none, .act, .load false 1 (.tmp 18)⟩,
    ⟨(some 20), none, .act, .call 82 [(.tmp 17), (.tmp 19)]⟩])
  (.seq (.region [
    ⟨(some 21), none, .act, .mv (.tmp 3)⟩,
    ⟨(some 22), none, .act, .call 79 [(.tmp 21)]⟩,
    ⟨(some 2), none, .act, .mv (.tmp 22)⟩])
  .ret))))))
theorem res41 : ∃ c, Try.f41.body = some c ∧ resCode Try.prog 23 c = some r41 := ⟨_, rfl, by kernel_rfl⟩
theorem rr41 : resRes Try.prog Try.f41.results.toList = some [.tmp 2] := by kernel_rfl
theorem putEntry_spec (e : Entry) (hf : -9223372036854775808 ≤ e.kind ∧ e.kind ≤ 9223372036854775807) (hl : e.data.length ≤ 100000) (h : AHeap) : ACalls Try.prog 41 [.ag e.cells] h (fun x h' => x = bysC (putE e) .ro ∧ h' = h) := by
  obtain ⟨c, hc1, hc2⟩ := res41
  obtain ⟨ix, t, kind, data⟩ := e
  simp only at hf hl
  rw [show Entry.cells ⟨ix, t, kind, data⟩ = [enc ix, enc t, i64 kind, bysC data .ro] from rfl]
  refine ACalls.weak (ACalls.enter Try.func41 hc1 Try.ntmps41 hc2 (Nat.le_of_ble_eq_true rfl) rfl ?_)
  repeat' (first | refine S.nilK ?_ | (refine S.op rfl ?_; first | refine R.mv rfl ?_ | refine R.fieldAddr rfl ?_ | refine R.load (by decide) rfl (by (repeat' (first | exact AHeap.set_same _ _ _ | refine AHeap.get_fresh ‹_› ?_)); first | done | fail) rfl ?_ | refine R.box rfl rfl rfl (fun b hb => ?_) | refine R.build rfl rfl ?_ | refine R.buildSl rfl rfl rfl (by decide) ?_) | refine S.seq ?_ | refine S.region ?_)
  rename_i b1 hb1
  have hb1' : h b1 = none := hb1
  have hbb : b1 ≠ b := Ne.symm (AHeap.n1 hb)
  have h₁b1 : (h.set b1 (.box [enc ix, enc t, i64 kind, bysC data .ro])) b1 = some (.box [enc ix, enc t, i64 kind, bysC data .ro]) := AHeap.set_same _ _ _
  refine S.op rfl (R.call rfl rfl ((ACalls.subH (nil_le _ _) (wN_full [2, ix, t] rfl (by simp) (by simp) (WAt.start hb))).mono ?_))
  intro x h2 hw2
  have hq2 := hw2.keepBox h₁b1
  have l2 := putNs_len [2, ix, t]
  repeat' (first | refine S.nilK ?_ | (refine S.op rfl ?_; first | refine R.mv rfl ?_ | refine R.fieldAddr rfl ?_ | refine R.load (by decide) rfl (by (repeat' (first | assumption)); first | done | fail) rfl ?_) | refine S.seq ?_ | refine S.region ?_)
  refine S.op rfl (R.call rfl rfl ((wI_spec kind hf b _ h2 _ (by simp only [List.nil_append, List.length_cons, List.length_nil] at l2 ⊢; omega) hw2).mono ?_))
  intro x h3 hw3
  have hq3 := hw3.keepBox h₁b1
  have l3 := putNs_len [UInt64.ofNat (zig kind)]
  repeat' (first | refine S.nilK ?_ | (refine S.op rfl ?_; first | refine R.mv rfl ?_ | refine R.fieldAddr rfl ?_ | refine R.load (by decide) rfl (by (repeat' (first | assumption)); first | done | fail) rfl ?_) | refine S.seq ?_ | refine S.region ?_)
  refine S.op rfl (R.call rfl rfl ((wText_spec data (by omega) b _ h3 _ (by simp only [List.nil_append, List.length_append, List.length_cons, List.length_nil] at l2 l3 ⊢; omega) hw3).mono ?_))
  intro x h4 hw4
  obtain ⟨c0, hp, _⟩ := id hw4
  have l4 := putText_len (b := data) (by omega)
  repeat' (first | refine S.nilK ?_ | (refine S.op rfl ?_; first | refine callS rfl rfl (wBytes_spec b h4 _ (by simp only [List.nil_append, List.length_append, List.length_cons, List.length_nil] at l2 l3 ⊢; omega) c0 hp) ?_ | refine R.mv rfl ?_) | refine S.seq ?_ | refine S.region ?_)
  apply S.ret rr41
  case hx => repeat (first | exact ResAt.nil | apply ResAt.tmp rfl)
  exact ⟨_, h, .refl _, fun x o e => hw4.le x o (AHeap.get_fresh hb1 e), rfl, rfl⟩
theorem RRun.freezeU {P : Program} {ro : Option Nat} {n : Nat} {l : List (Nat × AV)} {h : AHeap} {Q : Option Code → AEnv → AHeap → Prop} {k : List RT} {t br cap len : Nat} {bs : List SE} {sp : List AV} (hlen0 : len = bs.length) (hl : Env.get l t = some (slAt br 0 len cap))
    (hrow : h br = some (.box (bs.map enc ++ sp))) (hc : bs.length ≤ cap) (hmax : cap ≤ maxLen) (H : RRunG P ro n k (Env.get ((t, u64s bs) :: l)) (h.del br) Q) : RRunG P ro n k (Env.get l) h Q := by
  subst hlen0
  intro todo ht ds a w hs b cs hb
  have hr := hs.rel
  have r1 := hr.del br
  have e1 := Evol.del h w br
  obtain ⟨y, hy, cc, tt, rfl, hvr⟩ := hr br _ hrow
  have hvr' := hvr.mono e1.stab
  have hflat : (bs.map fun x => [enc x]).flatten = bs.map enc := by
    clear hrow hvr hvr' hl H hc
    induction bs with
    | nil => rfl
    | cons a bs ih => simp [ih]
  have hfl : VRels (stab (h.del br) w) (bs.map fun x => [enc x]).flatten (cc.toList.take bs.length) := by
    have := hvr'.take bs.length
    rw [List.take_append_of_le_length (by simp), List.take_of_length_le (by simp)] at this
    rw [hflat]; exact this
  have hold : holdsAt (stab (h.del br) w) br 0 (cc.toList.take bs.length) := fun j v hj => by
    rw [List.getElem?_take] at hj
    split at hj
    · simp only [stab, AHeap.del_same]
      rw [cell_of_cells hy, Nat.zero_add]
      simpa using hj
    · cases hj
  have hlen : (bs.map fun x => [enc x]).length = bs.length := by simp
  have hnew : VRel (stab (h.del br) w) (u64s bs) (.slice (some ⟨br, 0, none⟩) bs.length cap) := by
    have := VRel.sl (st := stab (h.del br) w) 1 (bs.map fun x => [enc x]) .ro br 0 cap _ hfl hold (fun e he => by
      simp only [List.mem_map] at he
      obtain ⟨_, _, rfl⟩ := he; rfl) (by rw [hlen]; exact hc) hmax trivial
    rw [hlen] at this
    exact this
  have hs' : St n ds (Env.get ((t, u64s bs) :: l)) (h.del br) a w := ⟨hs.defers, hs.size, fun t' x hx => by
    by_cases he : t' = t
    · subst he
      obtain ⟨u, h1, h2⟩ := hs.env t' _ hl
      have hu := h2.inv_v
      subst hu
      have : x = u64s bs := by simpa [Env.get] using hx.symm
      subst this
      exact ⟨_, h1, hnew⟩
    · have hx' : Env.get l t' = some x := by
        simp only [Env.get] at hx
        have : Nat.beq t' t = false := by cases hb : Nat.beq t' t with | false => rfl | true => exact absurd (Nat.eq_of_beq_eq_true hb) he
        rwa [this] at hx
      obtain ⟨u, h1, h2⟩ := hs.env t' x hx'
      exact ⟨u, h1, h2.mono e1.stab⟩, r1⟩
  obtain ⟨a', w', t', j, E'', h'', ms, s, q1, q2, q3, q4, q5⟩ := H todo ht ds a w hs' b cs hb
  exact ⟨a', w', t', j, E'', h'', ms, s, q1, q2, q3, e1.trans q4, q5⟩
def mems (l : List UInt64) : List UInt64 := (dd (srt l)).take 9
def putM (l : List UInt64) : List UInt8 := putNs [UInt64.ofNat (mems l).length] ++ putNs (mems l)
def r45 : RCode :=
  (.seq (.region [
    ⟨(some 2), none, .act, .mv (.const (.slice none 0 0))⟩])
  (.seq (.region [
    ⟨(some 4), none, .act, .mv (.tmp 0)⟩,
    ⟨(some 5), none, .act, .call 87 [(.tmp 4)]⟩,
    ⟨(some 6), none, .act, .call 86 [(.tmp 5)]⟩,
    ⟨(some 7), none, .act, .call 85 [(.tmp 6)]⟩,
    ⟨(some 0), none, .act, .mv (.tmp 7)⟩])
  (.seq (.region [
    ⟨(some 8), none, .act, .mv (.tmp 0)⟩,
    ⟨(some 9), none, .act, .mv (.tmp 0)⟩,
    ⟨(some 10), none, .act, .len (.tmp 9)⟩,
    ⟨(some 11), none, .act, .minmax false [(.tmp 10), (.const (.int .i64 9))]⟩,
    ⟨(some 12), none, .act, .sliceSl 1 (.tmp 8) none (some (.tmp 11)) none⟩,
    ⟨(some 0), none, .act, .mv (.tmp 12)⟩])
  (.seq (.region [
    ⟨(some 13), none, .act, .build [(.slice none 0 0)] []⟩,
    ⟨(some 14), none, .act, .box (.tmp 13)⟩,
    ⟨(some 3), none, .act, .mv (.tmp 14)⟩])
  (.seq (.region [
    ⟨(some 15), none, .act, .mv (.tmp 3)⟩,
    ⟨(some 16), none, .act, .mv (.tmp 0)⟩,
    ⟨(some 17), none, .act, .len (.tmp 16)⟩,
    ⟨(some 18), none, .act, .convInt .u64 (.tmp 17)⟩,
    ⟨(some 19), none, .act, .buildSl 1 [(.int .u64 0)] 1 [(0, (.tmp 18))]⟩,
    ⟨(some 20), none, .act, .call 78 [(.tmp 15), (.tmp 19)]⟩])
  (.seq (.region [
    ⟨(some 21), none, .act, .mv (.tmp 3)⟩,
    ⟨(some 22), none, .act, .mv (.tmp 0)⟩,
    ⟨(some 23), none, .act, .call 78 [(.tmp 21), (.tmp 22)]⟩])
  (.seq (.region [
    ⟨(some 24), none, .act, .mv (.tmp 3)⟩,
    ⟨(some 25), none, .act, .call 79 [(.tmp 24)]⟩,
    ⟨(some 2), none, .act, .mv (.tmp 25)⟩])
  .ret)))))))
theorem res45 : ∃ c, Try.f45.body = some c ∧ resCode Try.prog 26 c = some r45 := ⟨_, rfl, by kernel_rfl⟩
theorem rr45 : resRes Try.prog Try.f45.results.toList = some [.tmp 2] := by kernel_rfl
def r45r : RCode :=
  (.seq (.region [
    ⟨(some 8), none, .act, .mv (.tmp 0)⟩,
    ⟨(some 9), none, .act, .mv (.tmp 0)⟩,
    ⟨(some 10), none, .act, .len (.tmp 9)⟩,
    ⟨(some 11), none, .act, .minmax false [(.tmp 10), (.const (.int .i64 9))]⟩,
    ⟨(some 12), none, .act, .sliceSl 1 (.tmp 8) none (some (.tmp 11)) none⟩,
    ⟨(some 0), none, .act, .mv (.tmp 12)⟩])
  (.seq (.region [
    ⟨(some 13), none, .act, .build [(.slice none 0 0)] []⟩,
    ⟨(some 14), none, .act, .box (.tmp 13)⟩,
    ⟨(some 3), none, .act, .mv (.tmp 14)⟩])
  (.seq (.region [
    ⟨(some 15), none, .act, .mv (.tmp 3)⟩,
    ⟨(some 16), none, .act, .mv (.tmp 0)⟩,
    ⟨(some 17), none, .act, .len (.tmp 16)⟩,
    ⟨(some 18), none, .act, .convInt .u64 (.tmp 17)⟩,
    ⟨(some 19), none, .act, .buildSl 1 [(.int .u64 0)] 1 [(0, (.tmp 18))]⟩,
    ⟨(some 20), none, .act, .call 78 [(.tmp 15), (.tmp 19)]⟩])
  (.seq (.region [
    ⟨(some 21), none, .act, .mv (.tmp 3)⟩,
    ⟨(some 22), none, .act, .mv (.tmp 0)⟩,
    ⟨(some 23), none, .act, .call 78 [(.tmp 21), (.tmp 22)]⟩])
  (.seq (.region [
    ⟨(some 24), none, .act, .mv (.tmp 3)⟩,
    ⟨(some 25), none, .act, .call 79 [(.tmp 24)]⟩,
    ⟨(some 2), none, .act, .mv (.tmp 25)⟩])
  .ret)))))
theorem pm_rest (D : List UInt64) (hD : D.length ≤ 49) (h : AHeap) :
    RRun Try.prog Try.f45 26 [.code r45r] (Env.get [(0, u64s D)]) h (Weak fun x h' => x = bysC (putNs [UInt64.ofNat (D.take 9).length] ++ putNs (D.take 9)) .ro ∧ h' = h) := by
  unfold r45r
  have hla : (D.map fun x => [enc x]).length = D.length := by simp
  have htk : (D.map fun x => [enc x]).take ((min D.length 9 : Nat) : Int).toNat = (D.take 9).map fun x => [enc x] := by
    have e : ((min D.length 9 : Nat) : Int).toNat = min D.length 9 := by omega
    rw [e, ← List.map_take]
    congr 1
    rcases Nat.le_total D.length 9 with hh | hh
    · rw [Nat.min_eq_left hh, List.take_of_length_le (Nat.le_refl _), List.take_of_length_le hh]
    · rw [Nat.min_eq_right hh]
  have hmin : minInt [9] ((D.map fun x => [enc x]).length : Int) = ((min D.length 9 : Nat) : Int) := by
    simp only [minInt, hla]
    split <;> omega
  repeat' (first | refine S.nilK ?_ | (refine S.op rfl ?_; first | refine S.minIs (r := ((min D.length 9 : Nat) : Int)) rfl hmin ?_ | refine S.sliceH rfl rfl (by omega) (by rw [hla]; omega) (by decide) ?_ | refine R.mv rfl ?_ | refine R.len rfl ?_ | refine R.convInt rfl ?_ | refine R.box rfl rfl rfl (fun b hb => ?_) | refine R.build rfl rfl ?_ | refine R.buildSl rfl rfl rfl (by decide) ?_) | refine S.seq ?_ | refine S.region ?_)
  rw [htk]
  have h9 : (D.take 9).length ≤ 9 := by simp; omega
  have hconv : IntKind.u64.wrap ((((D.take 9).map fun x => [enc x]).length : Nat) : Int) = ((UInt64.ofNat (D.take 9).length).toNat : Int) := by
    have e1 : ((D.take 9).map fun x => [enc x]).length = (D.take 9).length := by simp
    have e2 : (UInt64.ofNat (D.take 9).length).toNat = (D.take 9).length := by simp; omega
    rw [e1, e2]
    generalize (D.take 9).length = q at h9
    exact wrap_u64N (by omega)
  rw [hconv]
  generalize D.take 9 = M at h9
  refine S.op rfl (R.call rfl rfl ((ACalls.subH (nil_le _ _) (wN_full [UInt64.ofNat M.length] rfl (by simp) (by simp) (WAt.start hb))).mono ?_))
  intro x h2 hw2
  have l2 := putNs_len [UInt64.ofNat M.length]
  repeat' (first | refine S.nilK ?_ | (refine S.op rfl ?_; first | refine R.mv rfl ?_) | refine S.seq ?_ | refine S.region ?_)
  refine S.op rfl (R.call rfl rfl ((wN_spec M (by omega) b _ h2 _ (by simp only [List.nil_append, List.length_cons, List.length_nil] at l2 ⊢; omega) hw2).mono ?_))
  intro x h3 hw3
  obtain ⟨c0, hp, _⟩ := id hw3
  have l3 := putNs_len M
  repeat' (first | refine S.nilK ?_ | (refine S.op rfl ?_; first | refine callS rfl rfl (wBytes_spec b h3 _ (by simp only [List.nil_append, List.length_append, List.length_cons, List.length_nil] at l2 l3 ⊢; omega) c0 hp) ?_ | refine R.mv rfl ?_) | refine S.seq ?_ | refine S.region ?_)
  apply S.ret rr45
  case hx => repeat (first | exact ResAt.nil | apply ResAt.tmp rfl)
  exact ⟨_, h, .refl _, hw3.le, rfl, rfl⟩
theorem putMembers_spec (l : List UInt64) (hl : l.length ≤ 49) (h : AHeap) : ACalls Try.prog 45 [u64s l] h (fun x h' => x = bysC (putM l) .ro ∧ h' = h) := by
  obtain ⟨c, hc1, hc2⟩ := res45
  refine ACalls.weak (ACalls.enter Try.func45 hc1 Try.ntmps45 hc2 (Nat.le_of_ble_eq_true rfl) rfl ?_)
  have hdl : (dd (srt l)).length ≤ 49 := by
    have := dd_len (srt l)
    rw [srt_len] at this; omega
  have next := pm_rest (dd (srt l)) hdl h
  repeat' (first | refine S.nilK ?_ | (refine S.op rfl ?_; first | refine R.mv rfl ?_) | refine S.seq ?_ | refine S.region ?_)
  refine S.op rfl (R.call rfl rfl ((values_fn l h).mono ?_))
  rintro x h1 ⟨q, hq, rfl, rfl⟩
  repeat' (fail)
  refine S.op rfl (R.call rfl rfl ((sorted_spec l hl q _ (AHeap.set_same _ _ _)).mono ?_))
  rintro x h2 ⟨B, g1, g2, g3⟩
  repeat' (fail)
  refine S.op rfl (R.call rfl rfl ((compactS_spec (srt l) (by rw [srt_len]; omega) x B h2 g1).mono ?_))
  rintro y h3 ⟨k1, k2⟩
  have hle : h.le h3 := fun z o e => by
    have hz : h2 z = some o := g2 z o (AHeap.get_fresh hq e)
    have hB : ¬ B z := fun hb => by have := g3 z hb; rw [AHeap.get_fresh hq e] at this; cases this
    exact ⟨o, by rw [k2 z hB]; exact hz, .refl o⟩
  rcases k1 with ⟨e1, rfl, _⟩ | ⟨b, cap, sp, rfl, e2, e3, e4, e5, e6⟩
  · rw [e1] at next
    have hm : mems l = List.take 9 [] := by unfold mems; rw [e1]
    unfold putM
    rw [hm]
    repeat' (first | ((show RRun _ _ _ (.code r45r :: _) _ _ _; exact RRun.sub hle (S.keep [0] rfl (RRun.envs (.cons 0 (.nilSl 1 (c := .ro) trivial) .nil) next)))) | (refine S.op rfl ?_; first | refine R.mv rfl ?_))
  · have hb : h b = none := by
      have := g3 b ((e6 b).2 rfl)
      exact (AHeap.fresh_set this).2
    have hle2 : h.le (h3.del b) := hle.del hb
    repeat' (first | ((show RRun _ _ _ (.code r45r :: _) _ _ _; exact S.keep [0] rfl (RRun.freezeU (t := 0) (bs := dd (srt l)) rfl rfl e2 (by omega) e4 (RRun.sub hle2 (S.keep [0] rfl next))))) | (refine S.op rfl ?_; first | refine R.mv rfl ?_))
end Go.Proofs.Ytnmgamcmjjngcaa

namespace Go.Proofs.Ytnmgamcmjjngcaa
open Go.Av
def putS (s : Snap) : List UInt8 := putNs [3, s.index, s.term] ++ putText (putM s.members) ++ putText s.data
theorem putM_len {l : List UInt64} : (putM l).length ≤ 100 := by
  have h1 := putNs_len [UInt64.ofNat (mems l).length]
  have h2 := putNs_len (mems l)
  have h3 : (mems l).length ≤ 9 := by unfold mems; simp; omega
  unfold putM
  simp only [List.length_append, List.length_cons, List.length_nil] at h1 h2 ⊢
  omega
def r43 : RCode :=
  (.seq (.region [
    ⟨(some 1), none, .act, .box (.tmp 0)⟩,
    ⟨(some 2), none, .act, .mv (.const (.slice none 0 0))⟩])
  (.seq (.region [
    ⟨(some 4), none, .act, .build [(.slice none 0 0)] []⟩,
    ⟨(some 5), none, .act, .box (.tmp 4)⟩,
    ⟨(some 3), none, .act, .mv (.tmp 5)⟩])
  (.seq (.region [
    ⟨(some 6), none, .act, .mv (.tmp 3)⟩,
    ⟨(some 7), none, .act, .fieldAddr 0 (.tmp 1)⟩,
    ⟨(some 8), none, .act, .load false 1 (.tmp 7)⟩,
    ⟨(some 9), none, .act, .fieldAddr 1 (.tmp 1)⟩,
    ⟨(some 10), none, .act, .load false 1 (.tmp 9)⟩,
    ⟨(some 11), none, .act, .buildSl 1 [(.int .u64 0)] 3 [(0, (.const (.int .u64 3))), (1, (.tmp 8)), (2, (.tmp 10))]⟩,
    ⟨(some 12), none, .act, .call 78 [(.tmp 6), (.tmp 11)]⟩])
  (.seq (.region [
    ⟨(some 13), none, .act, .mv (.tmp 3)⟩,
    ⟨(some 14), none, .act, .fieldAddr 2 (.tmp 1)⟩,
    ⟨(some 15), none, .act, .load false 1 (.tmp 14)⟩,
    ⟨(some 16), none, .act, .call 45 [(.tmp 15)]⟩,
    ⟨(some 17), none, .act, .call 82 [(.tmp 13), (.tmp 16)]⟩])
  (.seq (.region [
    ⟨(some 18), none, .act, .mv (.tmp 3)⟩,
    ⟨(some 19), none, .act, .fieldAddr 3 (.tmp 1)⟩,
    ⟨(some 20), none, .act, .load false 1 (.tmp 19)⟩,
    ⟨(some 21), none, .act, .call 82 [(.tmp 18), (.tmp 20)]⟩])
  (.seq (.region [
    ⟨(some 22), none, .act, .mv (.tmp 3)⟩,
    ⟨(some 23), none, .act, .call 79 [(.tmp 22)]⟩,
    ⟨(some 2), none, .act, .mv (.tmp 23)⟩])
  .ret))))))
theorem res43 : ∃ c, Try.f43.body = some c ∧ resCode Try.prog 24 c = some r43 := ⟨_, rfl, by kernel_rfl⟩
theorem rr43 : resRes Try.prog Try.f43.results.toList = some [.tmp 2] := by kernel_rfl
theorem putSnap_spec (s : Snap) (hm : s.members.length ≤ 49) (hl : s.data.length ≤ 100000) (h : AHeap) : ACalls Try.prog 43 [.ag s.cells] h (fun x h' => x = bysC (putS s) .ro ∧ h' = h) := by
  obtain ⟨c, hc1, hc2⟩ := res43
  obtain ⟨ix, t, ms, data⟩ := s
  simp only at hm hl
  rw [show Snap.cells ⟨ix, t, ms, data⟩ = [enc ix, enc t, u64s ms, bysC data .ro] from rfl]
  refine ACalls.weak (ACalls.enter Try.func43 hc1 Try.ntmps43 hc2 (Nat.le_of_ble_eq_true rfl) rfl ?_)
  repeat' (first | refine S.nilK ?_ | (refine S.op rfl ?_; first | refine R.mv rfl ?_ | refine R.fieldAddr rfl ?_ | refine R.load (by decide) rfl (by (repeat' (first | exact AHeap.set_same _ _ _ | refine AHeap.get_fresh ‹_› ?_)); first | done | fail) rfl ?_ | refine R.box rfl rfl rfl (fun b hb => ?_) | refine R.build rfl rfl ?_ | refine R.buildSl rfl rfl rfl (by decide) ?_) | refine S.seq ?_ | refine S.region ?_)
  rename_i b1 hb1
  have h₁b1 : (h.set b1 (.box [enc ix, enc t, u64s ms, bysC data .ro])) b1 = some (.box [enc ix, enc t, u64s ms, bysC data .ro]) := AHeap.set_same _ _ _
  refine S.op rfl (R.call rfl rfl ((ACalls.subH (nil_le _ _) (wN_full [3, ix, t] rfl (by simp) (by simp) (WAt.start hb))).mono ?_))
  intro x h2 hw2
  have hq2 := hw2.keepBox h₁b1
  have l2 := putNs_len [3, ix, t]
  have l3 := putM_len (l := ms)
  have l3' := putText_len (b := putM ms) (by omega)
  have l4 := putText_len (b := data) (by omega)
  repeat' (first | refine S.nilK ?_ | (refine S.op rfl ?_; first | refine callS rfl rfl (putMembers_spec ms hm _) ?_ | refine R.mv rfl ?_ | refine R.fieldAddr rfl ?_ | refine R.load (by decide) rfl (by (repeat' (first | assumption)); first | done | fail) rfl ?_) | refine S.seq ?_ | refine S.region ?_)
  refine S.op rfl (R.call rfl rfl ((wText_spec (putM ms) (by omega) b _ h2 _ (by simp only [List.nil_append, List.length_cons, List.length_nil] at l2 ⊢; omega) hw2).mono ?_))
  intro x h3 hw3
  have hq3 := hw3.keepBox h₁b1
  repeat' (first | refine S.nilK ?_ | (refine S.op rfl ?_; first | refine R.mv rfl ?_ | refine R.fieldAddr rfl ?_ | refine R.load (by decide) rfl (by (repeat' (first | assumption)); first | done | fail) rfl ?_) | refine S.seq ?_ | refine S.region ?_)
  refine S.op rfl (R.call rfl rfl ((wText_spec data (by omega) b _ h3 _ (by simp only [List.nil_append, List.length_append, List.length_cons, List.length_nil] at l2 ⊢; omega) hw3).mono ?_))
  intro x h4 hw4
  obtain ⟨c0, hp, _⟩ := id hw4
  repeat' (first | refine S.nilK ?_ | (refine S.op rfl ?_; first | refine callS rfl rfl (wBytes_spec b h4 _ (by simp only [List.nil_append, List.length_append, List.length_cons, List.length_nil] at l2 ⊢; omega) c0 hp) ?_ | refine R.mv rfl ?_) | refine S.seq ?_ | refine S.region ?_)
  apply S.ret rr43
  case hx => repeat (first | exact ResAt.nil | apply ResAt.tmp rfl)
  exact ⟨_, h, .refl _, fun x o e => hw4.le x o (AHeap.get_fresh hb1 e), rfl, rfl⟩
section
variable {P : Program} {c : Cls} {E : AEnv} {h : AHeap} {K : AV → AHeap → Prop}
theorem S.remU {x : Operand} {n : Nat} (hx : aev E x = some (.v (.int .u64 (n : Int)))) (hk : K (.v (.int .u64 ((n % 128 : Nat) : Int))) h) : ROpS P c (.bin .rem x (.const (.int .u64 128))) E h K :=
  R.bin hx rfl (show binInt .rem .u64 (n : Int) 128 = some (.int .u64 ((n % 128 : Nat) : Int)) from rfl) hk
theorem S.quoU {x : Operand} {n : Nat} (hn : n < 18446744073709551616) (hx : aev E x = some (.v (.int .u64 (n : Int)))) (hk : K (.v (.int .u64 ((n / 128 : Nat) : Int))) h) : ROpS P c (.bin .quo x (.const (.int .u64 128))) E h K :=
  R.bin hx rfl (show binInt .quo .u64 (n : Int) 128 = some (.int .u64 ((n / 128 : Nat) : Int)) by
    show some (Value.int .u64 (IntKind.u64.wrap ((n : Int).tdiv 128))) = _
    have e : ((n : Int).tdiv 128) = ((n / 128 : Nat) : Int) := rfl
    rw [e, wrap_u64N (by omega)]) hk
theorem S.byteU {x : Operand} {n : Nat} {k : IntKind} (hn : n < 256) (hx : aev E x = some (.v (.int k (n : Int)))) (hk : K (.v (.int .u8 ((UInt8.ofNat n).toNat : Int))) h) : ROpS P c (.convInt .u8 x) E h K := by
  refine R.convInt hx ?_
  have e : (UInt8.ofNat n).toNat = n := by simp; omega
  rw [e] at hk
  rw [wrap_u8N hn]; exact hk
theorem S.add128 {x : Operand} {n : Nat} (hn : n < 128) (hx : aev E x = some (.v (.int .u8 ((UInt8.ofNat n).toNat : Int)))) (hk : K (.v (.int .u8 ((UInt8.ofNat (n + 128)).toNat : Int))) h) : ROpS P c (.bin .add x (.const (.int .u8 128))) E h K := by
  refine R.bin hx rfl rfl ?_
  have e : (UInt8.ofNat n).toNat = n := by simp; omega
  have e2 : (UInt8.ofNat (n + 128)).toNat = n + 128 := by simp; omega
  rw [e2] at hk
  rw [e, show ((n : Nat) : Int) + 128 = ((n + 128 : Nat) : Int) by omega, wrap_u8N (by omega)]; exact hk
end
def r80l0 : RCode :=
  (.seq (.seq (.region [
    ⟨(some 12), none, .act, .mv (.tmp 1)⟩,
    ⟨(some 13), none, .act, .bin .gtr (.tmp 12) (.const (.int .u64 0))⟩])
  (.cond (.tmp 13)
   .skip
   (.exit 0)))
  (.seq (.block 1
   (.region [
     ⟨(some 16), none, .act, .mv (.tmp 1)⟩,
     ⟨(some 17), none, .act, .bin .rem (.tmp 16) (.const (.int .u64 128))⟩,
     ⟨(some 18), none, .act, .convInt .u8 (.tmp 17)⟩,
     ⟨(some 19), none, .act, .bin .add (.tmp 18) (.const (.int .u8 128))⟩,
     ⟨(some 20), none, .act, .buildSl 1 [(.int .u8 0)] 1 [(0, (.tmp 19))]⟩,
     ⟨(some 21), none, .act, .mv (.tmp 5)⟩,
     ⟨(some 22), none, .act, .append 1 1 [(.int .u8 0)] (.tmp 20) (.tmp 21)⟩,
     ⟨(some 5), none, .act, .mv (.tmp 22)⟩]))
  (.region [
    ⟨(some 14), none, .act, .mv (.tmp 1)⟩,
    ⟨(some 15), none, .act, .bin .quo (.tmp 14) (.const (.int .u64 128))⟩,
    ⟨(some 1), none, .act, .mv (.tmp 15)⟩])))
def r80 : RCode :=
  (.seq (.region [
    ⟨(some 4), none, .act, .mv (.const (.slice none 0 0))⟩])
  (.seq (.region [
    ⟨(some 6), none, .act, .mv (.tmp 1)⟩,
    ⟨(some 7), none, .act, .bin .rem (.tmp 6) (.const (.int .u64 128))⟩,
    ⟨(some 8), none, .act, .convInt .u8 (.tmp 7)⟩,
    ⟨(some 9), none, .act, .buildSl 1 [(.int .u8 0)] 1 [(0, (.tmp 8))]⟩,
    ⟨(some 5), none, .act, .mv (.tmp 9)⟩])
  (.seq (.seq (.region [
    ⟨(some 10), none, .act, .mv (.tmp 1)⟩,
    ⟨(some 11), none, .act, .bin .quo (.tmp 10) (.const (.int .u64 128))⟩,
    ⟨(some 1), none, .act, .mv (.tmp 11)⟩])
  (.block 0
   (.loop r80l0)))
  (.seq (.region [
    ⟨(some 23), none, .act, .mv (.tmp 0)⟩,
    ⟨(some 24), none, .act, .append 1 1 [(.int .u8 0)] (.const (.slice none 0 0)) (.tmp 23)⟩,
    ⟨(some 25), none, .act, .mv (.tmp 5)⟩,
    ⟨(some 26), none, .act, .append 1 1 [(.int .u8 0)] (.tmp 24) (.tmp 25)⟩,
    ⟨(some 4), none, .act, .mv (.tmp 26)⟩])
  .ret))))
theorem res80 : ∃ c, Try.f80.body = some c ∧ resCode Try.prog 27 c = some r80 := ⟨_, rfl, by kernel_rfl⟩
theorem rr80 : resRes Try.prog Try.f80.results.toList = some [.tmp 4] := by kernel_rfl
theorem refN_loop (bsv : AV) (h₀ : AHeap) (k : List RT) (Q : AV → AHeap → Prop) (tot : List UInt8) (htl : tot.length ≤ 100)
    (hk : ∀ h, h₀.le h → RRun Try.prog Try.f80 27 k (Env.get [(0, bsv), (5, bysC tot .ro)]) h Q) : ∀ (f m : Nat) (part : List UInt8) (h : AHeap), m < f → m < 18446744073709551616 → hiB m ++ part = tot → h₀.le h →
    RRun Try.prog Try.f80 27 (.inLoop r80l0 :: .inBlock 0 :: k) (Env.get [(0, bsv), (1, .v (.int .u64 (m : Int))), (5, bysC part .ro)]) h Q := by
  intro f
  induction f with
  | zero => intro m part h hm; omega
  | succ f ih =>
    intro m part h hf hm ht hle
    by_cases h0 : m = 0
    · subst h0
      rw [hiB_zero, List.nil_append] at ht
      subst ht
      refine RRun.inLoop ?_
      repeat' (first | refine S.nilK ?_ | (refine S.op rfl ?_; first | refine R.mv rfl ?_ | ((first | refine S.gtr rfl rfl ?_ ?_) <;> intro hlt <;> try (exfalso; omega))) | refine S.seq ?_ | refine S.region ?_ | refine S.condF rfl ?_ | refine RRun.exit rfl ?_)
      exact S.keep [0, 5] rfl (hk h hle)
    · rw [hiB_pos h0, List.append_assoc] at ht
      have hmod : m % 128 < 128 := Nat.mod_lt _ (by decide)
      have hpl : part.length ≤ 100 := by
        have := congrArg List.length ht
        simp only [List.length_append] at this; omega
      refine RRun.inLoop ?_
      repeat' (first | refine S.nilK ?_ | (refine S.op rfl ?_; first | refine S.remU rfl ?_ | refine S.byteU (by omega) rfl ?_ | refine S.add128 hmod rfl ?_ | refine R.mv rfl ?_ | refine R.buildSl rfl rfl rfl (by decide) ?_ | ((first | refine S.gtr rfl rfl ?_ ?_) <;> intro hlt <;> try (exfalso; omega))) | refine S.seq ?_ | refine S.region ?_ | refine S.condT rfl ?_ | refine RRun.skip ?_ | refine RRun.block ?_)
      refine S.op rfl (S.appendG (h₀ := h₀) (c0 := .full) (xs := Go.Av.byteCells [UInt8.ofNat (m % 128 + 128)]) (ys := Go.Av.byteCells part) rfl (.of_le hle) rfl (.sl _ _) rfl (.sl _ _) (one_bytes part) (by simp [Go.Av.byteCells]; omega) (by simp [Go.Av.byteCells]; omega) (fun c' h' g1 _ => ?_))
      repeat' (first | refine S.nilK ?_ | (refine S.op rfl ?_; first | refine S.quoU hm rfl ?_ | refine R.mv rfl ?_) | refine S.region ?_ | refine RRun.inBlock ?_)
      refine S.keep [0, 1, 5] rfl (RRun.envs (.cons 0 (.refl _) (.cons 1 (.refl _) (.cons 5 (.toRo _ _ _) .nil))) ?_)
      have e : Go.Av.byteCells [UInt8.ofNat (m % 128 + 128)] ++ Go.Av.byteCells part = Go.Av.byteCells ([UInt8.ofNat (m % 128 + 128)] ++ part) := by simp [Go.Av.byteCells]
      rw [e]
      exact ih (m / 128) _ h' (by omega) (by omega) ht g1.le
theorem refN_own (b : List UInt8) (hb : b.length ≤ 1000000) (n : UInt64) (h : AHeap) : ACalls Try.prog 80 [bysC b .ro, enc n] h (fun x h' => ∃ c', x = bysC (b ++ putN n.toNat) c' ∧ Grow h h' c') := by
  obtain ⟨c, hc1, hc2⟩ := res80
  refine ACalls.enter Try.func80 hc1 Try.ntmps80 hc2 (Nat.le_of_ble_eq_true rfl) rfl ?_
  have hn := UInt64.toNat_lt n
  have hpl := putN_len hn
  have hmod : n.toNat % 128 < 128 := Nat.mod_lt _ (by decide)
  repeat' (first | refine S.nilK ?_ | (refine S.op rfl ?_; first | refine S.remU rfl ?_ | refine S.byteU (by omega) rfl ?_ | refine S.quoU hn rfl ?_ | refine R.mv rfl ?_ | refine R.buildSl rfl rfl rfl (by decide) ?_) | refine S.seq ?_ | refine S.region ?_ | refine RRun.block ?_)
  refine RRun.loopIn (S.keep [0, 1, 5] rfl (RRun.envs (.cons 0 (.refl _) (.cons 1 (.refl _) (.cons 5 (.toRo 1 (Go.Av.byteCells [UInt8.ofNat (n.toNat % 128)]) .full) .nil))) (refN_loop (bysC b .ro) h _ _ (putN n.toNat) (by omega) (fun h1 hle => ?_) (n.toNat + 1) (n.toNat / 128) [UInt8.ofNat (n.toNat % 128)] h (by omega) (by omega) rfl (.refl _))))
  repeat' (first | (refine S.op rfl ?_; first | refine R.mv rfl ?_) | refine S.seq ?_ | refine S.region ?_)
  refine S.op rfl (S.appendG (h₀ := h) (ys := Go.Av.byteCells b) rfl (.of_le hle) rfl .nil rfl (.sl _ _) (one_bytes b) (by simp [Go.Av.byteCells]; omega) (by simp [Go.Av.byteCells]; omega) (fun c2 h2 g2 _ => ?_))
  repeat' (first | (refine S.op rfl ?_; first | refine R.mv rfl ?_))
  refine S.op rfl (S.appendG (h₀ := h) (ys := Go.Av.byteCells (putN n.toNat)) rfl g2 rfl (.sl _ _) rfl (.sl _ _) (one_bytes _) (by simp [Go.Av.byteCells]; omega) (by simp [Go.Av.byteCells]; omega) (fun c3 h3 g3 _ => ?_))
  repeat' (first | refine S.nilK ?_ | (refine S.op rfl ?_; first | refine R.mv rfl ?_))
  apply S.ret rr80
  case hx => repeat (first | exact ResAt.nil | apply ResAt.tmp rfl)
  have e : [] ++ Go.Av.byteCells b ++ Go.Av.byteCells (putN n.toNat) = Go.Av.byteCells (b ++ putN n.toNat) := by simp [Go.Av.byteCells]
  rw [e]
  exact ⟨c3, rfl, g3⟩
theorem refN_spec (b : List UInt8) (hb : b.length ≤ 1000000) (n : UInt64) (h : AHeap) : ACalls Try.prog 80 [bysC b .ro, enc n] h (fun x h' => x = bysC (b ++ putN n.toNat) .ro ∧ h' = h) :=
  ACalls.weak ((refN_own b hb n h).mono fun x h' ⟨c', e, g⟩ => ⟨_, h, e ▸ ALe.toRo _ _ _, g.le, rfl, rfl⟩)
theorem refN_nil (n : UInt64) (h : AHeap) : ACalls Try.prog 80 [.v (.slice none 0 0), enc n] h (fun x h' => x = bysC (putN n.toNat) .ro ∧ h' = h) :=
  ACalls.args (refN_spec [] (by simp) n h) (.cons (.nilSl 1 (c := .ro) trivial) (.cons (.refl _) .nil))
end Go.Proofs.Ytnmgamcmjjngcaa

namespace Go.Proofs.Ytnmgamcmjjngcaa
open Go.Av
def Log.cellsC (L : Log) (es : List Entry) (c : Cap) : List AV := [u64 L.s.index, u64 L.s.term, u64s L.s.members, bys L.s.data, .sl 4 (es.map Entry.cells) c, u64 L.dirty, bl L.fresh]
theorem Entry.one (e : Entry) : ∀ z ∈ [e.cells], ∀ a ∈ z, a.one = true := by
  intro z hz a ha
  simp only [List.mem_singleton] at hz
  subst hz
  simp only [Entry.cells, List.mem_cons, List.not_mem_nil, or_false] at ha
  rcases ha with rfl | rfl | rfl | rfl <;> rfl
theorem take_succ_map (xs e : List Entry) (i : Nat) (h : i < e.length) : (xs ++ e.take i).map Entry.cells ++ [e[i].cells] = (xs ++ e.take (i + 1)).map Entry.cells := by
  rw [List.take_succ_eq_append_getElem h, ← List.append_assoc, List.map_append (l₁ := xs ++ _)]; rfl
def r14l0 : RCode :=
  (.seq (.region [
    ⟨(some 54), none, .act, .bin .lss (.tmp 53) (.tmp 52)⟩])
  (.seq (.cond (.tmp 54)
   .skip
   (.exit 0))
  (.seq (.block 1
   (.seq (.region [
     ⟨(some 55), none, .act, .indexAddr 4 (.tmp 51) (.tmp 53)⟩,
     ⟨(some 56), none, .act, .load true 4 (.tmp 55)⟩,
     ⟨(some 8), none, .act, .alloc [(.int .u64 0), (.int .u64 0), (.int .i64 0), (.slice none 0 0)]⟩,
     ⟨none, none, .act, .store 4 (.tmp 8) (.tmp 56)⟩])
   (.region [
     ⟨(some 57), none, .pure, .mv (.tmp 0)⟩,
     ⟨(some 58), none, .pure, .mv (.tmp 0)⟩,
     ⟨(some 59), none, .pure, .nilCheck (.tmp 58)⟩,
     ⟨(some 60), none, .pure, .fieldAddr 4 (.tmp 59)⟩,
     ⟨(some 61), none, .read, .load false 1 (.tmp 60)⟩,
     ⟨(some 62), none, .read, .load true 4 (.tmp 8)⟩,
     ⟨(some 63), none, .read, .call 53 [(.tmp 62)]⟩,
     ⟨(some 64), none, .pure, .buildSl 4 [(.int .u64 0), (.int .u64 0), (.int .i64 0), (.slice none 0 0)] 1 [(0, (.tmp 63))]⟩,
     ⟨(some 65), none, .act, .append 4 48 [(.int .u64 0), (.int .u64 0), (.int .i64 0), (.slice none 0 0)] (.tmp 61) (.tmp 64)⟩,
     ⟨(some 66), none, .pure, .nilCheck (.tmp 57)⟩,
     ⟨(some 67), none, .pure, .fieldAddr 4 (.tmp 66)⟩,
     ⟨none, none, .act, .store 1 (.tmp 67) (.tmp 65)⟩])))
  (.region [
    ⟨(some 68), none, .act, .bin .add (.tmp 53) (.const (.int .i64 1))⟩,
    ⟨(some 53), none, .act, .mv (.tmp 68)⟩]))))
def r14 : RCode :=
  (.seq (.region [
    ⟨(some 4), none, .act, .mv (.const (.int .i64 0))⟩])
  (.seq (.seq (.region [
    ⟨(some 9), none, .act, .mv (.tmp 1)⟩,
    ⟨(some 10), none, .act, .len (.tmp 9)⟩,
    ⟨(some 11), none, .act, .eq false .int (.tmp 10) (.const (.int .i64 0))⟩])
  (.cond (.tmp 11)
   (.seq (.region [
     ⟨(some 4), none, .act, .mv (.const (.int .i64 0))⟩])
   .ret)
   .skip))
  (.seq (.region [
    ⟨(some 12), none, .act, .mv (.tmp 1)⟩,
    ⟨(some 13), none, .act, .indexAddr 4 (.tmp 12) (.const (.int .i64 0))⟩,
    ⟨(some 14), none, .act, .fieldAddr 0 (.tmp 13)⟩,
    ⟨(some 15), none, .act, .load false 1 (.tmp 14)⟩,
    ⟨(some 5), none, .act, .mv (.tmp 15)⟩])
  (.seq (.seq (.region [
    ⟨(some 16), none, .act, .mv (.tmp 0)⟩,
    ⟨(some 17), none, .act, .eq false .ptr (.tmp 16) (.const (.pointer none))⟩,
    ⟨(some 18), none, .act, .mv (.tmp 17)⟩,
    ⟨(some 19), (some (18, false)), .act, .mv (.tmp 1)⟩,
    ⟨(some 20), (some (18, false)), .act, .call 52 [(.tmp 19)]⟩,
    ⟨(some 21), (some (18, false)), .act, .un .not (.tmp 20)⟩,
    ⟨(some 22), none, .act, .pick (.tmp 18) (.const (.bool true)) (.tmp 21)⟩,
    ⟨(some 23), none, .act, .mv (.tmp 22)⟩,
    ⟨(some 24), (some (23, false)), .act, .mv (.tmp 5)⟩,
    ⟨(some 25), (some (23, false)), .act, .mv (.tmp 0)⟩,
    ⟨(some 26), (some (23, false)), .act, .call 16 [(.tmp 25)]⟩,
    ⟨(some 27), (some (23, false)), .act, .bin .lss (.tmp 24) (.tmp 26)⟩,
    ⟨(some 28), none, .act, .pick (.tmp 23) (.const (.bool true)) (.tmp 27)⟩,
    ⟨(some 29), none, .act, .mv (.tmp 28)⟩,
    ⟨(some 30), (some (29, false)), .act, .mv (.tmp 5)⟩,
    ⟨(some 31), (some (29, false)), .act, .bin .sub (.tmp 30) (.const (.int .u64 1))⟩,
    ⟨(some 32), (some (29, false)), .act, .mv (.tmp 0)⟩,
    ⟨(some 33), (some (29, false)), .act, .call 50 [(.tmp 32)]⟩,
    ⟨(some 34), (some (29, false)), .act, .bin .gtr (.tmp 31) (.tmp 33)⟩,
    ⟨(some 35), none, .act, .pick (.tmp 29) (.const (.bool true)) (.tmp 34)⟩])
  (.cond (.tmp 35)
   (.seq (.region [
     ⟨(some 4), none, .act, .mv (.const (.int .i64 80))⟩])
   .ret)
   .skip))
  (.seq (.region [
    ⟨(some 36), none, .act, .mv (.tmp 5)⟩,
    ⟨(some 37), none, .act, .mv (.tmp 0)⟩,
    ⟨(some 38), none, .act, .call 16 [(.tmp 37)]⟩,
    ⟨(some 39), none, .act, .bin .sub (.tmp 36) (.tmp 38)⟩,
    ⟨(some 40), none, .act, .convInt .i64 (.tmp 39)⟩,
    ⟨(some 6), none, .act, .mv (.tmp 40)⟩])
  (.seq (.region [
    ⟨(some 41), none, .act, .mv (.tmp 0)⟩,
    ⟨(some 42), none, .act, .mv (.tmp 0)⟩,
    ⟨(some 43), none, .act, .nilCheck (.tmp 42)⟩,
    ⟨(some 44), none, .act, .fieldAddr 4 (.tmp 43)⟩,
    ⟨(some 45), none, .act, .load false 1 (.tmp 44)⟩,
    ⟨(some 46), none, .act, .mv (.tmp 6)⟩,
    ⟨(some 47), none, .act, .mv (.tmp 6)⟩,
    ⟨(some 48), none, .act, .sliceSl 4 (.tmp 45) none (some (.tmp 46)) (some (.tmp 47))⟩,
    ⟨(some 49), none, .act, .nilCheck (.tmp 41)⟩,
    ⟨(some 50), none, .act, .fieldAddr 4 (.tmp 49)⟩,
    ⟨none, none, .act, .store 1 (.tmp 50) (.tmp 48)⟩])
  (.seq (.seq (.region [
    ⟨(some 51), none, .act, .mv (.tmp 1)⟩,
    ⟨(some 52), none, .act, .len (.tmp 51)⟩,
    ⟨(some 53), none, .act, .mv (.const (.int .i64 0))⟩])
  (.block 0
   (.loop r14l0)))
  (.seq (.seq (.region [
    ⟨(some 69), none, .act, .mv (.tmp 0)⟩,
    ⟨(some 70), none, .act, .nilCheck (.tmp 69)⟩,
    ⟨(some 71), none, .act, .fieldAddr 5 (.tmp 70)⟩,
    ⟨(some 72), none, .act, .load false 1 (.tmp 71)⟩,
    ⟨(some 73), none, .act, .eq false .int (.tmp 72) (.const (.int .u64 0))⟩,
    ⟨(some 74), none, .act, .mv (.tmp 73)⟩,
    ⟨(some 75), (some (74, false)), .act, .mv (.tmp 5)⟩,
    ⟨(some 76), (some (74, false)), .act, .mv (.tmp 0)⟩,
    ⟨(some 77), (some (74, false)), .act, .nilCheck (.tmp 76)⟩,
    ⟨(some 78), (some (74, false)), .act, .fieldAddr 5 (.tmp 77)⟩,
    ⟨(some 79), (some (74, false)), .act, .load false 1 (.tmp 78)⟩,
    ⟨(some 80), (some (74, false)), .act, .bin .lss (.tmp 75) (.tmp 79)⟩,
    ⟨(some 81), none, .act, .pick (.tmp 74) (.const (.bool true)) (.tmp 80)⟩])
  (.cond (.tmp 81)
   (.region [
     ⟨(some 82), none, .act, .mv (.tmp 0)⟩,
     ⟨(some 83), none, .act, .mv (.tmp 5)⟩,
     ⟨(some 84), none, .act, .nilCheck (.tmp 82)⟩,
     ⟨(some 85), none, .act, .fieldAddr 5 (.tmp 84)⟩,
     ⟨none, none, .act, .store 1 (.tmp 85) (.tmp 83)⟩])
   .skip))
  (.seq (.region [
    ⟨(some 4), none, .act, .mv (.const (.int .i64 0))⟩])
  .ret)))))))))
theorem res14 : ∃ c, Try.f14.body = some c ∧ resCode Try.prog 86 c = some r14 := ⟨_, rfl, by kernel_rfl⟩
theorem rr14 : resRes Try.prog Try.f14.results.toList = some [.tmp 4] := by kernel_rfl
theorem append_loop (L : Log) (p : Nat) (e : List Entry) (at' : UInt64) (he : ∀ x ∈ e, x.data.length ≤ 140737488355328) (xs : List Entry) (hl : xs.length + e.length ≤ 1099511627776) (h₀ : AHeap) (h0p : h₀ p = none) (k : List RT) (Q : AV → AHeap → Prop)
    (hk : ∀ h c, Grow h₀ h c → h p = some (.box (L.cellsC (xs ++ e) c)) → RRun Try.prog Try.f14 86 k (Env.get [(0, ptr p), (5, u64 at')]) h Q) (m : Nat) :
    ∀ (i : Nat) (h : AHeap) (c : Cap), i + m = e.length → Grow h₀ h c → h p = some (.box (L.cellsC (xs ++ e.take i) c)) →
      RRun Try.prog Try.f14 86 (.inLoop r14l0 :: .inBlock 0 :: k) (Env.get [(53, i64 i), (52, i64 e.length), (51, entries e), (0, ptr p), (5, u64 at')]) h Q := by
  induction m with
  | zero =>
    intro i h c hi hg hp
    refine RRun.inLoop ?_
    repeat' (first | refine S.nilK ?_ | (refine S.op rfl ?_; first | ((first | refine S.lss rfl rfl ?_ ?_) <;> intro hlt <;> try (exfalso; omega))) | refine S.seq ?_ | refine S.region ?_ | refine S.condF rfl ?_ | refine RRun.exit rfl ?_)
    rw [show e.take i = e from List.take_of_length_le (by omega)] at hp
    exact S.keep [0, 5] rfl (hk h c hg hp)
  | succ m ih =>
    intro i h c hi hg hp
    have hie : i < e.length := by omega
    have h1 : (e.map Entry.cells)[((i : Nat) : Int).toNat]? = some e[i].cells := by simp [hie]
    have hown := own_spec e[i] (he _ (List.getElem_mem hie))
    have hlen : ((xs ++ e.take i).map Entry.cells).length = xs.length + i := by simp; omega
    refine RRun.inLoop ?_
    repeat' (first | refine S.nilK ?_ | (refine S.op rfl ?_; first | refine R.indexAddr rfl rfl (by omega) h1 ?_ | refine R.callQ (by decide) rfl (hown _) ?_ | refine R.mv rfl ?_ | refine R.fieldAddr rfl ?_ | refine R.nilCheck rfl ?_ | refine R.loadR rfl rfl ?_ | refine R.load (by decide) rfl (by (repeat' (first | assumption | exact AHeap.set_same _ _ _ | refine AHeap.get_fresh ‹_› ?_ | refine AHeap.so ?_ ?_ | exact AHeap.ne_of ‹_› ‹_›)); first | done | fail) rfl ?_ | refine R.alloc rfl (fun b hb => ?_) | refine R.buildSl rfl rfl rfl (by decide) ?_ | ((first | refine S.lss rfl rfl ?_ ?_) <;> intro hlt <;> try (exfalso; omega))) | (refine S.op0 rfl ?_; first | refine S.store rfl rfl (by (repeat' (first | exact AHeap.set_same _ _ _)); first | done | fail) rfl rfl rfl (by rfl) rfl ?_) | refine S.seq ?_ | refine S.region ?_ | refine S.condT rfl ?_ | refine RRun.skip ?_ | refine RRun.block ?_)
    refine S.op rfl (S.appendG rfl ((hg.base _ (by assumption)).setBox _ (AHeap.set_same _ _ _) (hg.le.none (by assumption))) rfl (.sl _ _) rfl (.sl [e[i].cells] _) (Entry.one _) ?_ ?_ (fun c' h' hg' hbox => ?_))
    · rw [hlen]; simp; omega
    · rw [hlen]; simp; omega
    have hp' := hbox p _ (by (repeat' (first | assumption | refine AHeap.get_fresh ‹_› ?_ | refine AHeap.so ?_ ?_ | exact AHeap.ne_of ‹_› ‹_›)); first | done | fail)
    repeat' (first | refine S.nilK ?_ | (refine S.op rfl ?_; first | refine R.mv rfl ?_ | refine R.fieldAddr rfl ?_ | refine R.nilCheck rfl ?_ | refine S.addI rfl rfl (by omega) ?_) | (refine S.op0 rfl ?_; first | refine S.store rfl rfl (by (repeat' (first | assumption)); first | done | fail) rfl rfl rfl (by rfl) rfl ?_) | refine S.region ?_ | refine RRun.inBlock ?_)
    rw [take_succ_map xs e i hie, show ((i : Int) + 1) = ((i + 1 : Nat) : Int) by omega]
    exact S.keep [53, 52, 51, 0, 5] rfl (ih (i + 1) _ c' (by omega) (hg'.setBox _ hp' h0p) (AHeap.set_same _ _ _))
def Log.append (L : Log) (e : List Entry) : Log × Int :=
  match e with
  | [] => (L, 0)
  | x :: r =>
    if follow (x :: r) = true ∧ L.s.index + 1 ≤ x.index ∧ x.index - 1 ≤ L.s.index + UInt64.ofNat L.l.length then
      ({ L with l := L.l.take (x.index - (L.s.index + 1)).toNat ++ (x :: r), dirty := if L.dirty = 0 ∨ x.index < L.dirty then x.index else L.dirty }, 0)
    else (L, 80)
theorem Log.append_good (L : Log) (x : Entry) (r : List Entry) (hf : follow (x :: r) = true) (hA : L.s.index + 1 ≤ x.index) (hB : x.index - 1 ≤ L.s.index + UInt64.ofNat L.l.length) :
    L.append (x :: r) = ({ L with l := L.l.take (x.index - (L.s.index + 1)).toNat ++ (x :: r), dirty := if L.dirty = 0 ∨ x.index < L.dirty then x.index else L.dirty }, 0) := by
  rw [Log.append, if_pos ⟨hf, hA, hB⟩]
theorem cellsC_le (L : Log) (es : List Entry) (c : Cap) : ALes (L.cellsC es c) (Log.cells { L with l := es }) :=
  .cons (.refl _) (.cons (.refl _) (.cons (.refl _) (.cons (.refl _) (.cons (.toRo _ _ _) (.cons (.refl _) (.cons (.refl _) .nil))))))
theorem place_le {a x : UInt64} {n : Nat} (h3 : a.toNat ≤ 9223372036854775807) (hn : n ≤ 549755813888) (hA : a + 1 ≤ x) (hB : x - 1 ≤ a + UInt64.ofNat n) : (x - (a + 1)).toNat ≤ n := by
  have h1 := UInt64.le_iff_toNat_le.1 hA
  have h2 := UInt64.le_iff_toNat_le.1 hB
  have h5 : (UInt64.ofNat n).toNat = n := UInt64.toNat_ofNat_of_lt' (by simp only [UInt64.size]; omega)
  have hx := x.toNat_lt
  simp only [UInt64.toNat_add, UInt64.toNat_sub, UInt64.toNat_ofNat, h5] at h1 h2 ⊢
  simp at h1 h2 ⊢
  omega
theorem append_spec (L : Log) (e : List Entry) (he : ∀ x ∈ e, x.data.length ≤ 140737488355328) (hi : L.s.index.toNat ≤ 9223372036854775807) (hl : L.l.length ≤ 549755813888) (hle : e.length ≤ 549755813888) (p : Nat) (h : AHeap) (hp : h p = some (.box L.cells)) :
    ACalls Try.prog 14 [ptr p, entries e] h (fun x h' => x = i64 (L.append e).2 ∧ h' = h.set p (.box (L.append e).1.cells)) := by
  have hlen : (L.l.map Entry.cells).length = L.l.length := by simp
  have hlene : (e.map Entry.cells).length = e.length := by simp
  have hfirst := first_spec L p h hp
  have hlast := last_spec L (by omega) p h hp
  have hfollow := follow_spec e (by omega) h
  obtain ⟨c, hc1, hc2⟩ := res14
  refine ACalls.weak (ACalls.enter Try.func14 hc1 Try.ntmps14 hc2 (Nat.le_of_ble_eq_true rfl) rfl ?_)
  match e, he, hle, hlene, hfollow with
  | [], he, hle, hlene, hfollow =>
    have hz : (([] : List Entry).map Entry.cells).length = 0 := rfl
    repeat' (first | refine S.nilK ?_ | (refine S.op rfl ?_; first | refine R.mv rfl ?_ | refine R.len rfl ?_ | ((first | refine S.eqInt rfl rfl ?_ ?_) <;> intro hlt <;> try (exfalso; omega))) | refine S.seq ?_ | refine S.region ?_ | refine S.condT rfl ?_)
    apply S.ret rr14
    case hx => repeat (first | exact ResAt.nil | apply ResAt.tmp rfl)
    refine ⟨_, _, .refl _, ?_, rfl, rfl⟩
    rw [show (L.append []).1 = L from rfl, AHeap.set_eq h hp]
    exact .refl _
  | x :: r, he, hle, hlene, hfollow =>
    have h0 : ((x :: r).map Entry.cells)[(0 : Int).toNat]? = some x.cells := rfl
    have hpos : 0 < ((x :: r).map Entry.cells).length := by simp
    cases hf : follow (x :: r) with
    | false =>
      rw [hf] at hfollow
      repeat' (first | refine S.nilK ?_ | (refine S.op rfl ?_; first | refine R.indexAddr rfl rfl (by omega) h0 ?_ | refine R.callQ (by decide) rfl hfollow ?_ | refine R.mv rfl ?_ | refine R.fieldAddrR rfl ?_ | refine R.loadR rfl rfl ?_ | refine R.pickT rfl rfl ?_ | refine R.pickF rfl rfl ?_ | refine R.len rfl ?_ | refine R.not rfl ?_ | refine R.eqPtrNil rfl rfl ?_ | ((first | refine S.eqInt rfl rfl ?_ ?_) <;> intro hlt <;> try (exfalso; omega))) | refine S.skip rfl ?_ | refine S.seq ?_ | refine S.region ?_ | refine S.condT rfl ?_ | refine S.condF rfl ?_ | refine RRun.skip ?_)
      apply S.ret rr14
      case hx => repeat (first | exact ResAt.nil | apply ResAt.tmp rfl)
      refine ⟨_, _, .refl _, ?_, ?_, rfl⟩
      · rw [Log.append, if_neg (by simp [hf]), AHeap.set_eq h hp]; exact .refl _
      · rw [Log.append, if_neg (by simp [hf])]; rfl
    | true =>
      rw [hf] at hfollow
      by_cases hc : L.s.index + 1 ≤ x.index ∧ x.index - 1 ≤ L.s.index + UInt64.ofNat L.l.length
      · obtain ⟨hA, hB⟩ := hc
        have hn := place_le hi hl hA hB
        have hA' := UInt64.le_iff_toNat_le.1 hA
        have hB' := UInt64.le_iff_toNat_le.1 hB
        repeat' (first | refine S.nilK ?_ | (refine S.op rfl ?_; first | refine R.indexAddr rfl rfl (by omega) h0 ?_ | refine R.callQ (by decide) rfl hfirst ?_ | refine R.callQ (by decide) rfl hlast ?_ | refine R.callQ (by decide) rfl hfollow ?_ | refine S.sliceHM rfl rfl rfl (by omega) (by omega) (by decide) ?_ | refine R.mv rfl ?_ | refine R.fieldAddr rfl ?_ | refine R.fieldAddrR rfl ?_ | refine R.nilCheck rfl ?_ | refine R.loadR rfl rfl ?_ | refine R.load (by decide) rfl (by (repeat' (first | assumption)); first | done | fail) rfl ?_ | refine S.subU rfl rfl ?_ | refine S.subUc rfl (by decide) ?_ | refine R.pickF rfl rfl ?_ | refine R.len rfl ?_ | refine S.convUI rfl (by omega) ?_ | refine R.not rfl ?_ | refine R.eqPtrNil rfl rfl ?_ | ((first | refine S.lss rfl rfl ?_ ?_ | refine S.gtr rfl rfl ?_ ?_ | refine S.eqInt rfl rfl ?_ ?_) <;> intro hlt <;> try (exfalso; omega))) | (refine S.op0 rfl ?_; first | refine S.store rfl rfl (by (repeat' (first | assumption)); first | done | fail) rfl rfl rfl (by rfl) rfl ?_) | refine S.seq ?_ | refine S.region ?_ | refine S.condF rfl ?_ | refine RRun.skip ?_ | refine RRun.block ?_)
        rw [hlene]
        refine RRun.loopIn (S.keep [53, 52, 51, 0, 5] rfl ?_)
        rw [Log.append_good L x r hf hA hB]
        refine append_loop L p (x :: r) x.index he (L.l.take (x.index - (L.s.index + 1)).toNat) (by simp at hle ⊢; omega) (h.del p) (AHeap.del_same _ _) _ _ ?_ (x :: r).length 0 _ .full (by omega) (Grow.of_le ((AHeap.del_le h p).set _ (AHeap.del_same _ _))) ?_
        · intro h' c' hg' hp'
          have z1 : (((0 : UInt64).toNat : Int)) = 0 := rfl
          cases hd : decide (L.dirty = 0 ∨ x.index < L.dirty) with
          | true =>
            have hd' := of_decide_eq_true hd
            have hd2 : L.dirty.toNat = 0 ∨ x.index.toNat < L.dirty.toNat := hd'.imp (fun e => by rw [e]; rfl) UInt64.lt_iff_toNat_lt.1
            repeat' (first | refine S.nilK ?_ | (refine S.op rfl ?_; first | refine R.mv rfl ?_ | refine R.fieldAddr rfl ?_ | refine R.nilCheck rfl ?_ | refine R.load (by decide) rfl (by (repeat' (first | assumption)); first | done | fail) rfl ?_ | refine R.pickT rfl rfl ?_ | refine R.pickF rfl rfl ?_ | ((first | refine S.lss rfl rfl ?_ ?_ | refine S.eqInt rfl rfl ?_ ?_) <;> intro hlt <;> try (exfalso; omega))) | (refine S.op0 rfl ?_; first | refine S.store rfl rfl (by (repeat' (first | assumption)); first | done | fail) rfl rfl rfl (by rfl) rfl ?_) | refine S.skip rfl ?_ | refine S.seq ?_ | refine S.region ?_ | refine S.condT rfl ?_)
            all_goals
              apply S.ret rr14
              case hx => repeat (first | exact ResAt.nil | apply ResAt.tmp rfl)
              refine ⟨_, _, .refl _, ?_, rfl, rfl⟩
              refine AHeap.le.of_del (hg'.le.set _ (AHeap.del_same _ _)) (AHeap.set_same _ _ _) ?_
              rw [if_pos hd']
              exact .box (cellsC_le { L with dirty := x.index } _ _)
          | false =>
            have hd' := of_decide_eq_false hd
            have hd2 : ¬ (L.dirty.toNat = 0) ∧ ¬ (x.index.toNat < L.dirty.toNat) := ⟨fun e => hd' (.inl (UInt64.toNat_inj.1 e)), fun e => hd' (.inr (UInt64.lt_iff_toNat_lt.2 e))⟩
            repeat' (first | refine S.nilK ?_ | (refine S.op rfl ?_; first | refine R.mv rfl ?_ | refine R.fieldAddr rfl ?_ | refine R.nilCheck rfl ?_ | refine R.load (by decide) rfl (by (repeat' (first | assumption)); first | done | fail) rfl ?_ | refine R.pickF rfl rfl ?_ | ((first | refine S.lss rfl rfl ?_ ?_ | refine S.eqInt rfl rfl ?_ ?_) <;> intro hlt <;> try (exfalso; omega))) | refine S.seq ?_ | refine S.region ?_ | refine S.condF rfl ?_ | refine RRun.skip ?_)
            apply S.ret rr14
            case hx => repeat (first | exact ResAt.nil | apply ResAt.tmp rfl)
            refine ⟨_, _, .refl _, ?_, rfl, rfl⟩
            refine AHeap.le.of_del hg'.le hp' ?_
            rw [if_neg hd']
            exact .box (cellsC_le L _ _)
        · rw [AHeap.set_same]
          simp [Log.cellsC, List.map_take]
          rfl
      · have hc' : ¬ ((L.s.index + 1).toNat ≤ x.index.toNat ∧ (x.index - 1).toNat ≤ (L.s.index + UInt64.ofNat L.l.length).toNat) := fun ⟨a, b⟩ => hc ⟨UInt64.le_iff_toNat_le.2 a, UInt64.le_iff_toNat_le.2 b⟩
        have hno : ¬ (follow (x :: r) = true ∧ L.s.index + 1 ≤ x.index ∧ x.index - 1 ≤ L.s.index + UInt64.ofNat L.l.length) := fun ⟨_, h⟩ => hc h
        repeat' (first | refine S.nilK ?_ | (refine S.op rfl ?_; first | refine R.indexAddr rfl rfl (by omega) h0 ?_ | refine R.callQ (by decide) rfl hfirst ?_ | refine R.callQ (by decide) rfl hlast ?_ | refine R.callQ (by decide) rfl hfollow ?_ | refine R.mv rfl ?_ | refine R.fieldAddrR rfl ?_ | refine R.loadR rfl rfl ?_ | refine S.subUc rfl (by decide) ?_ | refine R.pickT rfl rfl ?_ | refine R.pickF rfl rfl ?_ | refine R.len rfl ?_ | refine R.not rfl ?_ | refine R.eqPtrNil rfl rfl ?_ | ((first | refine S.lss rfl rfl ?_ ?_ | refine S.gtr rfl rfl ?_ ?_ | refine S.eqInt rfl rfl ?_ ?_) <;> intro hlt <;> try (exfalso; omega))) | refine S.skip rfl ?_ | refine S.seq ?_ | refine S.region ?_ | refine S.condT rfl ?_ | refine S.condF rfl ?_ | refine RRun.skip ?_)
        all_goals
          apply S.ret rr14
          case hx => repeat (first | exact ResAt.nil | apply ResAt.tmp rfl)
          refine ⟨_, _, .refl _, ?_, ?_, rfl⟩
          · rw [Log.append, if_neg hno, AHeap.set_eq h hp]; exact .refl _
          · rw [Log.append, if_neg hno]; rfl
end Go.Proofs.Ytnmgamcmjjngcaa

namespace Go.Proofs.Ytnmgamcmjjngcaa
open Go.Av
def numA : Nat → Nat → List UInt8 → Option (Nat × Nat)
  | _, _, [] => none
  | i, n, c :: r =>
    if i = 10 ∨ (i = 0 ∧ c.toNat = 128) ∨ 144115188075855872 ≤ n then none
    else if c.toNat < 128 then some (n * 128 + c.toNat % 128, i + 1)
    else numA (i + 1) (n * 128 + c.toNat % 128) r
theorem numA_lt : ∀ (l : List UInt8) (i n v s : Nat), numA i n l = some (v, s) → v < 18446744073709551616 ∧ i < s ∧ s ≤ i + l.length
  | [], _, _, _, _, h => by simp [numA] at h
  | c :: r, i, n, v, s, h => by
    simp only [numA] at h
    split at h
    · cases h
    · rename_i hc
      split at h
      · cases h
        simp only [List.length_cons]; omega
      · have := numA_lt r _ _ v s h
        simp only [List.length_cons]; omega
def un (n : Nat) : AV := .v (.int .u64 (n : Int))
def r92l0 : RCode :=
  (.seq (.region [
    ⟨(some 10), none, .act, .bin .lss (.tmp 9) (.tmp 8)⟩])
  (.seq (.cond (.tmp 10)
   .skip
   (.exit 0))
  (.seq (.block 1
   (.seq (.region [
     ⟨(some 11), none, .act, .mv (.tmp 9)⟩,
     ⟨(some 12), none, .act, .indexAddr 1 (.tmp 7) (.tmp 9)⟩,
     ⟨(some 13), none, .act, .load false 1 (.tmp 12)⟩,
     ⟨(some 5), none, .act, .mv (.tmp 11)⟩,
     ⟨(some 6), none, .act, .mv (.tmp 13)⟩])
   (.seq (.seq (.region [
     ⟨(some 14), none, .act, .mv (.tmp 5)⟩,
     ⟨(some 15), none, .act, .eq false .int (.tmp 14) (.const (.int .i64 10))⟩,
     ⟨(some 16), none, .act, .mv (.tmp 15)⟩,
     ⟨(some 17), (some (16, false)), .act, .mv (.tmp 5)⟩,
     ⟨(some 18), (some (16, false)), .act, .eq false .int (.tmp 17) (.const (.int .i64 0))⟩,
     ⟨(some 19), (some (16, false)), .act, .mv (.tmp 18)⟩,
     ⟨(some 20), (some (19, true)), .act, .mv (.tmp 6)⟩,
     ⟨(some 21), (some (19, true)), .act, .eq false .int (.tmp 20) (.const (.int .u8 128))⟩,
     ⟨(some 22), (some (16, false)), .act, .pick (.tmp 19) (.tmp 21) (.const (.bool false))⟩,
     ⟨(some 23), none, .act, .pick (.tmp 16) (.const (.bool true)) (.tmp 22)⟩,
     ⟨(some 24), none, .act, .mv (.tmp 23)⟩,
     ⟨(some 25), (some (24, false)), .act, .mv (.tmp 4)⟩,
     ⟨(some 26), (some (24, false)), .act, .bin .shr (.tmp 25) (.const (.int .u64 57))⟩,
     ⟨(some 27), (some (24, false)), .act, .eq true .int (.tmp 26) (.const (.int .u64 0))⟩,
     ⟨(some 28), none, .act, .pick (.tmp 24) (.const (.bool true)) (.tmp 27)⟩])
   (.cond (.tmp 28)
    (.exit 0)
    .skip))
   (.seq (.region [
     ⟨(some 29), none, .act, .mv (.tmp 4)⟩,
     ⟨(some 30), none, .act, .bin .shl (.tmp 29) (.const (.int .u64 7))⟩,
     ⟨(some 31), none, .act, .mv (.tmp 6)⟩,
     ⟨(some 32), none, .act, .bin .andNot (.tmp 31) (.const (.int .u8 128))⟩,
     ⟨(some 33), none, .act, .convInt .u64 (.tmp 32)⟩,
     ⟨(some 34), none, .act, .bin .or (.tmp 30) (.tmp 33)⟩,
     ⟨(some 4), none, .act, .mv (.tmp 34)⟩])
   (.seq (.region [
     ⟨(some 35), none, .act, .mv (.tmp 6)⟩,
     ⟨(some 36), none, .act, .bin .lss (.tmp 35) (.const (.int .u8 128))⟩])
   (.cond (.tmp 36)
    (.seq (.region [
      ⟨(some 37), none, .act, .mv (.tmp 4)⟩,
      ⟨(some 38), none, .act, .mv (.tmp 5)⟩,
      ⟨(some 39), none, .act, .bin .add (.tmp 38) (.const (.int .i64 1))⟩,
      ⟨(some 2), none, .act, .mv (.tmp 37)⟩,
      ⟨(some 3), none, .act, .mv (.tmp 39)⟩])
    .ret)
    .skip))))))
  (.region [
    ⟨(some 40), none, .act, .bin .add (.tmp 9) (.const (.int .i64 1))⟩,
    ⟨(some 9), none, .act, .mv (.tmp 40)⟩]))))
def r92 : RCode :=
  (.seq (.region [
    ⟨(some 2), none, .act, .mv (.const (.int .u64 0))⟩,
    ⟨(some 3), none, .act, .mv (.const (.int .i64 0))⟩])
  (.seq (.region [
    ⟨(some 4), none, .act, .mv (.const (.int .u64 0))⟩])
  (.seq .skip
  (.seq (.seq (.region [
    ⟨(some 7), none, .act, .mv (.tmp 0)⟩,
    ⟨(some 8), none, .act, .len (.tmp 7)⟩,
    ⟨(some 9), none, .act, .mv (.const (.int .i64 0))⟩])
  (.block 0
   (.loop r92l0)))
  (.seq (.region [
    ⟨(some 2), none, .act, .mv (.const (.int .u64 0))⟩,
    ⟨(some 3), none, .act, .mv (.const (.int .i64 0))⟩])
  .ret)))))
theorem res92 : ∃ c, Try.f92.body = some c ∧ resCode Try.prog 41 c = some r92 := ⟨_, rfl, by kernel_rfl⟩
theorem rr92 : resRes Try.prog Try.f92.results.toList = some [.tmp 2, .tmp 3] := by kernel_rfl
theorem number_loop (l : List UInt8) (hl : l.length ≤ 140737488355328) (h : AHeap) (k : List RT) (Q : AV → AHeap → Prop) (R0 : Option (Nat × Nat))
    (hr : ∀ v s : Nat, R0 = some (v, s) → Q (.tu [un v, i64 s]) h) (hn : R0 = none → RRun Try.prog Try.f92 41 k (Env.get []) h Q) (m : Nat) :
    ∀ (i n : Nat), i + m = l.length → n < 18446744073709551616 → i ≤ 10 → numA i n (l.drop i) = R0 →
      RRun Try.prog Try.f92 41 (.inLoop r92l0 :: .inBlock 0 :: k) (Env.get [(9, i64 i), (8, i64 l.length), (7, bys l), (4, un n)]) h Q := by
  have hlen0 := len_bytes l
  induction m with
  | zero =>
    intro i n hi hnn hi10 hR
    rw [List.drop_of_length_le (by omega)] at hR
    refine RRun.inLoop ?_
    repeat' (first | refine S.nilK ?_ | (refine S.op rfl ?_; first | ((first | refine S.lss rfl rfl ?_ ?_) <;> intro hlt <;> try (exfalso; omega))) | refine S.seq ?_ | refine S.region ?_ | refine S.condF rfl ?_ | refine RRun.exit rfl ?_)
    exact S.keep [] rfl (hn (by rw [← hR]; rfl))
  | succ m ih =>
    intro i n hi hnn hi10 hR
    have hie : i < l.length := by omega
    have h1 : (Go.Av.byteCells l)[((i : Nat) : Int).toNat]? = some (Go.Av.byteCell l[i]) := by simp [Go.Av.byteCells, hie]
    rw [List.drop_eq_getElem_cons hie] at hR
    generalize l[i] = c at h1 hR
    have hc := UInt8.toNat_lt c
    have ih' := ih (i + 1) (n * 128 + c.toNat % 128) (by omega)
    clear ih
    simp only [numA] at hR
    refine RRun.inLoop ?_
    by_cases hx : i = 10 ∨ (i = 0 ∧ c.toNat = 128) ∨ 144115188075855872 ≤ n
    · rw [if_pos hx] at hR
      repeat' (first | refine S.nilK ?_ | (refine S.op rfl ?_; first | refine R.indexAddr rfl rfl (by omega) h1 ?_ | refine S.shrN (s := 57) (by decide) rfl ?_ | refine R.mv rfl ?_ | refine R.loadR rfl rfl ?_ | refine R.pickT rfl rfl ?_ | refine R.pickF rfl rfl ?_ | ((first | refine S.lss rfl rfl ?_ ?_ | refine S.eqInt rfl rfl ?_ ?_) <;> intro hlt <;> try (exfalso; omega))) | refine S.skip rfl ?_ | refine S.seq ?_ | refine S.region ?_ | refine S.condT rfl ?_ | refine RRun.skip ?_ | refine RRun.block ?_ | refine RRun.exit rfl ?_)
      all_goals exact S.keep [] rfl (hn hR.symm)
    · rw [if_neg hx] at hR
      by_cases hc8 : c.toNat < 128
      · rw [if_pos hc8] at hR
        repeat' (first | refine S.nilK ?_ | (refine S.op rfl ?_; first | refine R.indexAddr rfl rfl (by omega) h1 ?_ | refine S.shrN (s := 57) (by decide) rfl ?_ | refine S.shlN (s := 7) (by decide) (by omega) rfl ?_ | refine S.andNot7 (by omega) rfl ?_ | refine S.convU (by omega) rfl ?_ | refine S.or7 (by omega) (by omega) rfl rfl ?_ | refine R.mv rfl ?_ | refine R.loadR rfl rfl ?_ | refine S.addI rfl rfl (by omega) ?_ | refine R.pickT rfl rfl ?_ | refine R.pickF rfl rfl ?_ | ((first | refine S.lss rfl rfl ?_ ?_ | refine S.eqInt rfl rfl ?_ ?_) <;> intro hlt <;> try (exfalso; omega))) | refine S.skip rfl ?_ | refine S.seq ?_ | refine S.region ?_ | refine S.condT rfl ?_ | refine S.condF rfl ?_ | refine RRun.skip ?_ | refine RRun.block ?_)
        all_goals
          apply S.ret rr92
          case hx => repeat (first | exact ResAt.nil | apply ResAt.tmp rfl)
          rw [show ((i : Int) + 1) = ((i + 1 : Nat) : Int) by omega]
          exact hr _ _ hR.symm
      · rw [if_neg hc8] at hR
        repeat' (first | refine S.nilK ?_ | (refine S.op rfl ?_; first | refine R.indexAddr rfl rfl (by omega) h1 ?_ | refine S.shrN (s := 57) (by decide) rfl ?_ | refine S.shlN (s := 7) (by decide) (by omega) rfl ?_ | refine S.andNot7 (by omega) rfl ?_ | refine S.convU (by omega) rfl ?_ | refine S.or7 (by omega) (by omega) rfl rfl ?_ | refine R.mv rfl ?_ | refine R.loadR rfl rfl ?_ | refine S.addI rfl rfl (by omega) ?_ | refine R.pickT rfl rfl ?_ | refine R.pickF rfl rfl ?_ | ((first | refine S.lss rfl rfl ?_ ?_ | refine S.eqInt rfl rfl ?_ ?_) <;> intro hlt <;> try (exfalso; omega))) | refine S.skip rfl ?_ | refine S.seq ?_ | refine S.region ?_ | refine S.condT rfl ?_ | refine S.condF rfl ?_ | refine RRun.skip ?_ | refine RRun.block ?_ | refine RRun.inBlock ?_)
        all_goals
          rw [show ((i : Int) + 1) = ((i + 1 : Nat) : Int) by omega]
          exact S.keep [9, 8, 7, 4] rfl (ih' (by omega) (by omega) hR)
def numP (l : List UInt8) : Nat × Nat := (numA 0 0 l).getD (0, 0)
theorem number_spec (l : List UInt8) (hl : l.length ≤ 140737488355328) (h : AHeap) : ACalls Try.prog 92 [bys l] h (fun x h' => x = .tu [un (numP l).1, i64 (numP l).2] ∧ h' = h) := by
  have hlen0 := len_bytes l
  obtain ⟨c, hc1, hc2⟩ := res92
  refine ACalls.enter Try.func92 hc1 Try.ntmps92 hc2 (Nat.le_of_ble_eq_true rfl) rfl ?_
  repeat' (first | refine S.nilK ?_ | (refine S.op rfl ?_; first | refine R.mv rfl ?_ | refine R.len rfl ?_) | refine S.seq ?_ | refine S.region ?_ | refine RRun.skip ?_ | refine RRun.block ?_)
  rw [hlen0]
  refine RRun.loopIn (S.keep [9, 8, 7, 4] rfl (number_loop l hl h _ _ (numA 0 0 l) ?_ ?_ l.length 0 0 (by omega) (by decide) (by decide) rfl))
  · intro v s hv
    rw [numP, hv]; exact ⟨rfl, rfl⟩
  · intro hv
    repeat' (first | refine S.nilK ?_ | (refine S.op rfl ?_; first | refine R.mv rfl ?_) | refine S.seq ?_ | refine S.region ?_)
    apply S.ret rr92
    case hx => repeat (first | exact ResAt.nil | apply ResAt.tmp rfl)
    rw [numP, hv]; exact ⟨rfl, rfl⟩
end Go.Proofs.Ytnmgamcmjjngcaa

namespace Go.Proofs.Ytnmgamcmjjngcaa
open Go.Av
theorem callS {P : Program} {c : Cls} {E : AEnv} {h H : AHeap} {K : AV → AHeap → Prop} {f : FuncId} {args : List Operand} {avl : List AV} {x : AV} (hc : c = .act) (ha : avs E args = some avl) (hcall : ACalls P f avl h (fun x' h' => x' = x ∧ h' = H)) (hk : K x H) : ROpS P c (.call f args) E h K :=
  R.call hc ha (hcall.mono fun x' h' ⟨e1, e2⟩ => by subst e1; subst e2; exact hk)
theorem callU {P : Program} {c : Cls} {E : AEnv} {h H : AHeap} {K : AV → AHeap → Prop} {f : FuncId} {args : List Operand} {avl : List AV} (hc : c = .act) (ha : avs E args = some avl) (hcall : ACalls P f avl h (fun _ h' => h' = H)) (hk : ∀ x, K x H) : ROpS P c (.call f args) E h K :=
  R.call hc ha (hcall.mono fun x' h' e => by subst e; exact hk x')
theorem box_le {h : AHeap} {p : Nat} {o o' : ABlk} (ho : BLe o' o) : (h.set p o).le (h.set p o') :=
  AHeap.le.of_del ((AHeap.del_le h p).set _ (AHeap.del_same _ _)) (AHeap.set_same _ _ _) ho
def dat (s : Option (List UInt8)) : List UInt8 := s.getD []
def rdr (s : Option (List UInt8)) : List AV := [bys (dat s), bl s.isSome]
def rdN (s : Option (List UInt8)) (most : UInt64) : UInt64 × Option (List UInt8) :=
  match s with
  | none => (0, none)
  | some b =>
    match numA 0 0 b with
    | none => (0, none)
    | some (v, n) => if most.toNat < v then (0, none) else (UInt64.ofNat v, some (b.drop n))
def rdE : Option (List UInt8) → Bool
  | some [] => true
  | _ => false
theorem bys_drop (b : List UInt8) (n : Nat) : .sl 1 ((Go.Av.byteCells b).drop n) .ro = bys (b.drop n) := by
  simp [bys, Go.Av.byteCells, List.map_drop]
theorem rdr_nil (v : Bool) : ALes [.v (.slice none 0 0), .v (.bool v)] [bys [], bl v] := .cons (.nilSl 1 (c := .ro) trivial) (.refl _)
theorem un_u64 {n : Nat} (h : n < 18446744073709551616) : un n = u64 (UInt64.ofNat n) := by
  show AV.v (.int .u64 (n : Int)) = .v (.int .u64 (((UInt64.ofNat n).toNat : Nat) : Int))
  rw [UInt64.toNat_ofNat_of_lt' h]
theorem rdN_len (s : Option (List UInt8)) (most : UInt64) (n : Nat) (h : (dat s).length ≤ n) : (dat (rdN s most).2).length ≤ n := by
  match s with
  | none => exact Nat.zero_le _
  | some b =>
    cases hn : numA 0 0 b with
    | none => simp only [rdN, hn]; exact Nat.zero_le _
    | some p =>
      obtain ⟨v, k⟩ := p
      simp only [rdN, hn]
      split
      · exact Nat.zero_le _
      · simp only [dat, Option.getD_some, List.length_drop] at h ⊢; omega
def r91 : RCode :=
  (.seq (.region [
    ⟨(some 2), none, .act, .mv (.const (.bool false))⟩])
  (.seq (.region [
    ⟨(some 3), none, .act, .mv (.tmp 0)⟩,
    ⟨(some 4), none, .act, .eq true .ptr (.tmp 3) (.const (.pointer none))⟩,
    ⟨(some 5), none, .act, .mv (.tmp 4)⟩,
    ⟨(some 6), (some (5, true)), .act, .mv (.tmp 0)⟩,
    ⟨(some 7), (some (5, true)), .act, .nilCheck (.tmp 6)⟩,
    ⟨(some 8), (some (5, true)), .act, .fieldAddr 1 (.tmp 7)⟩,
    ⟨(some 9), (some (5, true)), .act, .load false 1 (.tmp 8)⟩,
    ⟨(some 10), none, .act, .pick (.tmp 5) (.tmp 9) (.const (.bool false))⟩,
    ⟨(some 2), none, .act, .mv (.tmp 10)⟩])
  .ret))
theorem res91 : ∃ c, Try.f91.body = some c ∧ resCode Try.prog 11 c = some r91 := ⟨_, rfl, by kernel_rfl⟩
theorem rr91 : resRes Try.prog Try.f91.results.toList = some [.tmp 2] := by kernel_rfl
theorem ok_spec (s : Option (List UInt8)) (p : Nat) (h : AHeap) (hp : h p = some (.box (rdr s))) : ACalls Try.prog 91 [ptr p] h (fun x h' => x = bl s.isSome ∧ h' = h) := by
  obtain ⟨c, hc1, hc2⟩ := res91
  refine ACalls.enter Try.func91 hc1 Try.ntmps91 hc2 (Nat.le_of_ble_eq_true rfl) rfl ?_
  repeat' (first | refine S.nilK ?_ | (refine S.op rfl ?_; first | refine R.mv rfl ?_ | refine R.fieldAddr rfl ?_ | refine R.nilCheck rfl ?_ | refine R.load (by decide) rfl (by (repeat' (first | assumption)); first | done | fail) rfl ?_ | refine R.pickT rfl rfl ?_ | refine R.eqPtrNil rfl rfl ?_) | refine S.seq ?_ | refine S.region ?_)
  apply S.ret rr91
  case hx => repeat (first | exact ResAt.nil | apply ResAt.tmp rfl)
  exact ⟨rfl, rfl⟩
def r93 : RCode :=
  (.seq (.region [
    ⟨(some 2), none, .act, .mv (.tmp 0)⟩,
    ⟨(some 3), none, .act, .eq true .ptr (.tmp 2) (.const (.pointer none))⟩])
  (.cond (.tmp 3)
   (.region [
     ⟨(some 4), none, .act, .mv (.tmp 0)⟩,
     ⟨(some 5), none, .act, .mv (.tmp 0)⟩,
     ⟨(some 6), none, .act, .nilCheck (.tmp 4)⟩,
     ⟨(some 7), none, .act, .fieldAddr 0 (.tmp 6)⟩,
     ⟨none, none, .act, .store 1 (.tmp 7) (.const (.slice none 0 0))⟩,
     ⟨(some 8), none, .act, .nilCheck (.tmp 5)⟩,
     ⟨(some 9), none, .act, .fieldAddr 1 (.tmp 8)⟩,
     ⟨none, none, .act, .store 1 (.tmp 9) (.const (.bool false))⟩])
   .skip))
theorem res93 : ∃ c, Try.f93.body = some c ∧ resCode Try.prog 10 c = some r93 := ⟨_, rfl, by kernel_rfl⟩
theorem rr93 : resRes Try.prog Try.f93.results.toList = some [] := by kernel_rfl
theorem fail_spec (s : Option (List UInt8)) (p : Nat) (h : AHeap) (hp : h p = some (.box (rdr s))) : ACalls Try.prog 93 [ptr p] h (fun _ h' => h' = h.set p (.box (rdr none))) := by
  obtain ⟨c, hc1, hc2⟩ := res93
  refine ACalls.weak (ACalls.enter Try.func93 hc1 Try.ntmps93 hc2 (Nat.le_of_ble_eq_true rfl) rfl ?_)
  repeat' (first | refine S.nilK ?_ | (refine S.op rfl ?_; first | refine R.mv rfl ?_ | refine R.fieldAddr rfl ?_ | refine R.nilCheck rfl ?_ | refine R.eqPtrNil rfl rfl ?_) | (refine S.op0 rfl ?_; first | refine S.storeS rfl rfl rfl (by rfl) rfl (by first | decide | exact Nat.le_refl _ | exact Nat.le_of_ble_eq_true rfl) ?_ | refine S.store rfl rfl (by (repeat' (first | assumption)); first | done | fail) rfl rfl rfl (by rfl) rfl ?_) | refine S.seq ?_ | refine S.region ?_ | refine S.condT rfl ?_)
  apply S.done rr93
  case hx => repeat (first | exact ResAt.nil)
  refine ⟨_, _, .refl _, ?_, rfl⟩
  exact box_le (.box (rdr_nil false))
def r73 : RCode :=
  (.seq (.region [
    ⟨(some 2), none, .act, .mv (.const (.pointer none))⟩])
  (.seq (.region [
    ⟨(some 3), none, .act, .mv (.tmp 0)⟩,
    ⟨(some 4), none, .act, .append 1 1 [(.int .u8 0)] (.const (.slice none 0 0)) (.tmp 3)⟩,
    ⟨(some 5), none, .act, .build [(.slice none 0 0), (.bool false)] [(0, 1, (.tmp 4)), (1, 1, (.const (.bool true)))]⟩,
    ⟨(some 6), none, .act, .box (.tmp 5)⟩,
    ⟨(some 2), none, .act, .mv (.tmp 6)⟩])
  .ret))
theorem res73 : ∃ c, Try.f73.body = some c ∧ resCode Try.prog 7 c = some r73 := ⟨_, rfl, by kernel_rfl⟩
theorem rr73 : resRes Try.prog Try.f73.results.toList = some [.tmp 2] := by kernel_rfl
theorem read_spec (b : List UInt8) (hb : b.length ≤ 140737488355328) (h : AHeap) : ACalls Try.prog 73 [bys b] h (fun x h' => ∃ p, h p = none ∧ x = ptr p ∧ h' = h.set p (.box (rdr (some b)))) := by
  obtain ⟨c, hc1, hc2⟩ := res73
  refine ACalls.weak (ACalls.enter Try.func73 hc1 Try.ntmps73 hc2 (Nat.le_of_ble_eq_true rfl) rfl ?_)
  repeat' (first | refine S.nilK ?_ | (refine S.op rfl ?_; first | refine R.mv rfl ?_) | refine S.seq ?_ | refine S.region ?_)
  refine S.op rfl (R.appendV rfl .nil rfl (.sl _ _) ?_ ?_ ?_ ?_)
  · exact one_bytes b
  · simp [len_bytes, chunks]; omega
  · simp [len_bytes, chunks]; omega
  ·
    repeat' (first | refine S.nilK ?_ | (refine S.op rfl ?_; first | refine R.mv rfl ?_ | refine R.box rfl rfl rfl (fun b hb => ?_) | refine R.build rfl rfl ?_))
    apply S.ret rr73
    case hx => repeat (first | exact ResAt.nil | apply ResAt.tmp rfl)
    exact ⟨_, _, .refl _, .refl _, _, by assumption, rfl, rfl⟩
def r74 : RCode :=
  (.seq (.region [
    ⟨(some 4), none, .act, .mv (.const (.int .u64 0))⟩])
  (.seq (.seq (.region [
    ⟨(some 7), none, .act, .mv (.tmp 0)⟩,
    ⟨(some 8), none, .act, .call 91 [(.tmp 7)]⟩,
    ⟨(some 9), none, .act, .un .not (.tmp 8)⟩])
  (.cond (.tmp 9)
   (.seq (.region [
     ⟨(some 4), none, .act, .mv (.const (.int .u64 0))⟩])
   .ret)
   .skip))
  (.seq (.region [
    ⟨(some 11), none, .act, .mv (.tmp 0)⟩,
    ⟨(some 12), none, .act, .nilCheck (.tmp 11)⟩,
    ⟨(some 13), none, .act, .fieldAddr 0 (.tmp 12)⟩,
    ⟨(some 14), none, .act, .load false 1 (.tmp 13)⟩,
    ⟨(some 15), none, .act, .call 92 [(.tmp 14)]⟩,
    ⟨(some 10), none, .act, .mv (.tmp 15)⟩,
    ⟨(some 16), none, .act, .extract (.tmp 10) 0⟩,
    ⟨(some 17), none, .act, .extract (.tmp 10) 1⟩,
    ⟨(some 5), none, .act, .mv (.tmp 16)⟩,
    ⟨(some 6), none, .act, .mv (.tmp 17)⟩])
  (.seq (.seq (.region [
    ⟨(some 18), none, .act, .mv (.tmp 6)⟩,
    ⟨(some 19), none, .act, .eq false .int (.tmp 18) (.const (.int .i64 0))⟩,
    ⟨(some 20), none, .act, .mv (.tmp 19)⟩,
    ⟨(some 21), (some (20, false)), .act, .mv (.tmp 5)⟩,
    ⟨(some 22), (some (20, false)), .act, .mv (.tmp 1)⟩,
    ⟨(some 23), (some (20, false)), .act, .bin .gtr (.tmp 21) (.tmp 22)⟩,
    ⟨(some 24), none, .act, .pick (.tmp 20) (.const (.bool true)) (.tmp 23)⟩])
  (.cond (.tmp 24)
   (.seq (.region [
     ⟨(some 25), none, .act, .mv (.tmp 0)⟩,
     ⟨(some 26), none, .act, .call 93 [(.tmp 25)]⟩])
   (.seq (.region [
     ⟨(some 4), none, .act, .mv (.const (.int .u64 0))⟩])
   .ret))
   .skip))
  (.seq (.region [
    ⟨(some 27), none, .act, .mv (.tmp 0)⟩,
    ⟨(some 28), none, .act, .mv (.tmp 0)⟩,
    ⟨(some 29), none, .act, .nilCheck (.tmp 28)⟩,
    ⟨(some 30), none, .act, .fieldAddr 0 (.tmp 29)⟩,
    ⟨(some 31), none, .act, .load false 1 (.tmp 30)⟩,
    ⟨(some 32), none, .act, .mv (.tmp 6)⟩,
    ⟨(some 33), none, .act, .sliceSl 1 (.tmp 31) (some (.tmp 32)) none none⟩,
    ⟨(some 34), none, .act, .nilCheck (.tmp 27)⟩,
    ⟨(some 35), none, .act, .fieldAddr 0 (.tmp 34)⟩,
    ⟨none, none, .act, .store 1 (.tmp 35) (.tmp 33)⟩])
  (.seq (.region [
    ⟨(some 36), none, .act, .mv (.tmp 5)⟩,
    ⟨(some 4), none, .act, .mv (.tmp 36)⟩])
  .ret))))))
theorem res74 : ∃ c, Try.f74.body = some c ∧ resCode Try.prog 37 c = some r74 := ⟨_, rfl, by kernel_rfl⟩
theorem rr74 : resRes Try.prog Try.f74.results.toList = some [.tmp 4] := by kernel_rfl
theorem rN_spec (s : Option (List UInt8)) (hs : (dat s).length ≤ 140737488355328) (most : UInt64) (p : Nat) (h : AHeap) (hp : h p = some (.box (rdr s))) :
    ACalls Try.prog 74 [ptr p, u64 most] h (fun x h' => x = u64 (rdN s most).1 ∧ h' = h.set p (.box (rdr (rdN s most).2))) := by
  have c91 := ok_spec s p h hp
  have c93 := fail_spec s p h hp
  obtain ⟨c, hc1, hc2⟩ := res74
  refine ACalls.weak (ACalls.enter Try.func74 hc1 Try.ntmps74 hc2 (Nat.le_of_ble_eq_true rfl) rfl ?_)
  match s, hs, hp, c91, c93 with
  | none, hs, hp, c91, c93 =>
    repeat' (first | refine S.nilK ?_ | (refine S.op rfl ?_; first | refine R.callQ (by decide) rfl c91 ?_ | refine R.mv rfl ?_ | refine R.not rfl ?_) | refine S.seq ?_ | refine S.region ?_ | refine S.condT rfl ?_)
    apply S.ret rr74
    case hx => repeat (first | exact ResAt.nil | apply ResAt.tmp rfl)
    refine ⟨_, _, .refl _, ?_, rfl, rfl⟩
    rw [show (rdN none most).2 = none from rfl, AHeap.set_eq h hp]
    exact .refl _
  | some b, hs, hp, c91, c93 =>
    have hb : b.length ≤ 140737488355328 := hs
    have c92 := number_spec b hb h
    cases hn : numA 0 0 b with
    | none =>
      have e1 : numP b = (0, 0) := by rw [numP, hn]; rfl
      have e2 : rdN (some b) most = (0, none) := by simp only [rdN, hn]
      replace c92 : ACalls Try.prog 92 [bys b] h (fun x h' => x = .tu [un 0, i64 0] ∧ h' = h) := by rw [e1] at c92; exact c92
      rw [e2]
      repeat' (first | refine S.nilK ?_ | (refine S.op rfl ?_; first | refine R.callQ (by decide) rfl c91 ?_ | refine R.callQ (by decide) rfl c92 ?_ | refine callU rfl rfl c93 (fun _ => ?_) | refine R.mv rfl ?_ | refine R.fieldAddr rfl ?_ | refine R.nilCheck rfl ?_ | refine R.load (by decide) rfl (by (repeat' (first | assumption)); first | done | fail) rfl ?_ | refine R.pickT rfl rfl ?_ | refine R.not rfl ?_ | refine R.extract rfl rfl ?_ | ((first | refine S.eqInt rfl rfl ?_ ?_) <;> intro hlt <;> try (exfalso; omega))) | refine S.skip rfl ?_ | refine S.seq ?_ | refine S.region ?_ | refine S.condT rfl ?_ | refine S.condF rfl ?_ | refine RRun.skip ?_)
      apply S.ret rr74
      case hx => repeat (first | exact ResAt.nil | apply ResAt.tmp rfl)
      exact ⟨_, _, .refl _, .refl _, rfl, rfl⟩
    | some vn =>
      obtain ⟨v, n⟩ := vn
      have e1 : numP b = (v, n) := by rw [numP, hn]; rfl
      obtain ⟨g1, g2, g3⟩ := numA_lt b 0 0 v n hn
      replace c92 : ACalls Try.prog 92 [bys b] h (fun x h' => x = .tu [un v, i64 n] ∧ h' = h) := by rw [e1] at c92; exact c92
      have hlen : (Go.Av.byteCells (dat (some b))).length = b.length := len_bytes b
      by_cases hm : most.toNat < v
      · have e2 : rdN (some b) most = (0, none) := by simp only [rdN, hn]; rw [if_pos hm]
        rw [e2]
        repeat' (first | refine S.nilK ?_ | (refine S.op rfl ?_; first | refine R.callQ (by decide) rfl c91 ?_ | refine R.callQ (by decide) rfl c92 ?_ | refine callU rfl rfl c93 (fun _ => ?_) | refine R.mv rfl ?_ | refine R.fieldAddr rfl ?_ | refine R.nilCheck rfl ?_ | refine R.load (by decide) rfl (by (repeat' (first | assumption)); first | done | fail) rfl ?_ | refine R.pickF rfl rfl ?_ | refine R.not rfl ?_ | refine R.extract rfl rfl ?_ | ((first | refine S.gtr rfl rfl ?_ ?_ | refine S.eqInt rfl rfl ?_ ?_) <;> intro hlt <;> try (exfalso; omega))) | refine S.seq ?_ | refine S.region ?_ | refine S.condT rfl ?_ | refine S.condF rfl ?_ | refine RRun.skip ?_)
        apply S.ret rr74
        case hx => repeat (first | exact ResAt.nil | apply ResAt.tmp rfl)
        exact ⟨_, _, .refl _, .refl _, rfl, rfl⟩
      · have e2 : rdN (some b) most = (UInt64.ofNat v, some (b.drop n)) := by simp only [rdN, hn]; rw [if_neg hm]
        rw [e2]
        repeat' (first | refine S.nilK ?_ | (refine S.op rfl ?_; first | refine R.callQ (by decide) rfl c91 ?_ | refine R.callQ (by decide) rfl c92 ?_ | refine S.sliceL rfl rfl (by omega) (by omega) (by decide) ?_ | refine R.mv rfl ?_ | refine R.fieldAddr rfl ?_ | refine R.nilCheck rfl ?_ | refine R.load (by decide) rfl (by (repeat' (first | assumption)); first | done | fail) rfl ?_ | refine R.pickF rfl rfl ?_ | refine R.not rfl ?_ | refine R.extract rfl rfl ?_ | ((first | refine S.gtr rfl rfl ?_ ?_ | refine S.eqInt rfl rfl ?_ ?_) <;> intro hlt <;> try (exfalso; omega))) | (refine S.op0 rfl ?_; first | refine S.store rfl rfl (by (repeat' (first | assumption)); first | done | fail) rfl rfl rfl (by rfl) rfl ?_) | refine S.seq ?_ | refine S.region ?_ | refine S.condF rfl ?_ | refine RRun.skip ?_)
        apply S.ret rr74
        case hx => repeat (first | exact ResAt.nil | apply ResAt.tmp rfl)
        refine ⟨_, _, .refl _, box_le (.box ?_), (un_u64 g1), rfl⟩
        refine .cons ?_ (.refl _)
        show ALe (.sl 1 ((Go.Av.byteCells b).drop n) .ro) (bys (b.drop n))
        rw [bys_drop]
        exact .refl _
def r75 : RCode :=
  (.seq (.region [
    ⟨(some 2), none, .act, .mv (.const (.int .i64 0))⟩])
  (.seq (.seq (.region [
    ⟨(some 3), none, .act, .mv (.tmp 0)⟩,
    ⟨(some 4), none, .act, .call 91 [(.tmp 3)]⟩,
    ⟨(some 5), none, .act, .un .not (.tmp 4)⟩,
    ⟨(some 6), none, .act, .mv (.tmp 5)⟩,
    ⟨(some 7), (some (6, false)), .act, .mv (.tmp 0)⟩,
    ⟨(some 8), (some (6, false)), .act, .nilCheck (.tmp 7)⟩,
    ⟨(some 9), (some (6, false)), .act, .fieldAddr 0 (.tmp 8)⟩,
    ⟨(some 10), (some (6, false)), .act, .load false 1 (.tmp 9)⟩,
    ⟨(some 11), (some (6, false)), .act, .len (.tmp 10)⟩,
    ⟨(some 12), (some (6, false)), .act, .bin .gtr (.tmp 11) (.const (.int .i64 0))⟩,
    ⟨(some 13), none, .act, .pick (.tmp 6) (.const (.bool true)) (.tmp 12)⟩])
  (.cond (.tmp 13)
   (.seq (.region [
     ⟨(some 2), none, .act, .mv (.const (.int .i64 30))⟩])
   .ret)
   .skip))
  (.seq (.region [
    ⟨(some 2), none, .act, .mv (.const (.int .i64 0))⟩])
  .ret)))
theorem res75 : ∃ c, Try.f75.body = some c ∧ resCode Try.prog 14 c = some r75 := ⟨_, rfl, by kernel_rfl⟩
theorem rr75 : resRes Try.prog Try.f75.results.toList = some [.tmp 2] := by kernel_rfl
theorem rEnd_spec (s : Option (List UInt8)) (hs : (dat s).length ≤ 140737488355328) (p : Nat) (h : AHeap) (hp : h p = some (.box (rdr s))) :
    ACalls Try.prog 75 [ptr p] h (fun x h' => x = i64 (if rdE s then 0 else 30) ∧ h' = h) := by
  have c91 := ok_spec s p h hp
  obtain ⟨c, hc1, hc2⟩ := res75
  refine ACalls.enter Try.func75 hc1 Try.ntmps75 hc2 (Nat.le_of_ble_eq_true rfl) rfl ?_
  match s, hs, hp, c91 with
  | none, hs, hp, c91 =>
    repeat' (first | refine S.nilK ?_ | (refine S.op rfl ?_; first | refine R.callQ (by decide) rfl c91 ?_ | refine R.mv rfl ?_ | refine R.pickT rfl rfl ?_ | refine R.not rfl ?_) | refine S.skip rfl ?_ | refine S.seq ?_ | refine S.region ?_ | refine S.condT rfl ?_)
    apply S.ret rr75
    case hx => repeat (first | exact ResAt.nil | apply ResAt.tmp rfl)
    exact ⟨rfl, rfl⟩
  | some [], hs, hp, c91 =>
    have hz : (Go.Av.byteCells (dat (some []))).length = 0 := rfl
    repeat' (first | refine S.nilK ?_ | (refine S.op rfl ?_; first | refine R.callQ (by decide) rfl c91 ?_ | refine R.mv rfl ?_ | refine R.fieldAddr rfl ?_ | refine R.nilCheck rfl ?_ | refine R.load (by decide) rfl (by (repeat' (first | assumption)); first | done | fail) rfl ?_ | refine R.pickF rfl rfl ?_ | refine R.len rfl ?_ | refine R.not rfl ?_ | ((first | refine S.gtr rfl rfl ?_ ?_) <;> intro hlt <;> try (exfalso; omega))) | refine S.seq ?_ | refine S.region ?_ | refine S.condF rfl ?_ | refine RRun.skip ?_)
    apply S.ret rr75
    case hx => repeat (first | exact ResAt.nil | apply ResAt.tmp rfl)
    exact ⟨rfl, rfl⟩
  | some (x :: r), hs, hp, c91 =>
    have hz : 0 < (Go.Av.byteCells (dat (some (x :: r)))).length := by rw [len_bytes]; simp [dat]
    repeat' (first | refine S.nilK ?_ | (refine S.op rfl ?_; first | refine R.callQ (by decide) rfl c91 ?_ | refine R.mv rfl ?_ | refine R.fieldAddr rfl ?_ | refine R.nilCheck rfl ?_ | refine R.load (by decide) rfl (by (repeat' (first | assumption)); first | done | fail) rfl ?_ | refine R.pickF rfl rfl ?_ | refine R.len rfl ?_ | refine R.not rfl ?_ | ((first | refine S.gtr rfl rfl ?_ ?_) <;> intro hlt <;> try (exfalso; omega))) | refine S.seq ?_ | refine S.region ?_ | refine S.condT rfl ?_)
    apply S.ret rr75
    case hx => repeat (first | exact ResAt.nil | apply ResAt.tmp rfl)
    exact ⟨rfl, rfl⟩
end Go.Proofs.Ytnmgamcmjjngcaa

namespace Go.Proofs.Ytnmgamcmjjngcaa
open Go.Av
def qdr (s : Option (List UInt8)) : List AV := [bys (dat s), bl s.isNone]
theorem qdr_nil (v : Bool) : ALes [.v (.slice none 0 0), .v (.bool v)] [bys [], bl v] := rdr_nil v
def r94 : RCode :=
  (.region [
    ⟨(some 2), none, .act, .mv (.tmp 0)⟩,
    ⟨(some 3), none, .act, .mv (.tmp 0)⟩,
    ⟨(some 4), none, .act, .nilCheck (.tmp 2)⟩,
    ⟨(some 5), none, .act, .fieldAddr 0 (.tmp 4)⟩,
    ⟨none, none, .act, .store 1 (.tmp 5) (.const (.slice none 0 0))⟩,
    ⟨(some 6), none, .act, .nilCheck (.tmp 3)⟩,
    ⟨(some 7), none, .act, .fieldAddr 1 (.tmp 6)⟩,
    ⟨none, none, .act, .store 1 (.tmp 7) (.const (.bool true))⟩])
theorem res94 : ∃ c, Try.f94.body = some c ∧ resCode Try.prog 8 c = some r94 := ⟨_, rfl, by kernel_rfl⟩
theorem rr94 : resRes Try.prog Try.f94.results.toList = some [] := by kernel_rfl
theorem qfail_spec (s : Option (List UInt8)) (p : Nat) (h : AHeap) (hp : h p = some (.box (qdr s))) : ACalls Try.prog 94 [ptr p] h (fun _ h' => h' = h.set p (.box (qdr none))) := by
  obtain ⟨c, hc1, hc2⟩ := res94
  refine ACalls.weak (ACalls.enter Try.func94 hc1 Try.ntmps94 hc2 (Nat.le_of_ble_eq_true rfl) rfl ?_)
  repeat' (first | refine S.nilK ?_ | (refine S.op rfl ?_; first | refine R.mv rfl ?_ | refine R.fieldAddr rfl ?_ | refine R.nilCheck rfl ?_) | (refine S.op0 rfl ?_; first | refine S.storeS rfl rfl rfl (by rfl) rfl (by first | decide | exact Nat.le_refl _ | exact Nat.le_of_ble_eq_true rfl) ?_ | refine S.store rfl rfl (by (repeat' (first | assumption)); first | done | fail) rfl rfl rfl (by rfl) rfl ?_) | refine S.region ?_)
  apply S.done rr94
  case hx => repeat (first | exact ResAt.nil)
  refine ⟨_, _, .refl _, ?_, rfl⟩
  exact box_le (.box (qdr_nil true))
def r77 : RCode :=
  (.seq (.region [
    ⟨(some 2), none, .act, .mv (.const (.int .i64 0))⟩])
  (.seq (.seq (.region [
    ⟨(some 3), none, .act, .mv (.tmp 0)⟩,
    ⟨(some 4), none, .act, .nilCheck (.tmp 3)⟩,
    ⟨(some 5), none, .act, .fieldAddr 1 (.tmp 4)⟩,
    ⟨(some 6), none, .act, .load false 1 (.tmp 5)⟩,
    ⟨(some 7), none, .act, .mv (.tmp 6)⟩,
    ⟨(some 8), (some (7, false)), .act, .mv (.tmp 0)⟩,
    ⟨(some 9), (some (7, false)), .act, .nilCheck (.tmp 8)⟩,
    ⟨(some 10), (some (7, false)), .act, .fieldAddr 0 (.tmp 9)⟩,
    ⟨(some 11), (some (7, false)), .act, .load false 1 (.tmp 10)⟩,
    ⟨(some 12), (some (7, false)), .act, .len (.tmp 11)⟩,
    ⟨(some 13), (some (7, false)), .act, .bin .gtr (.tmp 12) (.const (.int .i64 0))⟩,
    ⟨(some 14), none, .act, .pick (.tmp 7) (.const (.bool true)) (.tmp 13)⟩])
  (.cond (.tmp 14)
   (.seq (.region [
     ⟨(some 2), none, .act, .mv (.const (.int .i64 30))⟩])
   .ret)
   .skip))
  (.seq (.region [
    ⟨(some 2), none, .act, .mv (.const (.int .i64 0))⟩])
  .ret)))
theorem res77 : ∃ c, Try.f77.body = some c ∧ resCode Try.prog 15 c = some r77 := ⟨_, rfl, by kernel_rfl⟩
theorem rr77 : resRes Try.prog Try.f77.results.toList = some [.tmp 2] := by kernel_rfl
theorem qEnd_spec (s : Option (List UInt8)) (hs : (dat s).length ≤ 140737488355328) (p : Nat) (h : AHeap) (hp : h p = some (.box (qdr s))) :
    ACalls Try.prog 77 [ptr p] h (fun x h' => x = i64 (if rdE s then 0 else 30) ∧ h' = h) := by
  obtain ⟨c, hc1, hc2⟩ := res77
  refine ACalls.enter Try.func77 hc1 Try.ntmps77 hc2 (Nat.le_of_ble_eq_true rfl) rfl ?_
  match s, hs, hp with
  | none, hs, hp =>
    repeat' (first | refine S.nilK ?_ | (refine S.op rfl ?_; first | refine R.mv rfl ?_ | refine R.fieldAddr rfl ?_ | refine R.nilCheck rfl ?_ | refine R.load (by decide) rfl (by (repeat' (first | assumption)); first | done | fail) rfl ?_ | refine R.pickT rfl rfl ?_) | refine S.skip rfl ?_ | refine S.seq ?_ | refine S.region ?_ | refine S.condT rfl ?_)
    apply S.ret rr77
    case hx => repeat (first | exact ResAt.nil | apply ResAt.tmp rfl)
    exact ⟨rfl, rfl⟩
  | some [], hs, hp =>
    have hz : (Go.Av.byteCells (dat (some []))).length = 0 := rfl
    repeat' (first | refine S.nilK ?_ | (refine S.op rfl ?_; first | refine R.mv rfl ?_ | refine R.fieldAddr rfl ?_ | refine R.nilCheck rfl ?_ | refine R.load (by decide) rfl (by (repeat' (first | assumption)); first | done | fail) rfl ?_ | refine R.pickF rfl rfl ?_ | refine R.len rfl ?_ | ((first | refine S.gtr rfl rfl ?_ ?_) <;> intro hlt <;> try (exfalso; omega))) | refine S.seq ?_ | refine S.region ?_ | refine S.condF rfl ?_ | refine RRun.skip ?_)
    apply S.ret rr77
    case hx => repeat (first | exact ResAt.nil | apply ResAt.tmp rfl)
    exact ⟨rfl, rfl⟩
  | some (x :: r), hs, hp =>
    have hz : 0 < (Go.Av.byteCells (dat (some (x :: r)))).length := by rw [len_bytes]; simp [dat]
    repeat' (first | refine S.nilK ?_ | (refine S.op rfl ?_; first | refine R.mv rfl ?_ | refine R.fieldAddr rfl ?_ | refine R.nilCheck rfl ?_ | refine R.load (by decide) rfl (by (repeat' (first | assumption)); first | done | fail) rfl ?_ | refine R.pickF rfl rfl ?_ | refine R.len rfl ?_ | ((first | refine S.gtr rfl rfl ?_ ?_) <;> intro hlt <;> try (exfalso; omega))) | refine S.seq ?_ | refine S.region ?_ | refine S.condT rfl ?_)
    apply S.ret rr77
    case hx => repeat (first | exact ResAt.nil | apply ResAt.tmp rfl)
    exact ⟨rfl, rfl⟩
def r76l0 : RCode :=
  (.seq (.seq (.region [
    ⟨(some 8), none, .act, .mv (.tmp 6)⟩,
    ⟨(some 9), none, .act, .mv (.tmp 0)⟩,
    ⟨(some 10), none, .act, .nilCheck (.tmp 9)⟩,
    ⟨(some 11), none, .act, .fieldAddr 0 (.tmp 10)⟩,
    ⟨(some 12), none, .act, .load false 1 (.tmp 11)⟩,
    ⟨(some 13), none, .act, .len (.tmp 12)⟩,
    ⟨(some 14), none, .act, .bin .lss (.tmp 8) (.tmp 13)⟩,
    ⟨(some 15), none, .act, .mv (.tmp 14)⟩,
    ⟨(some 16), (some (15, true)), .act, .mv (.tmp 6)⟩,
    ⟨(some 17), (some (15, true)), .act, .bin .lss (.tmp 16) (.const (.int .i64 10))⟩,
    ⟨(some 18), none, .act, .pick (.tmp 15) (.tmp 17) (.const (.bool false))⟩])
  (.cond (.tmp 18)
   .skip
   (.exit 0)))
  (.seq (.block 1
   (.seq (.region [
     ⟨(some 21), none, .act, .mv (.tmp 0)⟩,
     ⟨(some 22), none, .act, .nilCheck (.tmp 21)⟩,
     ⟨(some 23), none, .act, .fieldAddr 0 (.tmp 22)⟩,
     ⟨(some 24), none, .act, .load false 1 (.tmp 23)⟩,
     ⟨(some 25), none, .act, .mv (.tmp 6)⟩,
     ⟨(some 26), none, .act, .indexAddr 1 (.tmp 24) (.tmp 25)⟩,
     ⟨(some 27), none, .act, .load false 1 (.tmp 26)⟩,
     ⟨(some 7), none, .act, .mv (.tmp 27)⟩])
   (.seq (.seq (.region [
     ⟨(some 28), none, .act, .mv (.tmp 6)⟩,
     ⟨(some 29), none, .act, .eq false .int (.tmp 28) (.const (.int .i64 0))⟩,
     ⟨(some 30), none, .act, .mv (.tmp 29)⟩,
     ⟨(some 31), (some (30, true)), .act, .mv (.tmp 7)⟩,
     ⟨(some 32), (some (30, true)), .act, .eq false .int (.tmp 31) (.const (.int .u8 128))⟩,
     ⟨(some 33), none, .act, .pick (.tmp 30) (.tmp 32) (.const (.bool false))⟩,
     ⟨(some 34), none, .act, .mv (.tmp 33)⟩,
     ⟨(some 35), (some (34, false)), .act, .mv (.tmp 5)⟩,
     ⟨(some 36), (some (34, false)), .act, .bin .geq (.tmp 35) (.const (.int .u64 144115188075855872))⟩,
     ⟨(some 37), none, .act, .pick (.tmp 34) (.const (.bool true)) (.tmp 36)⟩])
   (.cond (.tmp 37)
    (.exit 0)
    .skip))
   (.seq (.region [
     ⟨(some 38), none, .act, .mv (.tmp 5)⟩,
     ⟨(some 39), none, .act, .bin .mul (.tmp 38) (.const (.int .u64 128))⟩,
     ⟨(some 40), none, .act, .mv (.tmp 7)⟩,
     ⟨(some 41), none, .act, .bin .rem (.tmp 40) (.const (.int .u8 128))⟩,
     ⟨(some 42), none, .act, .convInt .u64 (.tmp 41)⟩,
     ⟨(some 43), none, .act, .bin .add (.tmp 39) (.tmp 42)⟩,
     ⟨(some 5), none, .act, .mv (.tmp 43)⟩])
   (.seq (.region [
     ⟨(some 44), none, .act, .mv (.tmp 7)⟩,
     ⟨(some 45), none, .act, .bin .lss (.tmp 44) (.const (.int .u8 128))⟩])
   (.cond (.tmp 45)
    (.seq (.seq (.region [
      ⟨(some 46), none, .act, .mv (.tmp 5)⟩,
      ⟨(some 47), none, .act, .mv (.tmp 1)⟩,
      ⟨(some 48), none, .act, .bin .gtr (.tmp 46) (.tmp 47)⟩])
    (.cond (.tmp 48)
     (.exit 0)
     .skip))
    (.seq (.region [
      ⟨(some 49), none, .act, .mv (.tmp 0)⟩,
      ⟨(some 50), none, .act, .mv (.tmp 0)⟩,
      ⟨(some 51), none, .act, .nilCheck (.tmp 50)⟩,
      ⟨(some 52), none, .act, .fieldAddr 0 (.tmp 51)⟩,
      ⟨(some 53), none, .act, .load false 1 (.tmp 52)⟩,
      ⟨(some 54), none, .act, .mv (.tmp 6)⟩,
      ⟨(some 55), none, .act, .bin .add (.tmp 54) (.const (.int .i64 1))⟩,
      ⟨(some 56), none, .act, .sliceSl 1 (.tmp 53) (some (.tmp 55)) none none⟩,
      ⟨(some 57), none, .act, .nilCheck (.tmp 49)⟩,
      ⟨(some 58), none, .act, .fieldAddr 0 (.tmp 57)⟩,
      ⟨none, none, .act, .store 1 (.tmp 58) (.tmp 56)⟩])
    (.seq (.region [
      ⟨(some 59), none, .act, .mv (.tmp 5)⟩,
      ⟨(some 4), none, .act, .mv (.tmp 59)⟩])
    .ret)))
    .skip))))))
  (.region [
    ⟨(some 19), none, .act, .mv (.tmp 6)⟩,
    ⟨(some 20), none, .act, .bin .add (.tmp 19) (.const (.int .i64 1))⟩,
    ⟨(some 6), none, .act, .mv (.tmp 20)⟩])))
def r76 : RCode :=
  (.seq (.region [
    ⟨(some 4), none, .act, .mv (.const (.int .u64 0))⟩])
  (.seq (.region [
    ⟨(some 5), none, .act, .mv (.const (.int .u64 0))⟩])
  (.seq (.seq (.region [
    ⟨(some 6), none, .act, .mv (.const (.int .i64 0))⟩])
  (.block 0
   (.loop r76l0)))
  (.seq (.region [
    ⟨(some 60), none, .act, .mv (.tmp 0)⟩,
    ⟨(some 61), none, .act, .call 94 [(.tmp 60)]⟩])
  (.seq (.region [
    ⟨(some 4), none, .act, .mv (.const (.int .u64 0))⟩])
  .ret)))))
theorem res76 : ∃ c, Try.f76.body = some c ∧ resCode Try.prog 62 c = some r76 := ⟨_, rfl, by kernel_rfl⟩
theorem rr76 : resRes Try.prog Try.f76.results.toList = some [.tmp 4] := by kernel_rfl
theorem qstep_bad (s : Option (List UInt8)) (hl : (dat s).length ≤ 140737488355328) (most : UInt64) (p : Nat) (h : AHeap) (hp : h p = some (.box (qdr s))) (k : List RT) (Q : AV → AHeap → Prop)
    (i n : Nat) (hie : i < (dat s).length) (c : UInt8) (hc : c.toNat < 256) (h1 : (Go.Av.byteCells (dat s))[((i : Nat) : Int).toNat]? = some (Go.Av.byteCell c)) (hi10 : i ≤ 10) (hx : i = 10 ∨ (i = 0 ∧ c.toNat = 128) ∨ 144115188075855872 ≤ n)
    (hk : RRun Try.prog Try.f76 62 k (Env.get [(0, ptr p)]) h Q) :
    RRun Try.prog Try.f76 62 (.code r76l0 :: .inLoop r76l0 :: .inBlock 0 :: k) (Env.get [(6, i64 i), (5, un n), (0, ptr p), (1, u64 most)]) h Q := by
  have hlen0 := len_bytes (dat s)
  repeat' (first | refine S.nilK ?_ | (refine S.op rfl ?_; first | refine R.indexAddr rfl rfl (by omega) h1 ?_ | refine R.mv rfl ?_ | refine R.fieldAddr rfl ?_ | refine R.nilCheck rfl ?_ | refine R.loadR rfl rfl ?_ | refine R.load (by decide) rfl (by (repeat' (first | assumption)); first | done | fail) rfl ?_ | refine R.pickT rfl rfl ?_ | refine R.pickF rfl rfl ?_ | refine R.len rfl ?_ | ((first | refine S.lss rfl rfl ?_ ?_ | refine S.geq rfl rfl ?_ ?_ | refine S.eqInt rfl rfl ?_ ?_) <;> intro hlt <;> try (exfalso; omega))) | refine S.skip rfl ?_ | refine S.seq ?_ | refine S.region ?_ | refine S.condT rfl ?_ | refine S.condF rfl ?_ | refine RRun.skip ?_ | refine RRun.block ?_ | refine RRun.exit rfl ?_)
  all_goals exact S.keep [0] rfl hk
theorem qstep_big (s : Option (List UInt8)) (hl : (dat s).length ≤ 140737488355328) (most : UInt64) (p : Nat) (h : AHeap) (hp : h p = some (.box (qdr s))) (k : List RT) (Q : AV → AHeap → Prop)
    (i n : Nat) (hie : i < (dat s).length) (c : UInt8) (hc : c.toNat < 256) (h1 : (Go.Av.byteCells (dat s))[((i : Nat) : Int).toNat]? = some (Go.Av.byteCell c)) (hi10 : i ≤ 10) (hx : ¬ (i = 10 ∨ (i = 0 ∧ c.toNat = 128) ∨ 144115188075855872 ≤ n)) (hc8 : c.toNat < 128) (hm : most.toNat < n * 128 + c.toNat % 128)
    (hk : RRun Try.prog Try.f76 62 k (Env.get [(0, ptr p)]) h Q) :
    RRun Try.prog Try.f76 62 (.code r76l0 :: .inLoop r76l0 :: .inBlock 0 :: k) (Env.get [(6, i64 i), (5, un n), (0, ptr p), (1, u64 most)]) h Q := by
  have hlen0 := len_bytes (dat s)
  repeat' (first | refine S.nilK ?_ | (refine S.op rfl ?_; first | refine R.indexAddr rfl rfl (by omega) h1 ?_ | refine S.mulN (m := 128) (by omega) rfl ?_ | refine S.rem8 rfl ?_ | refine S.convU (by omega) rfl ?_ | refine S.addN (by omega) rfl rfl ?_ | refine R.mv rfl ?_ | refine R.fieldAddr rfl ?_ | refine R.nilCheck rfl ?_ | refine R.loadR rfl rfl ?_ | refine R.load (by decide) rfl (by (repeat' (first | assumption)); first | done | fail) rfl ?_ | refine R.pickT rfl rfl ?_ | refine R.pickF rfl rfl ?_ | refine R.len rfl ?_ | ((first | refine S.lss rfl rfl ?_ ?_ | refine S.gtr rfl rfl ?_ ?_ | refine S.geq rfl rfl ?_ ?_ | refine S.eqInt rfl rfl ?_ ?_) <;> intro hlt <;> try (exfalso; omega))) | refine S.skip rfl ?_ | refine S.seq ?_ | refine S.region ?_ | refine S.condT rfl ?_ | refine S.condF rfl ?_ | refine RRun.skip ?_ | refine RRun.block ?_ | refine RRun.exit rfl ?_)
  all_goals exact S.keep [0] rfl hk
theorem qstep_end (s : Option (List UInt8)) (hl : (dat s).length ≤ 140737488355328) (most : UInt64) (p : Nat) (h : AHeap) (hp : h p = some (.box (qdr s))) (k : List RT) (Q : AV → AHeap → Prop)
    (i n : Nat) (hie : i < (dat s).length) (c : UInt8) (hc : c.toNat < 256) (h1 : (Go.Av.byteCells (dat s))[((i : Nat) : Int).toNat]? = some (Go.Av.byteCell c)) (hi10 : i ≤ 10) (hx : ¬ (i = 10 ∨ (i = 0 ∧ c.toNat = 128) ∨ 144115188075855872 ≤ n)) (hc8 : c.toNat < 128) (hm : ¬ most.toNat < n * 128 + c.toNat % 128)
    (hk : Q (un (n * 128 + c.toNat % 128)) (h.set p (.box (over (qdr s) (0 + 0) [.sl 1 ((Go.Av.byteCells (dat s)).drop (i + 1)) .ro])))) :
    RRun Try.prog Try.f76 62 (.code r76l0 :: .inLoop r76l0 :: .inBlock 0 :: k) (Env.get [(6, i64 i), (5, un n), (0, ptr p), (1, u64 most)]) h Q := by
  have hlen0 := len_bytes (dat s)
  repeat' (first | refine S.nilK ?_ | (refine S.op rfl ?_; first | refine R.indexAddr rfl rfl (by omega) h1 ?_ | refine S.mulN (m := 128) (by omega) rfl ?_ | refine S.rem8 rfl ?_ | refine S.convU (by omega) rfl ?_ | refine S.addN (by omega) rfl rfl ?_ | refine S.sliceL rfl rfl (by omega) (by omega) (by decide) ?_ | refine R.mv rfl ?_ | refine R.fieldAddr rfl ?_ | refine R.nilCheck rfl ?_ | refine R.loadR rfl rfl ?_ | refine R.load (by decide) rfl (by (repeat' (first | assumption)); first | done | fail) rfl ?_ | refine S.addI rfl rfl (by omega) ?_ | refine R.pickT rfl rfl ?_ | refine R.pickF rfl rfl ?_ | refine R.len rfl ?_ | ((first | refine S.lss rfl rfl ?_ ?_ | refine S.gtr rfl rfl ?_ ?_ | refine S.geq rfl rfl ?_ ?_ | refine S.eqInt rfl rfl ?_ ?_) <;> intro hlt <;> try (exfalso; omega))) | (refine S.op0 rfl ?_; first | refine S.store rfl rfl (by (repeat' (first | assumption)); first | done | fail) rfl rfl rfl (by rfl) rfl ?_) | refine S.skip rfl ?_ | refine S.seq ?_ | refine S.region ?_ | refine S.condT rfl ?_ | refine S.condF rfl ?_ | refine RRun.skip ?_ | refine RRun.block ?_)
  all_goals
    apply S.ret rr76
    case hx => repeat (first | exact ResAt.nil | apply ResAt.tmp rfl)
    exact hk
theorem qstep_more (s : Option (List UInt8)) (hl : (dat s).length ≤ 140737488355328) (most : UInt64) (p : Nat) (h : AHeap) (hp : h p = some (.box (qdr s))) (k : List RT) (Q : AV → AHeap → Prop)
    (i n : Nat) (hie : i < (dat s).length) (c : UInt8) (hc : c.toNat < 256) (h1 : (Go.Av.byteCells (dat s))[((i : Nat) : Int).toNat]? = some (Go.Av.byteCell c)) (hi10 : i ≤ 10) (hx : ¬ (i = 10 ∨ (i = 0 ∧ c.toNat = 128) ∨ 144115188075855872 ≤ n)) (hc8 : ¬ c.toNat < 128)
    (hk : RRun Try.prog Try.f76 62 (.inLoop r76l0 :: .inBlock 0 :: k) (Env.get [(6, i64 (i + 1 : Nat)), (5, un (n * 128 + c.toNat % 128)), (0, ptr p), (1, u64 most)]) h Q) :
    RRun Try.prog Try.f76 62 (.code r76l0 :: .inLoop r76l0 :: .inBlock 0 :: k) (Env.get [(6, i64 i), (5, un n), (0, ptr p), (1, u64 most)]) h Q := by
  have hlen0 := len_bytes (dat s)
  repeat' (first | refine S.nilK ?_ | (refine S.op rfl ?_; first | refine R.indexAddr rfl rfl (by omega) h1 ?_ | refine S.mulN (m := 128) (by omega) rfl ?_ | refine S.rem8 rfl ?_ | refine S.convU (by omega) rfl ?_ | refine S.addN (by omega) rfl rfl ?_ | refine R.mv rfl ?_ | refine R.fieldAddr rfl ?_ | refine R.nilCheck rfl ?_ | refine R.loadR rfl rfl ?_ | refine R.load (by decide) rfl (by (repeat' (first | assumption)); first | done | fail) rfl ?_ | refine S.addI rfl rfl (by omega) ?_ | refine R.pickT rfl rfl ?_ | refine R.pickF rfl rfl ?_ | refine R.len rfl ?_ | ((first | refine S.lss rfl rfl ?_ ?_ | refine S.geq rfl rfl ?_ ?_ | refine S.eqInt rfl rfl ?_ ?_) <;> intro hlt <;> try (exfalso; omega))) | refine S.skip rfl ?_ | refine S.seq ?_ | refine S.region ?_ | refine S.condT rfl ?_ | refine S.condF rfl ?_ | refine RRun.skip ?_ | refine RRun.block ?_ | refine RRun.inBlock ?_)
  all_goals
    rw [show ((i : Int) + 1) = ((i + 1 : Nat) : Int) by omega]
    exact S.keep [6, 5, 0, 1] rfl hk
theorem qnumber_loop (s : Option (List UInt8)) (hl : (dat s).length ≤ 140737488355328) (most : UInt64) (p : Nat) (h : AHeap) (hp : h p = some (.box (qdr s))) (k : List RT) (Q : AV → AHeap → Prop) (R0 : Option (Nat × Nat))
    (hr : ∀ v n : Nat, R0 = some (v, n) → v ≤ most.toNat → n ≤ (dat s).length → Q (un v) (h.set p (.box (over (qdr s) (0 + 0) [.sl 1 ((Go.Av.byteCells (dat s)).drop n) .ro]))))
    (hn : (∀ v n, R0 = some (v, n) → most.toNat < v) → RRun Try.prog Try.f76 62 k (Env.get [(0, ptr p)]) h Q) (m : Nat) :
    ∀ (i n : Nat), i + m = (dat s).length → n < 18446744073709551616 → i ≤ 10 → numA i n ((dat s).drop i) = R0 →
      RRun Try.prog Try.f76 62 (.inLoop r76l0 :: .inBlock 0 :: k) (Env.get [(6, i64 i), (5, un n), (0, ptr p), (1, u64 most)]) h Q := by
  have hlen0 := len_bytes (dat s)
  induction m with
  | zero =>
    intro i n hi hnn hi10 hR
    rw [List.drop_of_length_le (by omega)] at hR
    refine RRun.inLoop ?_
    repeat' (first | refine S.nilK ?_ | (refine S.op rfl ?_; first | refine R.mv rfl ?_ | refine R.fieldAddr rfl ?_ | refine R.nilCheck rfl ?_ | refine R.load (by decide) rfl (by (repeat' (first | assumption)); first | done | fail) rfl ?_ | refine R.pickF rfl rfl ?_ | refine R.len rfl ?_ | ((first | refine S.lss rfl rfl ?_ ?_) <;> intro hlt <;> try (exfalso; omega))) | refine S.skip rfl ?_ | refine S.seq ?_ | refine S.region ?_ | refine S.condF rfl ?_ | refine RRun.exit rfl ?_)
    all_goals exact S.keep [0] rfl (hn (by rw [← hR]; intro v n e; cases e))
  | succ m ih =>
    intro i n hi hnn hi10 hR
    have hie : i < (dat s).length := by omega
    have h1 : (Go.Av.byteCells (dat s))[((i : Nat) : Int).toNat]? = some (Go.Av.byteCell (dat s)[i]) := by simp [Go.Av.byteCells, hie]
    rw [List.drop_eq_getElem_cons hie] at hR
    generalize (dat s)[i] = c at h1 hR
    have hc : c.toNat < 256 := UInt8.toNat_lt c
    have ih' := ih (i + 1) (n * 128 + c.toNat % 128) (by omega)
    clear ih
    simp only [numA] at hR
    refine RRun.inLoop ?_
    by_cases hx : i = 10 ∨ (i = 0 ∧ c.toNat = 128) ∨ 144115188075855872 ≤ n
    · rw [if_pos hx] at hR
      exact qstep_bad s hl most p h hp k Q i n hie c hc h1 hi10 hx (hn (by rw [← hR]; intro v n e; cases e))
    · rw [if_neg hx] at hR
      by_cases hc8 : c.toNat < 128
      · rw [if_pos hc8] at hR
        by_cases hm : most.toNat < n * 128 + c.toNat % 128
        · exact qstep_big s hl most p h hp k Q i n hie c hc h1 hi10 hx hc8 hm (hn (by rw [← hR]; intro v n e; cases e; exact hm))
        · exact qstep_end s hl most p h hp k Q i n hie c hc h1 hi10 hx hc8 hm (hr _ _ hR.symm (by omega) (by omega))
      · rw [if_neg hc8] at hR
        exact qstep_more s hl most p h hp k Q i n hie c hc h1 hi10 hx hc8 (ih' (by omega) (by omega) hR)
theorem qN_spec (s : Option (List UInt8)) (hs : (dat s).length ≤ 140737488355328) (most : UInt64) (p : Nat) (h : AHeap) (hp : h p = some (.box (qdr s))) :
    ACalls Try.prog 76 [ptr p, u64 most] h (fun x h' => x = u64 (rdN s most).1 ∧ h' = h.set p (.box (qdr (rdN s most).2))) := by
  have c94 := qfail_spec s p h hp
  obtain ⟨c, hc1, hc2⟩ := res76
  refine ACalls.weak (ACalls.enter Try.func76 hc1 Try.ntmps76 hc2 (Nat.le_of_ble_eq_true rfl) rfl ?_)
  repeat' (first | refine S.nilK ?_ | (refine S.op rfl ?_; first | refine R.mv rfl ?_) | refine S.seq ?_ | refine S.region ?_ | refine RRun.block ?_)
  refine RRun.loopIn (S.keep [6, 5, 0, 1] rfl (qnumber_loop s hs most p h hp _ _ (numA 0 0 (dat s)) ?_ ?_ (dat s).length 0 0 (by omega) (by decide) (by decide) rfl))
  · intro v n hv hm hl
    obtain ⟨g1, g2, g3⟩ := numA_lt _ 0 0 v n hv
    match s, hv with
    | none, hv => cases hv
    | some b, hv =>
      have e2 : rdN (some b) most = (UInt64.ofNat v, some (b.drop n)) := by
        simp only [rdN, show numA 0 0 b = some (v, n) from hv]; rw [if_neg (by omega)]
      rw [e2]
      refine ⟨_, _, .refl _, box_le (.box ?_), (un_u64 g1), rfl⟩
      refine .cons ?_ (.refl _)
      show ALe (.sl 1 ((Go.Av.byteCells b).drop n) .ro) (bys (b.drop n))
      rw [bys_drop]
      exact .refl _
  · intro hv
    have e2 : rdN s most = (0, none) := by
      match s, hv with
      | none, hv => rfl
      | some b, hv =>
        cases hn : numA 0 0 b with
        | none => simp only [rdN, hn]
        | some vn =>
          obtain ⟨v, n⟩ := vn
          simp only [rdN, hn]
          rw [if_pos (hv v n hn)]
    rw [e2]
    repeat' (first | refine S.nilK ?_ | (refine S.op rfl ?_; first | refine callU rfl rfl c94 (fun _ => ?_) | refine R.mv rfl ?_) | refine S.seq ?_ | refine S.region ?_)
    apply S.ret rr76
    case hx => repeat (first | exact ResAt.nil | apply ResAt.tmp rfl)
    exact ⟨_, _, .refl _, .refl _, rfl, rfl⟩
end Go.Proofs.Ytnmgamcmjjngcaa

namespace Go.Proofs.Ytnmgamcmjjngcaa
open Go.Av
def full64 : UInt64 := 18446744073709551615
def ofLoop : Nat → UInt64 → Option (List UInt8) → List UInt64 → Option (List UInt64)
  | 0, _, s, acc => if rdE s then some acc else none
  | n + 1, was, s, acc => if (rdN s full64).1 ≤ was then none else ofLoop n (rdN s full64).1 (rdN s full64).2 (acc ++ [(rdN s full64).1])
def ofM (b : List UInt8) : Option (List UInt64) := ofLoop (rdN (some b) 9).1.toNat 0 (rdN (some b) 9).2 []
def ofAns (r : Option (List UInt64)) : AV := .tu [u64s (r.getD []), i64 (if r.isSome then 0 else 30)]
theorem rdN_le (s : Option (List UInt8)) (most : UInt64) : (rdN s most).1.toNat ≤ most.toNat := by
  match s with
  | none => exact Nat.zero_le _
  | some b =>
    cases hn : numA 0 0 b with
    | none => simp only [rdN, hn]; exact Nat.zero_le _
    | some p =>
      obtain ⟨v, k⟩ := p
      have := (numA_lt b 0 0 v k hn).1
      simp only [rdN, hn]
      split
      · exact Nat.zero_le _
      · show (UInt64.ofNat v).toNat ≤ _
        rw [UInt64.toNat_ofNat_of_lt' this]; omega
theorem ofLoop_len : ∀ (n : Nat) (was : UInt64) (s : Option (List UInt8)) (acc r : List UInt64), ofLoop n was s acc = some r → r.length = acc.length + n
  | 0, was, s, acc, r, h => by
    simp only [ofLoop] at h
    split at h
    · cases h; rfl
    · cases h
  | n + 1, was, s, acc, r, h => by
    simp only [ofLoop] at h
    split at h
    · cases h
    · have := ofLoop_len n _ _ _ r h
      simp only [List.length_append, List.length_singleton] at this
      omega
theorem ofM_len (b : List UInt8) (r : List UInt64) (h : ofM b = some r) : r.length ≤ 9 := by
  have h1 := ofLoop_len _ _ _ _ r h
  have h2 := rdN_le (some b) 9
  have h3 : (9 : UInt64).toNat = 9 := rfl
  simp only [List.length_nil] at h1
  omega
def grows (l : List UInt64) (c : Cap) : AV := .sl 1 (l.map fun x => [u64 x]) c
theorem grows_add (l : List UInt64) (x : UInt64) (c : Cap) : .sl 1 ((l.map fun x => [u64 x]) ++ [[u64 x]]) c = grows (l ++ [x]) c := by simp [grows]
theorem u64_one (x : UInt64) : ∀ e ∈ [[u64 x]], ∀ a ∈ e, a.one = true := by
  intro e he a ha
  simp only [List.mem_singleton] at he
  subst he
  simp only [List.mem_singleton] at ha
  subst ha; rfl
def r37l0 : RCode :=
  (.seq (.seq (.region [
    ⟨(some 13), none, .act, .mv (.tmp 7)⟩,
    ⟨(some 14), none, .act, .bin .gtr (.tmp 13) (.const (.int .u64 0))⟩])
  (.cond (.tmp 14)
   .skip
   (.exit 0)))
  (.seq (.block 1
   (.seq (.region [
     ⟨(some 17), none, .act, .mv (.tmp 4)⟩,
     ⟨(some 18), none, .act, .call 74 [(.tmp 17), (.const (.int .u64 18446744073709551615))]⟩,
     ⟨(some 8), none, .act, .mv (.tmp 18)⟩])
   (.seq (.seq (.region [
     ⟨(some 19), none, .act, .mv (.tmp 8)⟩,
     ⟨(some 20), none, .act, .mv (.tmp 6)⟩,
     ⟨(some 21), none, .act, .bin .leq (.tmp 19) (.tmp 20)⟩])
   (.cond (.tmp 21)
    (.seq (.region [
      ⟨(some 2), none, .act, .mv (.const (.slice none 0 0))⟩,
      ⟨(some 3), none, .act, .mv (.const (.int .i64 30))⟩])
    .ret)
    .skip))
   (.seq (.region [
     ⟨(some 22), none, .act, .mv (.tmp 8)⟩,
     ⟨(some 6), none, .act, .mv (.tmp 22)⟩])
   (.region [
     ⟨(some 23), none, .act, .mv (.tmp 5)⟩,
     ⟨(some 24), none, .act, .mv (.tmp 8)⟩,
     ⟨(some 25), none, .act, .buildSl 1 [(.int .u64 0)] 1 [(0, (.tmp 24))]⟩,
     ⟨(some 26), none, .act, .append 1 8 [(.int .u64 0)] (.tmp 23) (.tmp 25)⟩,
     ⟨(some 5), none, .act, .mv (.tmp 26)⟩])))))
  (.region [
    ⟨(some 15), none, .act, .mv (.tmp 7)⟩,
    ⟨(some 16), none, .act, .bin .sub (.tmp 15) (.const (.int .u64 1))⟩,
    ⟨(some 7), none, .act, .mv (.tmp 16)⟩])))
def r37 : RCode :=
  (.seq (.region [
    ⟨(some 2), none, .act, .mv (.const (.slice none 0 0))⟩,
    ⟨(some 3), none, .act, .mv (.const (.int .i64 0))⟩])
  (.seq (.region [
    ⟨(some 9), none, .act, .mv (.tmp 0)⟩,
    ⟨(some 10), none, .act, .call 73 [(.tmp 9)]⟩,
    ⟨(some 4), none, .act, .mv (.tmp 10)⟩])
  (.seq (.region [
    ⟨(some 5), none, .act, .mv (.const (.slice none 0 0))⟩])
  (.seq (.region [
    ⟨(some 6), none, .act, .mv (.const (.int .u64 0))⟩])
  (.seq (.seq (.region [
    ⟨(some 11), none, .act, .mv (.tmp 4)⟩,
    ⟨(some 12), none, .act, .call 74 [(.tmp 11), (.const (.int .u64 9))]⟩,
    ⟨(some 7), none, .act, .mv (.tmp 12)⟩])
  (.block 0
   (.loop r37l0)))
  (.seq (.seq (.region [
    ⟨(some 27), none, .act, .mv (.tmp 4)⟩,
    ⟨(some 28), none, .act, .call 75 [(.tmp 27)]⟩,
    ⟨(some 29), none, .act, .eq true .int (.tmp 28) (.const (.int .i64 0))⟩])
  (.cond (.tmp 29)
   (.seq (.region [
     ⟨(some 2), none, .act, .mv (.const (.slice none 0 0))⟩,
     ⟨(some 3), none, .act, .mv (.const (.int .i64 30))⟩])
   .ret)
   .skip))
  (.seq (.region [
    ⟨(some 30), none, .act, .mv (.tmp 5)⟩,
    ⟨(some 2), none, .act, .mv (.tmp 30)⟩,
    ⟨(some 3), none, .act, .mv (.const (.int .i64 0))⟩])
  .ret)))))))
theorem res37 : ∃ c, Try.f37.body = some c ∧ resCode Try.prog 31 c = some r37 := ⟨_, rfl, by kernel_rfl⟩
theorem rr37 : resRes Try.prog Try.f37.results.toList = some [.tmp 2, .tmp 3] := by kernel_rfl
theorem of_loop (p : Nat) (h₀ : AHeap) (h0p : h₀ p = none) (k : List RT) (R0 : Option (List UInt64))
    (hk : ∀ h c s acc, Grow h₀ h c → h p = some (.box (rdr s)) → (dat s).length ≤ 140737488355328 → R0 = (if rdE s then some acc else none) → RRun Try.prog Try.f37 31 k (Env.get [(4, ptr p), (5, grows acc c)]) h (Weak fun x h' => x = ofAns R0 ∧ h' = h₀)) (m : Nat) :
    ∀ (n was : UInt64) (s : Option (List UInt8)) (acc : List UInt64) (h : AHeap) (c : Cap), n.toNat = m → acc.length + m ≤ 9 → Grow h₀ h c → h p = some (.box (rdr s)) → (dat s).length ≤ 140737488355328 → R0 = ofLoop m was s acc →
      RRun Try.prog Try.f37 31 (.inLoop r37l0 :: .inBlock 0 :: k) (Env.get [(7, u64 n), (4, ptr p), (5, grows acc c), (6, u64 was)]) h (Weak fun x h' => x = ofAns R0 ∧ h' = h₀) := by
  induction m with
  | zero =>
    intro n was s acc h c hn hacc hg hp hs hR
    refine RRun.inLoop ?_
    repeat' (first | refine S.nilK ?_ | (refine S.op rfl ?_; first | refine R.mv rfl ?_ | ((first | refine S.gtr rfl rfl ?_ ?_) <;> intro hlt <;> try (exfalso; omega))) | refine S.seq ?_ | refine S.region ?_ | refine S.condF rfl ?_ | refine RRun.exit rfl ?_)
    exact S.keep [4, 5] rfl (hk h c s acc hg hp hs hR)
  | succ m ih =>
    intro n was s acc h c hn hacc hg hp hs hR
    have c74 := rN_spec s hs full64 p h hp
    have hs' := rdN_len s full64 _ hs
    have hn1 : (n - 1).toNat = m := by
      have h1 : (1 : UInt64) ≤ n := UInt64.le_iff_toNat_le.2 (by show 1 ≤ n.toNat; omega)
      rw [UInt64.toNat_sub_of_le _ _ h1]
      show n.toNat - 1 = m
      omega
    have hg1 := hg.setBox (rdr (rdN s full64).2) hp h0p
    have hlen : (acc.map fun x => [u64 x]).length = acc.length := by simp
    simp only [ofLoop] at hR
    have ih' := fun h c hg hp => ih (n - 1) (rdN s full64).1 (rdN s full64).2 (acc ++ [(rdN s full64).1]) h c hn1 (by simp only [List.length_append, List.length_singleton]; omega) hg hp hs'
    generalize (rdN s full64).1 = x at c74 hR ih'
    generalize (rdN s full64).2 = s' at c74 hR ih' hg1 hs'
    refine RRun.inLoop ?_
    by_cases hx : x ≤ was
    · have hx2 := UInt64.le_iff_toNat_le.1 hx
      rw [if_pos hx] at hR
      subst hR
      repeat' (first | refine S.nilK ?_ | (refine S.op rfl ?_; first | refine callS rfl rfl c74 ?_ | refine R.mv rfl ?_ | ((first | refine S.gtr rfl rfl ?_ ?_ | refine S.leq rfl rfl ?_ ?_) <;> intro hlt <;> try (exfalso; omega))) | refine S.seq ?_ | refine S.region ?_ | refine S.condT rfl ?_ | refine RRun.skip ?_ | refine RRun.block ?_)
      apply S.ret rr37
      case hx => repeat (first | exact ResAt.nil | apply ResAt.tmp rfl)
      exact ⟨_, _, .tu (.cons (.nilSl 1 (c := .ro) trivial) (.refl _)), hg1.le, rfl, rfl⟩
    · have hx2 : ¬ x.toNat ≤ was.toNat := fun e => hx (UInt64.le_iff_toNat_le.2 e)
      rw [if_neg hx] at hR
      repeat' (first | refine S.nilK ?_ | (refine S.op rfl ?_; first | refine callS rfl rfl c74 ?_ | refine R.mv rfl ?_ | refine R.buildSl rfl rfl rfl (by decide) ?_ | ((first | refine S.gtr rfl rfl ?_ ?_ | refine S.leq rfl rfl ?_ ?_) <;> intro hlt <;> try (exfalso; omega))) | refine S.seq ?_ | refine S.region ?_ | refine S.condT rfl ?_ | refine S.condF rfl ?_ | refine RRun.skip ?_ | refine RRun.block ?_)
      refine S.op rfl (S.appendG rfl hg1 rfl (.sl _ _) rfl (.sl [[u64 x]] _) (u64_one x) ?_ ?_ (fun c' h' hg' hbox => ?_))
      · rw [hlen]; simp; omega
      · rw [hlen]; simp; omega
      have hp' := hbox p _ (AHeap.set_same _ _ _)
      rw [grows_add]
      repeat' (first | refine S.nilK ?_ | (refine S.op rfl ?_; first | refine R.mv rfl ?_ | refine S.subUc rfl (by decide) ?_) | refine S.region ?_ | refine RRun.inBlock ?_)
      exact S.keep [7, 4, 5, 6] rfl (ih' h' c' hg' hp' hR)
theorem of_spec (b : List UInt8) (hb : b.length ≤ 140737488355328) (h : AHeap) : ACalls Try.prog 37 [bys b] h (fun x h' => x = ofAns (ofM b) ∧ h' = h) := by
  obtain ⟨c, hc1, hc2⟩ := res37
  refine ACalls.weak (ACalls.enter Try.func37 hc1 Try.ntmps37 hc2 (Nat.le_of_ble_eq_true rfl) rfl ?_)
  repeat' (first | refine S.nilK ?_ | (refine S.op rfl ?_; first | refine R.mv rfl ?_) | refine S.seq ?_ | refine S.region ?_)
  refine S.op rfl (R.call rfl rfl (ACalls.mono (read_spec b hb h) ?_))
  rintro _ _ ⟨p, hp, rfl, rfl⟩
  have c74 := rN_spec (some b) hb 9 p _ (AHeap.set_same h p _)
  have hs' := rdN_len (some b) 9 _ hb
  have h9 := rdN_le (some b) 9
  have h9' : (9 : UInt64).toNat = 9 := rfl
  repeat' (first | refine S.nilK ?_ | (refine S.op rfl ?_; first | refine callS rfl rfl c74 ?_ | refine R.mv rfl ?_) | refine S.seq ?_ | refine S.region ?_ | refine RRun.block ?_)
  rw [AHeap.set_set]
  refine RRun.loopIn (S.keep [7, 4, 5, 6] rfl ?_)
  refine RRun.envs (l' := [(7, u64 (rdN (some b) 9).1), (4, ptr p), (5, grows [] .full), (6, u64 0)]) (.cons _ (.refl _) (.cons _ (.refl _) (.cons _ (.nilSl 1 trivial) (.cons _ (.refl _) .nil)))) ?_
  refine of_loop p h hp _ (ofM b) ?_ (rdN (some b) 9).1.toNat (rdN (some b) 9).1 0 (rdN (some b) 9).2 [] _ .full rfl (by simp only [List.length_nil]; omega) (Grow.of_le ((AHeap.le.refl h).set _ hp)) (AHeap.set_same _ _ _) hs' rfl
  intro h1 c1 s acc hg hp1 hs hR
  have c75 := rEnd_spec s hs p h1 hp1
  cases hE : rdE s with
  | true =>
    rw [hE, if_pos rfl] at c75 hR
    rw [hR]
    repeat' (first | refine S.nilK ?_ | (refine S.op rfl ?_; first | refine R.callQ (by decide) rfl c75 ?_ | refine R.mv rfl ?_ | ((first | refine S.eqInt rfl rfl ?_ ?_) <;> intro hlt <;> try (exfalso; omega))) | refine S.seq ?_ | refine S.region ?_ | refine S.condF rfl ?_ | refine RRun.skip ?_)
    apply S.ret rr37
    case hx => repeat (first | exact ResAt.nil | apply ResAt.tmp rfl)
    exact ⟨_, _, .tu (.cons (.toRo _ _ _) (.refl _)), hg.le, rfl, rfl⟩
  | false =>
    rw [hE, if_neg (by decide)] at c75 hR
    rw [hR]
    repeat' (first | refine S.nilK ?_ | (refine S.op rfl ?_; first | refine R.callQ (by decide) rfl c75 ?_ | refine R.mv rfl ?_ | ((first | refine S.eqInt rfl rfl ?_ ?_) <;> intro hlt <;> try (exfalso; omega))) | refine S.seq ?_ | refine S.region ?_ | refine S.condT rfl ?_)
    apply S.ret rr37
    case hx => repeat (first | exact ResAt.nil | apply ResAt.tmp rfl)
    exact ⟨_, _, .tu (.cons (.nilSl 1 (c := .ro) trivial) (.refl _)), hg.le, rfl, rfl⟩
def r38l0 : RCode :=
  (.seq (.seq (.region [
    ⟨(some 15), none, .act, .mv (.tmp 8)⟩,
    ⟨(some 16), none, .act, .mv (.tmp 5)⟩,
    ⟨(some 17), none, .act, .bin .lss (.tmp 15) (.tmp 16)⟩])
  (.cond (.tmp 17)
   .skip
   (.exit 0)))
  (.seq (.block 1
   (.seq (.region [
     ⟨(some 20), none, .act, .mv (.tmp 4)⟩,
     ⟨(some 21), none, .act, .call 76 [(.tmp 20), (.const (.int .u64 18446744073709551615))]⟩,
     ⟨(some 9), none, .act, .mv (.tmp 21)⟩])
   (.seq (.seq (.region [
     ⟨(some 22), none, .act, .mv (.tmp 9)⟩,
     ⟨(some 23), none, .act, .mv (.tmp 7)⟩,
     ⟨(some 24), none, .act, .bin .leq (.tmp 22) (.tmp 23)⟩])
   (.cond (.tmp 24)
    (.seq (.region [
      ⟨(some 2), none, .act, .mv (.const (.slice none 0 0))⟩,
      ⟨(some 3), none, .act, .mv (.const (.int .i64 30))⟩])
    .ret)
    .skip))
   (.seq (.region [
     ⟨(some 25), none, .act, .mv (.tmp 6)⟩,
     ⟨(some 26), none, .act, .mv (.tmp 9)⟩,
     ⟨(some 27), none, .act, .buildSl 1 [(.int .u64 0)] 1 [(0, (.tmp 26))]⟩,
     ⟨(some 28), none, .act, .append 1 8 [(.int .u64 0)] (.tmp 25) (.tmp 27)⟩,
     ⟨(some 6), none, .act, .mv (.tmp 28)⟩])
   (.region [
     ⟨(some 29), none, .act, .mv (.tmp 9)⟩,
     ⟨(some 7), none, .act, .mv (.tmp 29)⟩])))))
  (.region [
    ⟨(some 18), none, .act, .mv (.tmp 8)⟩,
    ⟨(some 19), none, .act, .bin .add (.tmp 18) (.const (.int .u64 1))⟩,
    ⟨(some 8), none, .act, .mv (.tmp 19)⟩])))
def r38 : RCode :=
  (.seq (.region [
    ⟨(some 2), none, .act, .mv (.const (.slice none 0 0))⟩,
    ⟨(some 3), none, .act, .mv (.const (.int .i64 0))⟩])
  (.seq (.region [
    ⟨(some 10), none, .act, .mv (.tmp 0)⟩,
    ⟨(some 11), none, .act, .build [(.slice none 0 0), (.bool false)] [(0, 1, (.tmp 10))]⟩,
    ⟨(some 12), none, .act, .box (.tmp 11)⟩,
    ⟨(some 4), none, .act, .mv (.tmp 12)⟩])
  (.seq (.region [
    ⟨(some 13), none, .act, .mv (.tmp 4)⟩,
    ⟨(some 14), none, .act, .call 76 [(.tmp 13), (.const (.int .u64 9))]⟩,
    ⟨(some 5), none, .act, .mv (.tmp 14)⟩])
  (.seq (.region [
    ⟨(some 6), none, .act, .mv (.const (.slice none 0 0))⟩])
  (.seq (.region [
    ⟨(some 7), none, .act, .mv (.const (.int .u64 0))⟩])
  (.seq (.seq (.region [
    ⟨(some 8), none, .act, .mv (.const (.int .u64 0))⟩])
  (.block 0
   (.loop r38l0)))
  (.seq (.seq (.region [
    ⟨(some 30), none, .act, .mv (.tmp 4)⟩,
    ⟨(some 31), none, .act, .call 77 [(.tmp 30)]⟩,
    ⟨(some 32), none, .act, .eq true .int (.tmp 31) (.const (.int .i64 0))⟩])
  (.cond (.tmp 32)
   (.seq (.region [
     ⟨(some 2), none, .act, .mv (.const (.slice none 0 0))⟩,
     ⟨(some 3), none, .act, .mv (.const (.int .i64 30))⟩])
   .ret)
   .skip))
  (.seq (.region [
    ⟨(some 33), none, .act, .mv (.tmp 6)⟩,
    ⟨(some 2), none, .act, .mv (.tmp 33)⟩,
    ⟨(some 3), none, .act, .mv (.const (.int .i64 0))⟩])
  .ret))))))))
theorem res38 : ∃ c, Try.f38.body = some c ∧ resCode Try.prog 34 c = some r38 := ⟨_, rfl, by kernel_rfl⟩
theorem rr38 : resRes Try.prog Try.f38.results.toList = some [.tmp 2, .tmp 3] := by kernel_rfl
theorem mof_loop (p : Nat) (h₀ : AHeap) (h0p : h₀ p = none) (k : List RT) (R0 : Option (List UInt64)) (n : UInt64)
    (hk : ∀ h c s acc, Grow h₀ h c → h p = some (.box (qdr s)) → (dat s).length ≤ 140737488355328 → R0 = (if rdE s then some acc else none) → RRun Try.prog Try.f38 34 k (Env.get [(4, ptr p), (6, grows acc c)]) h (Weak fun x h' => x = ofAns R0 ∧ h' = h₀)) (m : Nat) :
    ∀ (i was : UInt64) (s : Option (List UInt8)) (acc : List UInt64) (h : AHeap) (c : Cap), i.toNat + m = n.toNat → acc.length + m ≤ 9 → Grow h₀ h c → h p = some (.box (qdr s)) → (dat s).length ≤ 140737488355328 → R0 = ofLoop m was s acc →
      RRun Try.prog Try.f38 34 (.inLoop r38l0 :: .inBlock 0 :: k) (Env.get [(8, u64 i), (5, u64 n), (4, ptr p), (6, grows acc c), (7, u64 was)]) h (Weak fun x h' => x = ofAns R0 ∧ h' = h₀) := by
  induction m with
  | zero =>
    intro i was s acc h c hn hacc hg hp hs hR
    refine RRun.inLoop ?_
    repeat' (first | refine S.nilK ?_ | (refine S.op rfl ?_; first | refine R.mv rfl ?_ | ((first | refine S.lss rfl rfl ?_ ?_) <;> intro hlt <;> try (exfalso; omega))) | refine S.seq ?_ | refine S.region ?_ | refine S.condF rfl ?_ | refine RRun.exit rfl ?_)
    exact S.keep [4, 6] rfl (hk h c s acc hg hp hs hR)
  | succ m ih =>
    intro i was s acc h c hn hacc hg hp hs hR
    have c76 := qN_spec s hs full64 p h hp
    have hs' := rdN_len s full64 _ hs
    have hn1 : (i + 1).toNat + m = n.toNat := by
      have := n.toNat_lt
      rw [UInt64.toNat_add]
      show (i.toNat + 1) % 18446744073709551616 + m = n.toNat
      rw [Nat.mod_eq_of_lt (by omega)]; omega
    have hg1 := hg.setBox (qdr (rdN s full64).2) hp h0p
    have hlen : (acc.map fun x => [u64 x]).length = acc.length := by simp
    simp only [ofLoop] at hR
    have ih' := fun h c hg hp => ih (i + 1) (rdN s full64).1 (rdN s full64).2 (acc ++ [(rdN s full64).1]) h c hn1 (by simp only [List.length_append, List.length_singleton]; omega) hg hp hs'
    generalize (rdN s full64).1 = x at c76 hR ih'
    generalize (rdN s full64).2 = s' at c76 hR ih' hg1 hs'
    refine RRun.inLoop ?_
    by_cases hx : x ≤ was
    · have hx2 := UInt64.le_iff_toNat_le.1 hx
      rw [if_pos hx] at hR
      subst hR
      repeat' (first | refine S.nilK ?_ | (refine S.op rfl ?_; first | refine callS rfl rfl c76 ?_ | refine R.mv rfl ?_ | ((first | refine S.lss rfl rfl ?_ ?_ | refine S.leq rfl rfl ?_ ?_) <;> intro hlt <;> try (exfalso; omega))) | refine S.seq ?_ | refine S.region ?_ | refine S.condT rfl ?_ | refine RRun.skip ?_ | refine RRun.block ?_)
      apply S.ret rr38
      case hx => repeat (first | exact ResAt.nil | apply ResAt.tmp rfl)
      exact ⟨_, _, .tu (.cons (.nilSl 1 (c := .ro) trivial) (.refl _)), hg1.le, rfl, rfl⟩
    · have hx2 : ¬ x.toNat ≤ was.toNat := fun e => hx (UInt64.le_iff_toNat_le.2 e)
      rw [if_neg hx] at hR
      repeat' (first | refine S.nilK ?_ | (refine S.op rfl ?_; first | refine callS rfl rfl c76 ?_ | refine R.mv rfl ?_ | refine R.buildSl rfl rfl rfl (by decide) ?_ | ((first | refine S.lss rfl rfl ?_ ?_ | refine S.leq rfl rfl ?_ ?_) <;> intro hlt <;> try (exfalso; omega))) | refine S.seq ?_ | refine S.region ?_ | refine S.condT rfl ?_ | refine S.condF rfl ?_ | refine RRun.skip ?_ | refine RRun.block ?_)
      refine S.op rfl (S.appendG rfl hg1 rfl (.sl _ _) rfl (.sl [[u64 x]] _) (u64_one x) ?_ ?_ (fun c' h' hg' hbox => ?_))
      · rw [hlen]; simp; omega
      · rw [hlen]; simp; omega
      have hp' := hbox p _ (AHeap.set_same _ _ _)
      rw [grows_add]
      repeat' (first | refine S.nilK ?_ | (refine S.op rfl ?_; first | refine R.mv rfl ?_ | refine S.addUc rfl (by decide) ?_) | refine S.region ?_ | refine RRun.inBlock ?_)
      exact S.keep [8, 5, 4, 6, 7] rfl (ih' h' c' hg' hp' hR)
theorem mof_spec (bs : List UInt8) (hbs : bs.length ≤ 140737488355328) (h : AHeap) : ACalls Try.prog 38 [bys bs] h (fun x h' => x = ofAns (ofM bs) ∧ h' = h) := by
  obtain ⟨c, hc1, hc2⟩ := res38
  refine ACalls.weak (ACalls.enter Try.func38 hc1 Try.ntmps38 hc2 (Nat.le_of_ble_eq_true rfl) rfl ?_)
  have c76 := fun p h' => qN_spec (some bs) hbs 9 p h'
  have hs' := rdN_len (some bs) 9 _ hbs
  have h9 := rdN_le (some bs) 9
  have h9' : (9 : UInt64).toNat = 9 := rfl
  repeat' (first | refine S.nilK ?_ | (refine S.op rfl ?_; first | refine R.mv rfl ?_ | refine R.box rfl rfl rfl (fun b hb => ?_) | refine R.build rfl rfl ?_) | refine S.seq ?_ | refine S.region ?_)
  revert b hb; intro p hp
  refine S.op rfl (callS rfl rfl (c76 p _ (AHeap.set_same h p _)) ?_)
  rw [AHeap.set_set]
  repeat' (first | refine S.nilK ?_ | (refine S.op rfl ?_; first | refine R.mv rfl ?_) | refine S.seq ?_ | refine S.region ?_ | refine RRun.block ?_)
  refine RRun.loopIn (S.keep [8, 5, 4, 6, 7] rfl ?_)
  refine RRun.envs (l' := [(8, u64 0), (5, u64 (rdN (some bs) 9).1), (4, ptr p), (6, grows [] .full), (7, u64 0)]) (.cons _ (.refl _) (.cons _ (.refl _) (.cons _ (.refl _) (.cons _ (.nilSl 1 trivial) (.cons _ (.refl _) .nil))))) ?_
  refine mof_loop p h hp _ (ofM bs) (rdN (some bs) 9).1 ?_ (rdN (some bs) 9).1.toNat 0 0 (rdN (some bs) 9).2 [] _ .full (by show 0 + _ = _; omega) (by simp only [List.length_nil]; omega) (Grow.of_le ((AHeap.le.refl h).set _ hp)) (AHeap.set_same _ _ _) hs' rfl
  intro h1 c1 s acc hg hp1 hs hR
  have c77 := qEnd_spec s hs p h1 hp1
  cases hE : rdE s with
  | true =>
    rw [hE, if_pos rfl] at c77 hR
    rw [hR]
    repeat' (first | refine S.nilK ?_ | (refine S.op rfl ?_; first | refine R.callQ (by decide) rfl c77 ?_ | refine R.mv rfl ?_ | ((first | refine S.eqInt rfl rfl ?_ ?_) <;> intro hlt <;> try (exfalso; omega))) | refine S.seq ?_ | refine S.region ?_ | refine S.condF rfl ?_ | refine RRun.skip ?_)
    apply S.ret rr38
    case hx => repeat (first | exact ResAt.nil | apply ResAt.tmp rfl)
    exact ⟨_, _, .tu (.cons (.toRo _ _ _) (.refl _)), hg.le, rfl, rfl⟩
  | false =>
    rw [hE, if_neg (by decide)] at c77 hR
    rw [hR]
    repeat' (first | refine S.nilK ?_ | (refine S.op rfl ?_; first | refine R.callQ (by decide) rfl c77 ?_ | refine R.mv rfl ?_ | ((first | refine S.eqInt rfl rfl ?_ ?_) <;> intro hlt <;> try (exfalso; omega))) | refine S.seq ?_ | refine S.region ?_ | refine S.condT rfl ?_)
    apply S.ret rr38
    case hx => repeat (first | exact ResAt.nil | apply ResAt.tmp rfl)
    exact ⟨_, _, .tu (.cons (.nilSl 1 (c := .ro) trivial) (.refl _)), hg.le, rfl, rfl⟩
end Go.Proofs.Ytnmgamcmjjngcaa

namespace Go.Proofs.Ytnmgamcmjjngcaa
open Go.Av
theorem byteNat {n : Nat} (h : n < 256) : (UInt8.ofNat n).toNat = n := by simp; omega
theorem numA_hi : ∀ (f m : Nat) (x : List UInt8), m < f → m < 144115188075855872 → numA 0 0 (hiB m ++ x) = numA (hiB m).length m x
  | 0, m, x, hf, _ => by omega
  | f + 1, m, x, hf, hm => by
    by_cases h0 : m = 0
    · subst h0; rw [hiB_zero]; rfl
    · have hl := hiB_len 8 (m / 128) (by omega)
      have ih := numA_hi f (m / 128) (UInt8.ofNat (m % 128 + 128) :: x) (by omega) (by omega)
      have hb : (UInt8.ofNat (m % 128 + 128)).toNat = m % 128 + 128 := byteNat (by omega)
      have hz : (hiB (m / 128)).length = 0 → m / 128 = 0 := fun e => by
        by_cases hq : m / 128 = 0
        · exact hq
        · rw [hiB_pos hq] at e; simp at e
      rw [hiB_pos h0, List.append_assoc]
      show numA 0 0 (hiB (m / 128) ++ (UInt8.ofNat (m % 128 + 128) :: x)) = _
      rw [ih, numA, if_neg, if_neg, hb]
      · rw [List.length_append, List.length_singleton]
        congr 1
        omega
      · rw [hb]; omega
      · rw [hb]
        rintro (e | ⟨e1, e2⟩ | e)
        · omega
        · have := hz e1; omega
        · omega
theorem numA_put {n : Nat} (hn : n < 18446744073709551616) (r : List UInt8) : numA 0 0 (putN n ++ r) = some (n, (putN n).length) := by
  have hl := hiB_len 9 (n / 128) (by omega)
  have hb : (UInt8.ofNat (n % 128)).toNat = n % 128 := byteNat (by omega)
  unfold putN
  rw [List.append_assoc, numA_hi (n / 128 + 1) (n / 128) _ (by omega) (by omega)]
  show numA _ _ (UInt8.ofNat (n % 128) :: r) = _
  rw [numA, if_neg, if_pos, hb]
  · rw [List.length_append, List.length_singleton]
    congr 2
    omega
  · rw [hb]; omega
  · rw [hb]
    rintro (e | ⟨e1, e2⟩ | e) <;> omega
theorem rdN_put {n : Nat} {most : UInt64} (hn : n ≤ most.toNat) (r : List UInt8) : rdN (some (putN n ++ r)) most = (UInt64.ofNat n, some r) := by
  have hm := UInt64.toNat_lt most
  unfold rdN
  simp only [numA_put (n := n) (by omega) r]
  rw [if_neg (by omega)]
  simp
theorem rdN_puts {x : UInt64} {l : List UInt64} {most : UInt64} (hx : x.toNat ≤ most.toNat) (r : List UInt8) : rdN (some (putNs (x :: l) ++ r)) most = (x, some (putNs l ++ r)) := by
  rw [show putNs (x :: l) ++ r = putN x.toNat ++ (putNs l ++ r) by simp [putNs], rdN_put hx]
  simp
end Go.Proofs.Ytnmgamcmjjngcaa

namespace Go.Proofs.Ytnmgamcmjjngcaa
open Go.Av
def zag (u : Nat) : Int := if u % 2 = 0 then ((u / 2 : Nat) : Int) else -((u / 2 : Nat) : Int) - 1
theorem zag_zig {n : Int} (hf : -9223372036854775808 ≤ n ∧ n ≤ 9223372036854775807) : zag (UInt64.ofNat (zig n)).toNat = n := by
  have hz : (UInt64.ofNat (zig n)).toNat = zig n := by
    unfold zig; split <;> simp <;> omega
  rw [hz]
  unfold zag zig
  split <;> split <;> omega
theorem and_one (u : Nat) (hu : u < 18446744073709551616) : (BitVec.ofInt 64 ((u : Nat) : Int) &&& BitVec.ofInt 64 1).toNat = u % 2 := by
  have e : BitVec.ofInt 64 1 = 1#64 := by decide
  rw [e, BitVec.toNat_and, BitVec.ofInt_natCast, BitVec.toNat_ofNat, BitVec.toNat_ofNat]
  rw [show (1 % 2 ^ 64) = 1 by decide, Nat.mod_eq_of_lt (by omega), Nat.and_one_is_mod]
theorem xor_i64_zero (a : Nat) (ha : a < 9223372036854775808) : IntKind.i64.wrap ((BitVec.ofInt 64 ((a : Nat) : Int) ^^^ BitVec.ofInt 64 0).toNat : Int) = (a : Int) := by
  have e : BitVec.ofInt 64 0 = 0#64 := by decide
  rw [e, BitVec.xor_zero, BitVec.ofInt_natCast, BitVec.toNat_ofNat, Nat.mod_eq_of_lt (by omega)]
  exact wrap_i64 (by omega) (by omega)
theorem xor_i64_ones (a : Nat) (ha : a < 9223372036854775808) : IntKind.i64.wrap ((BitVec.ofInt 64 ((a : Nat) : Int) ^^^ BitVec.ofInt 64 (-1)).toNat : Int) = -(a : Int) - 1 := by
  have e : BitVec.ofInt 64 (-1) = BitVec.allOnes 64 := by decide
  rw [e, BitVec.xor_allOnes, BitVec.toNat_not, BitVec.ofInt_natCast, BitVec.toNat_ofNat, Nat.mod_eq_of_lt (by omega)]
  simp only [IntKind.wrap, IntKind.bits, IntKind.signed]
  simp
  omega
def r105 : RCode :=
  (.seq (.region [
    ⟨(some 2), none, .act, .mv (.const (.int .i64 0))⟩])
  (.seq (.region [
    ⟨(some 3), none, .act, .mv (.tmp 0)⟩,
    ⟨(some 4), none, .act, .bin .shr (.tmp 3) (.const (.int .u64 1))⟩,
    ⟨(some 5), none, .act, .convInt .i64 (.tmp 4)⟩,
    ⟨(some 6), none, .act, .mv (.tmp 0)⟩,
    ⟨(some 7), none, .act, .bin .and (.tmp 6) (.const (.int .u64 1))⟩,
    ⟨(some 8), none, .act, .convInt .i64 (.tmp 7)⟩,
    ⟨(some 9), none, .act, .un .neg (.tmp 8)⟩,
    ⟨(some 10), none, .act, .bin .xor (.tmp 5) (.tmp 9)⟩,
    ⟨(some 2), none, .act, .mv (.tmp 10)⟩])
  .ret))
theorem res105 : ∃ c, Try.f105.body = some c ∧ resCode Try.prog 11 c = some r105 := ⟨_, rfl, by kernel_rfl⟩
theorem rr105 : resRes Try.prog Try.f105.results.toList = some [.tmp 2] := by kernel_rfl
theorem zag_spec (u : UInt64) (h : AHeap) : ACalls Try.prog 105 [enc u] h (fun x h' => x = i64 (zag u.toNat) ∧ h' = h) := by
  obtain ⟨c, hc1, hc2⟩ := res105
  refine ACalls.enter Try.func105 hc1 Try.ntmps105 hc2 (Nat.le_of_ble_eq_true rfl) rfl ?_
  have hu := UInt64.toNat_lt u
  unfold r105
  refine S.seq (S.region (S.op rfl (R.mv rfl (S.nilK (S.seq (S.region (S.op rfl (R.mv rfl (S.op rfl (S.shrN (s := 1) (by decide) rfl (S.op rfl (R.convInt rfl (S.op rfl (R.mv rfl (S.op rfl (S.arith rfl rfl rfl ?_))))))))))))))))
  have hand : IntKind.u64.wrap ((BitVec.ofInt IntKind.u64.bits ((u.toNat : Nat) : Int) &&& BitVec.ofInt IntKind.u64.bits 1).toNat : Int) = ((u.toNat % 2 : Nat) : Int) := by
    have := and_one u.toNat hu
    show IntKind.u64.wrap ((BitVec.ofInt 64 ((u.toNat : Nat) : Int) &&& BitVec.ofInt 64 1).toNat : Int) = _
    rw [this]; exact wrap_u64N (by omega)
  rw [hand, wrap_i64 (by omega) (by omega)]
  refine S.op rfl (R.convInt rfl ?_)
  rw [wrap_i64 (by omega) (by omega)]
  refine S.op rfl (R.neg rfl ?_)
  rw [wrap_i64 (by omega) (by omega)]
  refine S.op rfl (S.arith rfl rfl rfl ?_)
  have hx : IntKind.i64.wrap ((BitVec.ofInt IntKind.i64.bits ((u.toNat / 2 ^ 1 : Nat) : Int) ^^^ BitVec.ofInt IntKind.i64.bits (0 - ((u.toNat % 2 : Nat) : Int))).toNat : Int) = zag u.toNat := by
    show IntKind.i64.wrap ((BitVec.ofInt 64 ((u.toNat / 2 ^ 1 : Nat) : Int) ^^^ BitVec.ofInt 64 (0 - ((u.toNat % 2 : Nat) : Int))).toNat : Int) = zag u.toNat
    unfold zag
    rw [Nat.pow_one]
    split
    · rename_i h0
      rw [h0]
      exact xor_i64_zero _ (by omega)
    · rename_i h0
      rw [show u.toNat % 2 = 1 by omega]
      exact xor_i64_ones _ (by omega)
  rw [hx]
  repeat' (first | refine S.nilK ?_ | (refine S.op rfl ?_; first | refine R.mv rfl ?_))
  apply S.ret rr105
  case hx => repeat (first | exact ResAt.nil | apply ResAt.tmp rfl)
  exact ⟨rfl, rfl⟩
def r99 : RCode :=
  (.seq (.region [
    ⟨(some 2), none, .act, .mv (.const (.int .i64 0))⟩])
  (.seq (.region [
    ⟨(some 3), none, .act, .mv (.tmp 0)⟩,
    ⟨(some 4), none, .act, .call 74 [(.tmp 3), (.const (.int .u64 18446744073709551615))]⟩,
    ⟨(some 5), none, .act, .call 105 [(.tmp 4)]⟩,
    ⟨(some 2), none, .act, .mv (.tmp 5)⟩])
  .ret))
theorem res99 : ∃ c, Try.f99.body = some c ∧ resCode Try.prog 6 c = some r99 := ⟨_, rfl, by kernel_rfl⟩
theorem rr99 : resRes Try.prog Try.f99.results.toList = some [.tmp 2] := by kernel_rfl
theorem rI_spec (s : Option (List UInt8)) (hs : (dat s).length ≤ 140737488355328) (p : Nat) (h : AHeap) (hp : h p = some (.box (rdr s))) :
    ACalls Try.prog 99 [ptr p] h (fun x h' => x = i64 (zag (rdN s full64).1.toNat) ∧ h' = h.set p (.box (rdr (rdN s full64).2))) := by
  obtain ⟨c, hc1, hc2⟩ := res99
  refine ACalls.enter Try.func99 hc1 Try.ntmps99 hc2 (Nat.le_of_ble_eq_true rfl) rfl ?_
  have c74 := rN_spec s hs full64 p h hp
  repeat' (first | refine S.nilK ?_ | (refine S.op rfl ?_; first | refine callS rfl rfl c74 ?_ | refine callS rfl rfl (zag_spec _ _) ?_ | refine R.mv rfl ?_) | refine S.seq ?_ | refine S.region ?_)
  apply S.ret rr99
  case hx => repeat (first | exact ResAt.nil | apply ResAt.tmp rfl)
  exact ⟨rfl, rfl⟩
end Go.Proofs.Ytnmgamcmjjngcaa

namespace Go.Proofs.Ytnmgamcmjjngcaa
open Go.Av
def rdT (s : Option (List UInt8)) (most : UInt64) : List UInt8 × Option (List UInt8) :=
  match (rdN s most).2 with
  | none => ([], none)
  | some b => if b.length < (rdN s most).1.toNat then ([], none) else (b.take (rdN s most).1.toNat, some (b.drop (rdN s most).1.toNat))
theorem rdT_put {t : List UInt8} {most : UInt64} (ht : t.length ≤ most.toNat) (r : List UInt8) : rdT (some (putText t ++ r)) most = (t, some r) := by
  have hm := UInt64.toNat_lt most
  have hu : (UInt64.ofNat t.length).toNat = t.length := by simp; omega
  unfold rdT putText
  rw [List.append_assoc, rdN_put ht]
  simp only [hu]
  rw [if_neg (by simp)]
  simp
theorem le_swap {h h1 : AHeap} {p : Nat} {o o1 o2 : ABlk} (hle : (h.set p o).le h1) (ho : BLe o2 o1) : (h.set p o1).le (h1.set p o2) := fun x y e => by
  by_cases hx : x = p
  · subst hx
    simp only [AHeap.set_same, Option.some.injEq] at e
    subst e
    exact ⟨o2, AHeap.set_same _ _ _, ho⟩
  · rw [AHeap.set_other _ _ hx] at e ⊢
    exact hle x y (by rw [AHeap.set_other _ _ hx]; exact e)
def r100 : RCode :=
  (.seq (.region [
    ⟨(some 4), none, .act, .mv (.const (.slice none 0 0))⟩])
  (.seq (.seq (.region [
    ⟨(some 7), none, .act, .mv (.tmp 1)⟩,
    ⟨(some 8), none, .act, .bin .lss (.tmp 7) (.const (.int .i64 0))⟩])
  (.cond (.tmp 8)
   (.seq (.region [
     ⟨(some 9), none, .act, .mv (.tmp 0)⟩,
     ⟨(some 10), none, .act, .call 93 [(.tmp 9)]⟩])
   (.seq (.region [
     ⟨(some 4), none, .act, .mv (.const (.slice none 0 0))⟩])
   .ret))
   .skip))
  (.seq (.region [
    ⟨(some 11), none, .act, .mv (.tmp 0)⟩,
    ⟨(some 12), none, .act, .mv (.tmp 1)⟩,
    ⟨(some 13), none, .act, .convInt .u64 (.tmp 12)⟩,
    ⟨(some 14), none, .act, .call 74 [(.tmp 11), (.tmp 13)]⟩,
    ⟨(some 5), none, .act, .mv (.tmp 14)⟩])
  (.seq (.seq (.region [
    ⟨(some 15), none, .act, .mv (.tmp 0)⟩,
    ⟨(some 16), none, .act, .call 91 [(.tmp 15)]⟩,
    ⟨(some 17), none, .act, .un .not (.tmp 16)⟩,
    ⟨(some 18), none, .act, .mv (.tmp 17)⟩,
    ⟨(some 19), (some (18, false)), .act, .mv (.tmp 5)⟩,
    ⟨(some 20), (some (18, false)), .act, .mv (.tmp 0)⟩,
    ⟨(some 21), (some (18, false)), .act, .nilCheck (.tmp 20)⟩,
    ⟨(some 22), (some (18, false)), .act, .fieldAddr 0 (.tmp 21)⟩,
    ⟨(some 23), (some (18, false)), .act, .load false 1 (.tmp 22)⟩,
    ⟨(some 24), (some (18, false)), .act, .len (.tmp 23)⟩,
    ⟨(some 25), (some (18, false)), .act, .convInt .u64 (.tmp 24)⟩,
    ⟨(some 26), (some (18, false)), .act, .bin .gtr (.tmp 19) (.tmp 25)⟩,
    ⟨(some 27), none, .act, .pick (.tmp 18) (.const (.bool true)) (.tmp 26)⟩])
  (.cond (.tmp 27)
   (.seq (.region [
     ⟨(some 28), none, .act, .mv (.tmp 0)⟩,
     ⟨(some 29), none, .act, .call 93 [(.tmp 28)]⟩])
   (.seq (.region [
     ⟨(some 4), none, .act, .mv (.const (.slice none 0 0))⟩])
   .ret))
   .skip))
  (.seq (.region [
    ⟨(some 30), none, .act, .mv (.tmp 0)⟩,
    ⟨(some 31), none, .act, .nilCheck (.tmp 30)⟩,
    ⟨(some 32), none, .act, .fieldAddr 0 (.tmp 31)⟩,
    ⟨(some 33), none, .act, .load false 1 (.tmp 32)⟩,
    ⟨(some 34), none, .act, .mv (.tmp 5)⟩,
    ⟨(some 35), none, .act, .sliceSl 1 (.tmp 33) none (some (.tmp 34)) none⟩,
    ⟨(some 36), none, .act, .append 1 1 [(.int .u8 0)] (.const (.slice none 0 0)) (.tmp 35)⟩,
    ⟨(some 6), none, .act, .mv (.tmp 36)⟩])
  (.seq (.region [
    ⟨(some 37), none, .act, .mv (.tmp 0)⟩,
    ⟨(some 38), none, .act, .mv (.tmp 0)⟩,
    ⟨(some 39), none, .act, .nilCheck (.tmp 38)⟩,
    ⟨(some 40), none, .act, .fieldAddr 0 (.tmp 39)⟩,
    ⟨(some 41), none, .act, .load false 1 (.tmp 40)⟩,
    ⟨(some 42), none, .act, .mv (.tmp 5)⟩,
    ⟨(some 43), none, .act, .sliceSl 1 (.tmp 41) (some (.tmp 42)) none none⟩,
    ⟨(some 44), none, .act, .nilCheck (.tmp 37)⟩,
    ⟨(some 45), none, .act, .fieldAddr 0 (.tmp 44)⟩,
    ⟨none, none, .act, .store 1 (.tmp 45) (.tmp 43)⟩])
  (.seq (.region [
    ⟨(some 46), none, .act, .mv (.tmp 6)⟩,
    ⟨(some 4), none, .act, .mv (.tmp 46)⟩])
  .ret)))))))
theorem res100 : ∃ c, Try.f100.body = some c ∧ resCode Try.prog 47 c = some r100 := ⟨_, rfl, by kernel_rfl⟩
theorem rr100 : resRes Try.prog Try.f100.results.toList = some [.tmp 4] := by kernel_rfl
theorem rText_spec (s : Option (List UInt8)) (hs : (dat s).length ≤ 140737488355328) (m : Nat) (hm : m ≤ 9223372036854775807) (p : Nat) (h : AHeap) (hp : h p = some (.box (rdr s))) :
    ACalls Try.prog 100 [ptr p, i64 m] h (fun x h' => x = bysC (rdT s (UInt64.ofNat m)).1 .ro ∧ h' = h.set p (.box (rdr (rdT s (UInt64.ofNat m)).2))) := by
  obtain ⟨c, hc1, hc2⟩ := res100
  refine ACalls.weak (ACalls.enter Try.func100 hc1 Try.ntmps100 hc2 (Nat.le_of_ble_eq_true rfl) rfl ?_)
  have c74 := rN_spec s hs (UInt64.ofNat m) p h hp
  have hlen := rdN_len s (UInt64.ofNat m) _ hs
  have hmu : (UInt64.ofNat m).toNat = m := by simp; omega
  have hT : rdT s (UInt64.ofNat m) = match (rdN s (UInt64.ofNat m)).2 with
    | none => ([], none)
    | some b => if b.length < (rdN s (UInt64.ofNat m)).1.toNat then ([], none) else (b.take (rdN s (UInt64.ofNat m)).1.toNat, some (b.drop (rdN s (UInt64.ofNat m)).1.toNat)) := rfl
  generalize rdT s (UInt64.ofNat m) = T at hT ⊢
  generalize rdN s (UInt64.ofNat m) = R at c74 hlen hT
  obtain ⟨v, s2⟩ := R
  simp only at c74 hlen hT
  have hp2 : (h.set p (.box (rdr s2))) p = some (.box (rdr s2)) := AHeap.set_same _ _ _
  have c91 := fun h hp => ok_spec s2 p h hp
  have c93 := fun h hp => fail_spec s2 p h hp
  cases s2 with
  | none =>
    subst hT
    repeat' (first | refine S.nilK ?_ | (refine S.op rfl ?_; first | refine callS rfl rfl c74 ?_ | refine callS rfl rfl (c91 _ hp2) ?_ | refine callU rfl rfl (c93 _ hp2) (fun _ => ?_) | refine R.mv rfl ?_ | refine R.pickT rfl rfl ?_ | refine S.convIU rfl (by omega) ?_ | refine R.not rfl ?_ | ((first | refine S.lss rfl rfl ?_ ?_) <;> intro hlt <;> try (exfalso; omega))) | refine S.skip rfl ?_ | refine S.seq ?_ | refine S.region ?_ | refine S.condT rfl ?_ | refine S.condF rfl ?_ | refine RRun.skip ?_)
    rw [AHeap.set_set]
    repeat' (fail)
    apply S.ret rr100
    case hx => repeat (first | exact ResAt.nil | apply ResAt.tmp rfl)
    exact ⟨_, _, .nilSl 1 (c := .ro) trivial, .refl _, rfl, rfl⟩
  | some b =>
    simp only [dat, Option.getD_some] at hlen
    simp only at hT
    have hlb : (Go.Av.byteCells (dat (some b))).length = b.length := len_bytes b
    have hL : (UInt64.ofNat (Go.Av.byteCells (dat (some b))).length).toNat = b.length := by rw [hlb]; simp; omega
    have hv := UInt64.toNat_lt v
    by_cases hlt : b.length < v.toNat
    · rw [if_pos hlt] at hT
      subst hT
      repeat' (first | refine S.nilK ?_ | (refine S.op rfl ?_; first | refine callS rfl rfl c74 ?_ | refine callS rfl rfl (c91 _ hp2) ?_ | refine callU rfl rfl (c93 _ hp2) (fun _ => ?_) | refine R.mv rfl ?_ | refine R.fieldAddr rfl ?_ | refine R.nilCheck rfl ?_ | refine R.load (by decide) rfl (by (repeat' (first | assumption)); first | done | fail) rfl ?_ | refine R.pickF rfl rfl ?_ | refine R.len rfl ?_ | refine S.convIU rfl (by omega) ?_ | refine R.not rfl ?_ | ((first | refine S.lss rfl rfl ?_ ?_ | refine S.gtr rfl rfl ?_ ?_) <;> intro hlt <;> try (exfalso; omega))) | refine S.seq ?_ | refine S.region ?_ | refine S.condT rfl ?_ | refine S.condF rfl ?_ | refine RRun.skip ?_)
      rw [AHeap.set_set]
      repeat' (fail)
      apply S.ret rr100
      case hx => repeat (first | exact ResAt.nil | apply ResAt.tmp rfl)
      exact ⟨_, _, .nilSl 1 (c := .ro) trivial, .refl _, rfl, rfl⟩
    · rw [if_neg hlt] at hT
      subst hT
      repeat' (first | refine S.nilK ?_ | (refine S.op rfl ?_; first | refine callS rfl rfl c74 ?_ | refine callS rfl rfl (c91 _ hp2) ?_ | refine S.sliceH rfl rfl (by omega) (by omega) (by decide) ?_ | refine R.mv rfl ?_ | refine R.fieldAddr rfl ?_ | refine R.nilCheck rfl ?_ | refine R.load (by decide) rfl (by (repeat' (first | assumption)); first | done | fail) rfl ?_ | refine R.pickF rfl rfl ?_ | refine R.len rfl ?_ | refine S.convIU rfl (by omega) ?_ | refine R.not rfl ?_ | ((first | refine S.lss rfl rfl ?_ ?_ | refine S.gtr rfl rfl ?_ ?_) <;> intro hlt <;> try (exfalso; omega))) | refine S.seq ?_ | refine S.region ?_ | refine S.condF rfl ?_ | refine RRun.skip ?_)
      have htk : (Go.Av.byteCells (dat (some b))).take ((v.toNat : Nat) : Int).toNat = Go.Av.byteCells (b.take v.toNat) := by
        simp [Go.Av.byteCells, dat, List.map_take]
      have hdp : (Go.Av.byteCells (dat (some b))).drop ((v.toNat : Nat) : Int).toNat = Go.Av.byteCells (b.drop v.toNat) := by
        simp [Go.Av.byteCells, dat, List.map_drop]
      rw [htk]
      refine S.op rfl (S.appendG (h₀ := h.set p (.box (rdr (some b)))) (ys := Go.Av.byteCells (b.take v.toNat)) rfl (.start _) rfl .nil rfl (.sl _ _) (one_bytes _) (by simp [Go.Av.byteCells]; omega) (by simp [Go.Av.byteCells]; omega) (fun c1 h1 g1 q1 => ?_))
      have hp1 := q1 p _ hp2
      repeat' (first | refine S.nilK ?_ | (refine S.op rfl ?_; first | refine S.sliceL rfl rfl (by omega) (by omega) (by decide) ?_ | refine R.mv rfl ?_ | refine R.fieldAddr rfl ?_ | refine R.nilCheck rfl ?_ | refine R.load (by decide) rfl (by (repeat' (first | assumption)); first | done | fail) rfl ?_) | (refine S.op0 rfl ?_; first | refine S.store rfl rfl (by (repeat' (first | assumption)); first | done | fail) rfl rfl rfl (by rfl) rfl ?_) | refine S.seq ?_ | refine S.region ?_)
      apply S.ret rr100
      case hx => repeat (first | exact ResAt.nil | apply ResAt.tmp rfl)
      refine ⟨_, _, .toRo 1 (Go.Av.byteCells (b.take v.toNat)) c1, le_swap g1.le (.box ?_), rfl, rfl⟩
      refine .cons ?_ (.cons (.refl _) .nil)
      show ALe (.sl 1 ((Go.Av.byteCells (dat (some b))).drop ((v.toNat : Nat) : Int).toNat) .ro) (bys (b.drop v.toNat))
      rw [hdp]
      exact .refl _
end Go.Proofs.Ytnmgamcmjjngcaa

namespace Go.Proofs.Ytnmgamcmjjngcaa
open Go.Av
def r15l0 : RCode :=
  (.seq (.region [
    ⟨(some 56), none, .act, .bin .lss (.tmp 55) (.tmp 54)⟩])
  (.seq (.cond (.tmp 56)
   .skip
   (.exit 0))
  (.seq (.block 1
   (.seq (.region [
     ⟨(some 57), none, .act, .indexAddr 4 (.tmp 53) (.tmp 55)⟩,
     ⟨(some 58), none, .act, .load true 4 (.tmp 57)⟩,
     ⟨(some 11), none, .act, .alloc [(.int .u64 0), (.int .u64 0), (.int .i64 0), (.slice none 0 0)]⟩,
     ⟨none, none, .act, .store 4 (.tmp 11) (.tmp 58)⟩])
   (.region [
     ⟨(some 59), none, .act, .mv (.tmp 9)⟩,
     ⟨(some 60), none, .act, .load true 4 (.tmp 11)⟩,
     ⟨(some 61), none, .act, .call 53 [(.tmp 60)]⟩,
     ⟨(some 62), none, .act, .buildSl 4 [(.int .u64 0), (.int .u64 0), (.int .i64 0), (.slice none 0 0)] 1 [(0, (.tmp 61))]⟩,
     ⟨(some 63), none, .act, .append 4 48 [(.int .u64 0), (.int .u64 0), (.int .i64 0), (.slice none 0 0)] (.tmp 59) (.tmp 62)⟩,
     ⟨(some 9), none, .act, .mv (.tmp 63)⟩])))
  (.region [
    ⟨(some 64), none, .act, .bin .add (.tmp 55) (.const (.int .i64 1))⟩,
    ⟨(some 55), none, .act, .mv (.tmp 64)⟩]))))
def r15 : RCode :=
  (.seq (.region [
    ⟨(some 6), none, .act, .mv (.const (.slice none 0 0))⟩])
  (.seq (.seq (.region [
    ⟨(some 12), none, .act, .mv (.tmp 0)⟩,
    ⟨(some 13), none, .act, .eq false .ptr (.tmp 12) (.const (.pointer none))⟩,
    ⟨(some 14), none, .act, .mv (.tmp 13)⟩,
    ⟨(some 15), (some (14, false)), .act, .mv (.tmp 1)⟩,
    ⟨(some 16), (some (14, false)), .act, .mv (.tmp 0)⟩,
    ⟨(some 17), (some (14, false)), .act, .call 16 [(.tmp 16)]⟩,
    ⟨(some 18), (some (14, false)), .act, .bin .lss (.tmp 15) (.tmp 17)⟩,
    ⟨(some 19), none, .act, .pick (.tmp 14) (.const (.bool true)) (.tmp 18)⟩,
    ⟨(some 20), none, .act, .mv (.tmp 19)⟩,
    ⟨(some 21), (some (20, false)), .act, .mv (.tmp 1)⟩,
    ⟨(some 22), (some (20, false)), .act, .mv (.tmp 0)⟩,
    ⟨(some 23), (some (20, false)), .act, .call 50 [(.tmp 22)]⟩,
    ⟨(some 24), (some (20, false)), .act, .bin .gtr (.tmp 21) (.tmp 23)⟩,
    ⟨(some 25), none, .act, .pick (.tmp 20) (.const (.bool true)) (.tmp 24)⟩,
    ⟨(some 26), none, .act, .mv (.tmp 25)⟩,
    ⟨(some 27), (some (26, false)), .act, .mv (.tmp 2)⟩,
    ⟨(some 28), (some (26, false)), .act, .bin .lss (.tmp 27) (.const (.int .i64 1))⟩,
    ⟨(some 29), none, .act, .pick (.tmp 26) (.const (.bool true)) (.tmp 28)⟩])
  (.cond (.tmp 29)
   (.seq (.region [
     ⟨(some 6), none, .act, .mv (.const (.slice none 0 0))⟩])
   .ret)
   .skip))
  (.seq (.region [
    ⟨(some 30), none, .act, .mv (.tmp 1)⟩,
    ⟨(some 31), none, .act, .mv (.tmp 0)⟩,
    ⟨(some 32), none, .act, .call 16 [(.tmp 31)]⟩,
    ⟨(some 33), none, .act, .bin .sub (.tmp 30) (.tmp 32)⟩,
    ⟨(some 34), none, .act, .convInt .i64 (.tmp 33)⟩,
    ⟨(some 7), none, .act, .mv (.tmp 34)⟩])
  (.seq (.region [
    ⟨(some 35), none, .act, .mv (.tmp 7)⟩,
    ⟨(some 36), none, .act, .mv (.tmp 2)⟩,
    ⟨(some 37), none, .act, .mv (.tmp 0)⟩,
    ⟨(some 38), none, .act, .nilCheck (.tmp 37)⟩,
    ⟨(some 39), none, .act, .fieldAddr 4 (.tmp 38)⟩,
    ⟨(some 40), none, .act, .load false 1 (.tmp 39)⟩,
    ⟨(some 41), none, .act, .len (.tmp 40)⟩,
    ⟨(some 42), none, .act, .mv (.tmp 7)⟩,
    ⟨(some 43), none, .act, .bin .sub (.tmp 41) (.tmp 42)⟩,
    ⟨(some 44), none, .act, .minmax false [(.tmp 36), (.tmp 43)]⟩,
    ⟨(some 45), none, .act, .bin .add (.tmp 35) (.tmp 44)⟩,
    ⟨(some 8), none, .act, .mv (.tmp 45)⟩])
  (.seq (.region [
    ⟨(some 9), none, .act, .mv (.const (.slice none 0 0))⟩])
  (.seq (.seq (.region [
    ⟨(some 46), none, .act, .mv (.tmp 0)⟩,
    ⟨(some 47), none, .act, .nilCheck (.tmp 46)⟩,
    ⟨(some 48), none, .act, .fieldAddr 4 (.tmp 47)⟩,
    ⟨(some 49), none, .act, .load false 1 (.tmp 48)⟩,
    ⟨(some 50), none, .act, .mv (.tmp 7)⟩,
    ⟨(some 51), none, .act, .mv (.tmp 8)⟩,
    ⟨(some 52), none, .act, .mv (.tmp 8)⟩,
    ⟨(some 53), none, .act, .sliceSl 4 (.tmp 49) (some (.tmp 50)) (some (.tmp 51)) (some (.tmp 52))⟩,
    ⟨(some 54), none, .act, .len (.tmp 53)⟩,
    ⟨(some 55), none, .act, .mv (.const (.int .i64 0))⟩])
  (.block 0
   (.loop r15l0)))
  (.seq (.region [
    ⟨(some 65), none, .act, .mv (.tmp 9)⟩,
    ⟨(some 6), none, .act, .mv (.tmp 65)⟩])
  .ret)))))))
theorem res15 : ∃ c, Try.f15.body = some c ∧ resCode Try.prog 66 c = some r15 := ⟨_, rfl, by kernel_rfl⟩
theorem rr15 : resRes Try.prog Try.f15.results.toList = some [.tmp 6] := by kernel_rfl
theorem entries_loop (l : List Entry) (he : ∀ x ∈ l, x.data.length ≤ 140737488355328) (hl : l.length ≤ 549755813888) (h₀ : AHeap) (k : List RT) (Q : AV → AHeap → Prop)
    (hk : ∀ h c, Grow h₀ h c → RRun Try.prog Try.f15 66 k (Env.get [(9, .sl 4 (l.map Entry.cells) c)]) h Q) (m : Nat) :
    ∀ (i : Nat) (h : AHeap) (c : Cap), i + m = l.length → Grow h₀ h c →
      RRun Try.prog Try.f15 66 (.inLoop r15l0 :: .inBlock 0 :: k) (Env.get [(55, i64 i), (54, i64 l.length), (53, .sl 4 (l.map Entry.cells) .full), (9, .sl 4 ((l.take i).map Entry.cells) c)]) h Q := by
  induction m with
  | zero =>
    intro i h c hi hg
    refine RRun.inLoop ?_
    repeat' (first | refine S.nilK ?_ | (refine S.op rfl ?_; first | ((first | refine S.lss rfl rfl ?_ ?_) <;> intro hlt <;> try (exfalso; omega))) | refine S.seq ?_ | refine S.region ?_ | refine S.condF rfl ?_ | refine RRun.exit rfl ?_)
    rw [show l.take i = l from List.take_of_length_le (by omega)]
    exact S.keep [9] rfl (hk h c hg)
  | succ m ih =>
    intro i h c hi hg
    have hie : i < l.length := by omega
    have h1 : (l.map Entry.cells)[((i : Nat) : Int).toNat]? = some l[i].cells := by simp [hie]
    have hown := own_spec l[i] (he _ (List.getElem_mem hie))
    have hlen0 : (l.map Entry.cells).length = l.length := by simp
    have hlen : ((l.take i).map Entry.cells).length = i := by simp; omega
    refine RRun.inLoop ?_
    repeat' (first | refine S.nilK ?_ | (refine S.op rfl ?_; first | refine R.indexAddr rfl rfl (by omega) h1 ?_ | refine R.callQ (by decide) rfl (hown _) ?_ | refine R.mv rfl ?_ | refine R.loadR rfl rfl ?_ | refine R.load (by decide) rfl (by (repeat' (first | exact AHeap.set_same _ _ _)); first | done | fail) rfl ?_ | refine R.alloc rfl (fun b hb => ?_) | refine R.buildSl rfl rfl rfl (by decide) ?_ | ((first | refine S.lss rfl rfl ?_ ?_) <;> intro hlt <;> try (exfalso; omega))) | (refine S.op0 rfl ?_; first | refine S.store rfl rfl (by (repeat' (first | exact AHeap.set_same _ _ _)); first | done | fail) rfl rfl rfl (by rfl) rfl ?_) | refine S.seq ?_ | refine S.region ?_ | refine S.condT rfl ?_ | refine RRun.skip ?_ | refine RRun.block ?_)
    refine S.op rfl (S.appendG rfl ((hg.base _ (by assumption)).setBox _ (AHeap.set_same _ _ _) (hg.le.none (by assumption))) rfl (.sl _ _) rfl (.sl [l[i].cells] _) (Entry.one _) ?_ ?_ (fun c' h' hg' hbox => ?_))
    · rw [hlen]; simp; omega
    · rw [hlen]; simp; omega
    repeat' (first | refine S.nilK ?_ | (refine S.op rfl ?_; first | refine R.mv rfl ?_ | refine S.addI rfl rfl (by omega) ?_) | refine S.region ?_ | refine RRun.inBlock ?_)
    rw [show (l.take i).map Entry.cells ++ [l[i].cells] = (l.take (i + 1)).map Entry.cells from take_succ_map [] l i hie, show ((i : Int) + 1) = ((i + 1 : Nat) : Int) by omega]
    exact S.keep [55, 54, 53, 9] rfl (ih (i + 1) _ c' (by omega) hg')
def Log.at' (L : Log) (i : UInt64) (n : Int) : List Entry :=
  if L.s.index + 1 ≤ i ∧ i ≤ L.s.index + UInt64.ofNat L.l.length ∧ 1 ≤ n then (L.l.drop (i - (L.s.index + 1)).toNat).take n.toNat else []
theorem place_lt {a x : UInt64} {n : Nat} (h3 : a.toNat ≤ 9223372036854775807) (hn : n ≤ 549755813888) (hA : a + 1 ≤ x) (hB : x ≤ a + UInt64.ofNat n) : (x - (a + 1)).toNat < n := by
  have h1 := UInt64.le_iff_toNat_le.1 hA
  have h2 := UInt64.le_iff_toNat_le.1 hB
  have h5 : (UInt64.ofNat n).toNat = n := UInt64.toNat_ofNat_of_lt' (by simp only [UInt64.size]; omega)
  have hx := x.toNat_lt
  simp only [UInt64.toNat_add, UInt64.toNat_sub, UInt64.toNat_ofNat, h5] at h1 h2 ⊢
  simp at h1 h2 ⊢
  omega
theorem entries_spec (L : Log) (he : ∀ x ∈ L.l, x.data.length ≤ 140737488355328) (hi : L.s.index.toNat ≤ 9223372036854775807) (hl : L.l.length ≤ 549755813888) (i : UInt64) (n : Int) (hn : n ≤ 9223372036854775807) (p : Nat) (h : AHeap) (hp : h p = some (.box L.cells)) :
    ACalls Try.prog 15 [ptr p, u64 i, i64 n] h (fun x h' => x = entries (L.at' i n) ∧ h' = h) := by
  have hlen : (L.l.map Entry.cells).length = L.l.length := by simp
  have hfirst := first_spec L p h hp
  have hlast := last_spec L (by omega) p h hp
  obtain ⟨c, hc1, hc2⟩ := res15
  refine ACalls.weak (ACalls.enter Try.func15 hc1 Try.ntmps15 hc2 (Nat.le_of_ble_eq_true rfl) rfl ?_)
  by_cases hc : L.s.index + 1 ≤ i ∧ i ≤ L.s.index + UInt64.ofNat L.l.length ∧ 1 ≤ n
  · obtain ⟨hA, hB, hC⟩ := hc
    have hlt' := place_lt hi hl hA hB
    have hA' := UInt64.le_iff_toNat_le.1 hA
    have hB' := UInt64.le_iff_toNat_le.1 hB
    have hmin : minInt (List.map (fun x => x.2) [(IntKind.i64, (L.l.length : Int) - (i - (L.s.index + 1)).toNat)]) n = if (L.l.length : Int) - (i - (L.s.index + 1)).toNat < n then (L.l.length : Int) - (i - (L.s.index + 1)).toNat else n := by
      simp only [List.map, minInt]
    rw [show (L.l.length : Int) = ((L.l.map Entry.cells).length : Int) by rw [hlen]] at hmin
    generalize hM : (if ((L.l.map Entry.cells).length : Int) - (i - (L.s.index + 1)).toNat < n then ((L.l.map Entry.cells).length : Int) - (i - (L.s.index + 1)).toNat else n) = M at hmin
    have hM1 : 1 ≤ M ∧ M ≤ L.l.length - (i - (L.s.index + 1)).toNat ∧ M ≤ n := by rw [← hM]; split <;> omega
    have hres : L.at' i n = (L.l.drop (i - (L.s.index + 1)).toNat).take M.toNat := by
      rw [Log.at', if_pos ⟨hA, hB, hC⟩, ← hM]
      split
      · rw [List.take_of_length_le (by simp <;> omega), List.take_of_length_le (by simp <;> omega)]
      · rfl
    have hn2 : 1 ≤ n := hC
    repeat' (first | refine S.nilK ?_ | (refine S.op rfl ?_; first | refine R.callQ (by decide) rfl hfirst ?_ | refine R.callQ (by decide) rfl hlast ?_ | refine S.minIs rfl hmin ?_ | refine S.sliceLHM rfl rfl rfl rfl (by omega) (by omega) (by omega) (by decide) ?_ | refine R.mv rfl ?_ | refine R.fieldAddr rfl ?_ | refine R.nilCheck rfl ?_ | refine R.load (by decide) rfl (by (repeat' (first | assumption)); first | done | fail) rfl ?_ | refine S.addI rfl rfl (by omega) ?_ | refine S.subI rfl rfl (by omega) ?_ | refine S.subU rfl rfl ?_ | refine R.pickF rfl rfl ?_ | refine R.len rfl ?_ | refine S.convUI rfl (by omega) ?_ | refine R.eqPtrNil rfl rfl ?_ | ((first | refine S.lss rfl rfl ?_ ?_ | refine S.gtr rfl rfl ?_ ?_) <;> intro hlt <;> try (exfalso; omega))) | refine S.seq ?_ | refine S.region ?_ | refine S.condF rfl ?_ | refine RRun.skip ?_ | refine RRun.block ?_)
    have hv : List.take (((i - (L.s.index + 1)).toNat + M : Int).toNat - ((i - (L.s.index + 1)).toNat : Int).toNat) (List.drop ((i - (L.s.index + 1)).toNat : Int).toNat (L.l.map Entry.cells)) = (L.at' i n).map Entry.cells := by
      rw [hres, List.map_take, List.map_drop, show ((i - (L.s.index + 1)).toNat + M : Int).toNat - ((i - (L.s.index + 1)).toNat : Int).toNat = M.toNat by omega, Int.toNat_natCast]
    have hle : (L.at' i n).length ≤ L.l.length := by rw [hres, List.length_take, List.length_drop]; omega
    have hmem : ∀ x ∈ L.at' i n, x.data.length ≤ 140737488355328 := by
      rw [hres]; intro x hx
      exact he x (List.mem_of_mem_drop (List.mem_of_mem_take hx))
    rw [hv, List.length_map]
    refine RRun.loopIn (S.keep [55, 54, 53, 9] rfl ?_)
    refine RRun.envs (l' := [(55, i64 (0 : Nat)), (54, i64 (L.at' i n).length), (53, .sl 4 ((L.at' i n).map Entry.cells) .full), (9, .sl 4 (((L.at' i n).take 0).map Entry.cells) .full)]) (.cons _ (.refl _) (.cons _ (.refl _) (.cons _ (.refl _) (.cons _ (.nilSl 4 trivial) .nil)))) ?_
    refine entries_loop (L.at' i n) hmem (by omega) h _ _ ?_ (L.at' i n).length 0 h .full (by omega) (.start h)
    intro h' c' hg
    repeat' (first | refine S.nilK ?_ | (refine S.op rfl ?_; first | refine R.mv rfl ?_) | refine S.seq ?_ | refine S.region ?_)
    apply S.ret rr15
    case hx => repeat (first | exact ResAt.nil | apply ResAt.tmp rfl)
    exact ⟨_, _, .toRo _ _ _, hg.le, rfl, rfl⟩
  · have hc' : ¬ ((L.s.index + 1).toNat ≤ i.toNat ∧ i.toNat ≤ (L.s.index + UInt64.ofNat L.l.length).toNat ∧ 1 ≤ n) := fun ⟨a, b, c⟩ => hc ⟨UInt64.le_iff_toNat_le.2 a, UInt64.le_iff_toNat_le.2 b, c⟩
    repeat' (first | refine S.nilK ?_ | (refine S.op rfl ?_; first | refine R.callQ (by decide) rfl hfirst ?_ | refine R.callQ (by decide) rfl hlast ?_ | refine R.mv rfl ?_ | refine R.pickT rfl rfl ?_ | refine R.pickF rfl rfl ?_ | refine R.eqPtrNil rfl rfl ?_ | ((first | refine S.lss rfl rfl ?_ ?_ | refine S.gtr rfl rfl ?_ ?_) <;> intro hlt <;> try (exfalso; omega))) | refine S.skip rfl ?_ | refine S.seq ?_ | refine S.region ?_ | refine S.condT rfl ?_)
    all_goals
      apply S.ret rr15
      case hx => repeat (first | exact ResAt.nil | apply ResAt.tmp rfl)
      refine ⟨_, _, .nilSl 4 (c := .ro) trivial, (by repeat (first | exact AHeap.le.refl _)), ?_, rfl⟩
      rw [Log.at', if_neg hc]; rfl
def r17l0 : RCode :=
  (.seq (.region [
    ⟨(some 14), none, .act, .bin .lss (.tmp 13) (.tmp 12)⟩])
  (.seq (.cond (.tmp 14)
   .skip
   (.exit 0))
  (.seq (.block 1
   (.seq (.region [
     ⟨(some 15), none, .act, .mv (.tmp 13)⟩,
     ⟨(some 5), none, .act, .mv (.tmp 15)⟩])
   (.seq (.region [
     ⟨(some 16), none, .pure, .mv (.tmp 0)⟩,
     ⟨(some 17), none, .pure, .mv (.tmp 5)⟩,
     ⟨(some 18), none, .pure, .indexAddr 4 (.tmp 16) (.tmp 17)⟩,
     ⟨(some 19), none, .pure, .fieldAddr 0 (.tmp 18)⟩,
     ⟨(some 20), none, .read, .load false 1 (.tmp 19)⟩,
     ⟨(some 21), none, .pure, .mv (.tmp 1)⟩,
     ⟨(some 22), none, .pure, .mv (.tmp 5)⟩,
     ⟨(some 23), none, .pure, .indexAddr 4 (.tmp 21) (.tmp 22)⟩,
     ⟨(some 24), none, .pure, .fieldAddr 0 (.tmp 23)⟩,
     ⟨(some 25), none, .read, .load false 1 (.tmp 24)⟩,
     ⟨(some 26), none, .pure, .eq true .int (.tmp 20) (.tmp 25)⟩,
     ⟨(some 27), none, .pure, .mv (.tmp 26)⟩,
     ⟨(some 28), (some (27, false)), .pure, .mv (.tmp 0)⟩,
     ⟨(some 29), (some (27, false)), .pure, .mv (.tmp 5)⟩,
     ⟨(some 30), (some (27, false)), .pure, .indexAddr 4 (.tmp 28) (.tmp 29)⟩,
     ⟨(some 31), (some (27, false)), .pure, .fieldAddr 1 (.tmp 30)⟩,
     ⟨(some 32), (some (27, false)), .read, .load false 1 (.tmp 31)⟩,
     ⟨(some 33), (some (27, false)), .pure, .mv (.tmp 1)⟩,
     ⟨(some 34), (some (27, false)), .pure, .mv (.tmp 5)⟩,
     ⟨(some 35), (some (27, false)), .pure, .indexAddr 4 (.tmp 33) (.tmp 34)⟩,
     ⟨(some 36), (some (27, false)), .pure, .fieldAddr 1 (.tmp 35)⟩,
     ⟨(some 37), (some (27, false)), .read, .load false 1 (.tmp 36)⟩,
     ⟨(some 38), (some (27, false)), .pure, .eq true .int (.tmp 32) (.tmp 37)⟩,
     ⟨(some 39), none, .pure, .pick (.tmp 27) (.const (.bool true)) (.tmp 38)⟩,
     ⟨(some 40), none, .pure, .mv (.tmp 39)⟩,
     ⟨(some 41), (some (40, false)), .pure, .mv (.tmp 0)⟩,
     ⟨(some 42), (some (40, false)), .pure, .mv (.tmp 5)⟩,
     ⟨(some 43), (some (40, false)), .pure, .indexAddr 4 (.tmp 41) (.tmp 42)⟩,
     ⟨(some 44), (some (40, false)), .pure, .fieldAddr 2 (.tmp 43)⟩,
     ⟨(some 45), (some (40, false)), .read, .load false 1 (.tmp 44)⟩,
     ⟨(some 46), (some (40, false)), .pure, .mv (.tmp 1)⟩,
     ⟨(some 47), (some (40, false)), .pure, .mv (.tmp 5)⟩,
     ⟨(some 48), (some (40, false)), .pure, .indexAddr 4 (.tmp 46) (.tmp 47)⟩,
     ⟨(some 49), (some (40, false)), .pure, .fieldAddr 2 (.tmp 48)⟩,
     ⟨(some 50), (some (40, false)), .read, .load false 1 (.tmp 49)⟩,
     ⟨(some 51), (some (40, false)), .pure, .eq true .int (.tmp 45) (.tmp 50)⟩,
     ⟨(some 52), none, .pure, .pick (.tmp 40) (.const (.bool true)) (.tmp 51)⟩,
     ⟨(some 53), none, .pure, .mv (.tmp 52)⟩,
     ⟨(some 54), (some (53, false)), .pure, .mv (.tmp 0)⟩,
     ⟨(some 55), (some (53, false)), .pure, .mv (.tmp 5)⟩,
     ⟨(some 56), (some (53, false)), .pure, .indexAddr 4 (.tmp 54) (.tmp 55)⟩,
     ⟨(some 57), (some (53, false)), .pure, .fieldAddr 3 (.tmp 56)⟩,
     ⟨(some 58), (some (53, false)), .read, .load false 1 (.tmp 57)⟩,
     ⟨(some 59), (some (53, false)), .pure, .toStr (.tmp 58)⟩,
     ⟨(some 60), (some (53, false)), .pure, .mv (.tmp 1)⟩,
     ⟨(some 61), (some (53, false)), .pure, .mv (.tmp 5)⟩,
     ⟨(some 62), (some (53, false)), .pure, .indexAddr 4 (.tmp 60) (.tmp 61)⟩,
     ⟨(some 63), (some (53, false)), .pure, .fieldAddr 3 (.tmp 62)⟩,
     ⟨(some 64), (some (53, false)), .read, .load false 1 (.tmp 63)⟩,
     ⟨(some 65), (some (53, false)), .pure, .toStr (.tmp 64)⟩,
     ⟨(some 66), (some (53, false)), .pure, .eq true .str (.tmp 59) (.tmp 65)⟩,
     ⟨(some 67), none, .pure, .pick (.tmp 53) (.const (.bool true)) (.tmp 66)⟩])
   (.cond (.tmp 67)
    (.seq (.region [
      ⟨(some 4), none, .act, .mv (.const (.bool false))⟩])
    .ret)
    .skip))))
  (.region [
    ⟨(some 68), none, .act, .bin .add (.tmp 13) (.const (.int .i64 1))⟩,
    ⟨(some 13), none, .act, .mv (.tmp 68)⟩]))))
def r17 : RCode :=
  (.seq (.region [
    ⟨(some 4), none, .act, .mv (.const (.bool false))⟩])
  (.seq (.seq (.region [
    ⟨(some 6), none, .act, .mv (.tmp 0)⟩,
    ⟨(some 7), none, .act, .len (.tmp 6)⟩,
    ⟨(some 8), none, .act, .mv (.tmp 1)⟩,
    ⟨(some 9), none, .act, .len (.tmp 8)⟩,
    ⟨(some 10), none, .act, .eq true .int (.tmp 7) (.tmp 9)⟩])
  (.cond (.tmp 10)
   (.seq (.region [
     ⟨(some 4), none, .act, .mv (.const (.bool false))⟩])
   .ret)
   .skip))
  (.seq (.seq (.region [
    ⟨(some 11), none, .act, .mv (.tmp 0)⟩,
    ⟨(some 12), none, .act, .len (.tmp 11)⟩,
    ⟨(some 13), none, .act, .mv (.const (.int .i64 0))⟩])
  (.block 0
   (.loop r17l0)))
  (.seq (.region [
    ⟨(some 4), none, .act, .mv (.const (.bool true))⟩])
  .ret))))
theorem res17 : ∃ c, Try.f17.body = some c ∧ resCode Try.prog 69 c = some r17 := ⟨_, rfl, by kernel_rfl⟩
theorem rr17 : resRes Try.prog Try.f17.results.toList = some [.tmp 4] := by kernel_rfl
theorem same_loop (l : List Entry) (hl : l.length ≤ 17592186044416) (h : AHeap) (k : List RT) (Q : AV → AHeap → Prop)
    (hk : RRun Try.prog Try.f17 69 k (Env.get []) h Q) (m : Nat) :
    ∀ (i : Nat), i + m = l.length →
      RRun Try.prog Try.f17 69 (.inLoop r17l0 :: .inBlock 0 :: k) (Env.get [(13, i64 i), (12, i64 l.length), (0, entries l), (1, entries l)]) h Q := by
  induction m with
  | zero =>
    intro i hi
    refine RRun.inLoop ?_
    repeat' (first | refine S.nilK ?_ | (refine S.op rfl ?_; first | ((first | refine S.lss rfl rfl ?_ ?_) <;> intro hlt <;> try (exfalso; omega))) | refine S.seq ?_ | refine S.region ?_ | refine S.condF rfl ?_ | refine RRun.exit rfl ?_)
    exact S.keep [] rfl hk
  | succ m ih =>
    intro i hi
    have hie : i < l.length := by omega
    have h1 : (l.map Entry.cells)[((i : Nat) : Int).toNat]? = some l[i].cells := by simp [hie]
    have hlen0 : (l.map Entry.cells).length = l.length := by simp
    refine RRun.inLoop ?_
    repeat' (first | refine S.nilK ?_ | (refine S.op rfl ?_; first | refine R.indexAddr rfl rfl (by omega) h1 ?_ | refine S.eqStrSame rfl rfl ?_ | refine S.eqIntSame rfl rfl ?_ | refine R.mv rfl ?_ | refine R.fieldAddrR rfl ?_ | refine R.loadR rfl rfl ?_ | refine S.addI rfl rfl (by omega) ?_ | refine R.pickF rfl rfl ?_ | refine R.toStr rfl ?_ | ((first | refine S.lss rfl rfl ?_ ?_) <;> intro hlt <;> try (exfalso; omega))) | refine S.seq ?_ | refine S.region ?_ | refine S.condT rfl ?_ | refine S.condF rfl ?_ | refine RRun.skip ?_ | refine RRun.block ?_ | refine RRun.inBlock ?_)
    rw [show ((i : Int) + 1) = ((i + 1 : Nat) : Int) by omega]
    exact S.keep [13, 12, 0, 1] rfl (ih (i + 1) (by omega))
theorem same_spec (l : List Entry) (hl : l.length ≤ 17592186044416) (h : AHeap) : ACalls Try.prog 17 [entries l, entries l] h (fun x h' => x = bl true ∧ h' = h) := by
  have hlen : (l.map Entry.cells).length = l.length := by simp
  obtain ⟨c, hc1, hc2⟩ := res17
  refine ACalls.enter Try.func17 hc1 Try.ntmps17 hc2 (Nat.le_of_ble_eq_true rfl) rfl ?_
  repeat' (first | refine S.nilK ?_ | (refine S.op rfl ?_; first | refine S.eqIntSame rfl rfl ?_ | refine R.mv rfl ?_ | refine R.len rfl ?_) | refine S.seq ?_ | refine S.region ?_ | refine S.condF rfl ?_ | refine RRun.skip ?_ | refine RRun.block ?_)
  rw [hlen]
  refine RRun.loopIn (S.keep [13, 12, 0, 1] rfl ?_)
  refine same_loop l hl h _ _ ?_ l.length 0 (by omega)
  repeat' (first | refine S.nilK ?_ | (refine S.op rfl ?_; first | refine R.mv rfl ?_) | refine S.seq ?_ | refine S.region ?_)
  apply S.ret rr17
  case hx => repeat (first | exact ResAt.nil | apply ResAt.tmp rfl)
  exact ⟨rfl, rfl⟩
end Go.Proofs.Ytnmgamcmjjngcaa

namespace Go.Proofs.Ytnmgamcmjjngcaa
open Go.Av
def r106 : RCode :=
  (.seq (.region [
    ⟨(some 4), none, .act, .mv (.const (.int .u64 0))⟩,
    ⟨(some 5), none, .act, .mv (.const (.bool false))⟩])
  (.seq (.block 0
   (.seq (.region [
     ⟨(some 7), none, .act, .mv (.tmp 0)⟩,
     ⟨(some 8), none, .act, .eq false .ptr (.tmp 7) (.const (.pointer none))⟩,
     ⟨(some 6), none, .act, .mv (.tmp 8)⟩])
   (.cond (.tmp 6)
    (.seq (.region [
      ⟨(some 9), none, .act, .mv (.tmp 1)⟩,
      ⟨(some 10), none, .act, .eq false .int (.tmp 9) (.const (.int .u64 0))⟩,
      ⟨(some 4), none, .act, .mv (.const (.int .u64 0))⟩,
      ⟨(some 5), none, .act, .mv (.tmp 10)⟩])
    .ret)
    (.seq (.region [
      ⟨(some 12), none, .act, .mv (.tmp 1)⟩,
      ⟨(some 13), none, .act, .mv (.tmp 0)⟩,
      ⟨(some 14), none, .act, .nilCheck (.tmp 13)⟩,
      ⟨(some 15), none, .act, .fieldAddr 0 (.tmp 14)⟩,
      ⟨(some 16), none, .act, .fieldAddr 0 (.tmp 15)⟩,
      ⟨(some 17), none, .act, .load false 1 (.tmp 16)⟩,
      ⟨(some 18), none, .act, .eq false .int (.tmp 12) (.tmp 17)⟩,
      ⟨(some 11), none, .act, .mv (.tmp 18)⟩])
    (.cond (.tmp 11)
     (.seq (.region [
       ⟨(some 19), none, .act, .mv (.tmp 0)⟩,
       ⟨(some 20), none, .act, .nilCheck (.tmp 19)⟩,
       ⟨(some 21), none, .act, .fieldAddr 0 (.tmp 20)⟩,
       ⟨(some 22), none, .act, .fieldAddr 1 (.tmp 21)⟩,
       ⟨(some 23), none, .act, .load false 1 (.tmp 22)⟩,
       ⟨(some 4), none, .act, .mv (.tmp 23)⟩,
       ⟨(some 5), none, .act, .mv (.const (.bool true))⟩])
     .ret)
     (.seq (.region [
       ⟨(some 25), none, .act, .mv (.tmp 1)⟩,
       ⟨(some 26), none, .act, .mv (.tmp 0)⟩,
       ⟨(some 27), none, .act, .nilCheck (.tmp 26)⟩,
       ⟨(some 28), none, .act, .fieldAddr 0 (.tmp 27)⟩,
       ⟨(some 29), none, .act, .fieldAddr 0 (.tmp 28)⟩,
       ⟨(some 30), none, .act, .load false 1 (.tmp 29)⟩,
       ⟨(some 31), none, .act, .bin .lss (.tmp 25) (.tmp 30)⟩,
       ⟨(some 32), none, .act, .mv (.tmp 31)⟩,
       ⟨(some 33), (some (32, false)), .act, .mv (.tmp 1)⟩,
       ⟨(some 34), (some (32, false)), .act, .mv (.tmp 0)⟩,
       ⟨(some 35), (some (32, false)), .act, .call 50 [(.tmp 34)]⟩,
       ⟨(some 36), (some (32, false)), .act, .bin .gtr (.tmp 33) (.tmp 35)⟩,
       ⟨(some 37), none, .act, .pick (.tmp 32) (.const (.bool true)) (.tmp 36)⟩,
       ⟨(some 24), none, .act, .mv (.tmp 37)⟩])
     (.cond (.tmp 24)
      (.seq (.region [
        ⟨(some 4), none, .act, .mv (.const (.int .u64 0))⟩,
        ⟨(some 5), none, .act, .mv (.const (.bool false))⟩])
      .ret)
      .skip)))))))
  (.seq (.region [
    ⟨(some 38), none, .pure, .mv (.tmp 0)⟩,
    ⟨(some 39), none, .pure, .nilCheck (.tmp 38)⟩,
    ⟨(some 40), none, .pure, .fieldAddr 4 (.tmp 39)⟩,
    ⟨(some 41), none, .read, .load false 1 (.tmp 40)⟩,
    ⟨(some 42), none, .pure, .mv (.tmp 1)⟩,
    ⟨(some 43), none, .pure, .mv (.tmp 0)⟩,
    ⟨(some 44), none, .pure, .nilCheck (.tmp 43)⟩,
    ⟨(some 45), none, .pure, .fieldAddr 0 (.tmp 44)⟩,
    ⟨(some 46), none, .pure, .fieldAddr 0 (.tmp 45)⟩,
    ⟨(some 47), none, .read, .load false 1 (.tmp 46)⟩,
    ⟨(some 48), none, .pure, .bin .sub (.tmp 42) (.tmp 47)⟩,
    ⟨(some 49), none, .pure, .bin .sub (.tmp 48) (.const (.int .u64 1))⟩,
    ⟨(some 50), none, .pure, .indexAddr 4 (.tmp 41) (.tmp 49)⟩,
    ⟨(some 51), none, .pure, .fieldAddr 1 (.tmp 50)⟩,
    ⟨(some 52), none, .read, .load false 1 (.tmp 51)⟩,
    ⟨(some 4), none, .pure, .mv (.tmp 52)⟩,
    ⟨(some 5), none, .pure, .mv (.const (.bool true))⟩])
  .ret)))
theorem res106 : ∃ c, Try.f106.body = some c ∧ resCode Try.prog 53 c = some r106 := ⟨_, rfl, by kernel_rfl⟩
theorem rr106 : resRes Try.prog Try.f106.results.toList = some [.tmp 4, .tmp 5] := by kernel_rfl
theorem term_zero (z : Snap) (hz : z.index = 0) (d : UInt64) (f : Bool) (i : UInt64) (p : Nat) (h : AHeap) (hp : h p = some (.box (Log.cells ⟨z, [], d, f⟩))) :
    ACalls Try.prog 106 [ptr p, enc i] h (fun x h' => x = (if i = 0 then .tu [enc z.term, bl true] else .tu [enc 0, bl false]) ∧ h' = h) := by
  obtain ⟨c, hc1, hc2⟩ := res106
  refine ACalls.enter Try.func106 hc1 Try.ntmps106 hc2 (Nat.le_of_ble_eq_true rfl) rfl ?_
  have c50 := last_spec ⟨z, [], d, f⟩ (by simp) p h hp
  obtain ⟨zi, zt, zm, zd⟩ := z
  simp only at hz
  subst hz
  replace hp : h p = some (.box [enc 0, enc zt, u64s zm, bys zd, entries [], enc d, bl f]) := hp
  have e0 : (0 : UInt64) + UInt64.ofNat ([] : List Entry).length = 0 := by decide
  simp only [e0] at c50
  by_cases hi : i = 0
  · rw [if_pos hi]
    have hi' : i.toNat = 0 := by rw [hi]; rfl
    have hz0 : (0 : UInt64).toNat = 0 := rfl
    repeat' (first | refine S.nilK ?_ | (refine S.op rfl ?_; first | refine R.mv rfl ?_ | refine R.fieldAddr rfl ?_ | refine R.nilCheck rfl ?_ | refine R.load (by decide) rfl (by (repeat' (first | assumption)); first | done | fail) rfl ?_ | refine R.eqPtrNil rfl rfl ?_ | ((first | refine S.eqInt rfl rfl ?_ ?_) <;> intro hlt <;> try (exfalso; omega))) | refine S.seq ?_ | refine S.region ?_ | refine S.condT rfl ?_ | refine S.condF rfl ?_ | refine RRun.block ?_)
    apply S.ret rr106
    case hx => repeat (first | exact ResAt.nil | apply ResAt.tmp rfl)
    exact ⟨rfl, rfl⟩
  · rw [if_neg hi]
    have hi' : i.toNat ≠ 0 := fun e => hi (UInt64.toNat_inj.1 e)
    have hz0 : (0 : UInt64).toNat = 0 := rfl
    repeat' (first | refine S.nilK ?_ | (refine S.op rfl ?_; first | refine callS rfl rfl c50 ?_ | refine R.mv rfl ?_ | refine R.fieldAddr rfl ?_ | refine R.nilCheck rfl ?_ | refine R.load (by decide) rfl (by (repeat' (first | assumption)); first | done | fail) rfl ?_ | refine R.pickF rfl rfl ?_ | refine R.eqPtrNil rfl rfl ?_ | ((first | refine S.lss rfl rfl ?_ ?_ | refine S.gtr rfl rfl ?_ ?_ | refine S.eqInt rfl rfl ?_ ?_) <;> intro hlt <;> try (exfalso; omega))) | refine S.seq ?_ | refine S.region ?_ | refine S.condT rfl ?_ | refine S.condF rfl ?_ | refine RRun.block ?_)
    apply S.ret rr106
    case hx => repeat (first | exact ResAt.nil | apply ResAt.tmp rfl)
    exact ⟨rfl, rfl⟩
end Go.Proofs.Ytnmgamcmjjngcaa

namespace Go.Proofs.Ytnmgamcmjjngcaa
open Go.Av
def r101 : RCode :=
  (.seq (.region [
    ⟨(some 3), none, .act, .box (.tmp 1)⟩])
  (.seq (.seq (.region [
    ⟨(some 7), none, .act, .mv (.tmp 0)⟩,
    ⟨(some 8), none, .act, .eq false .ptr (.tmp 7) (.const (.pointer none))⟩])
  (.cond (.tmp 8)
   .ret
   .skip))
  (.seq (.region [
    ⟨(some 9), none, .act, .load true 4 (.tmp 3)⟩,
    ⟨(some 10), none, .act, .call 51 [(.tmp 9)]⟩,
    ⟨none, none, .act, .store 4 (.tmp 3) (.tmp 10)⟩])
  (.seq (.region [
    ⟨(some 4), none, .act, .mv (.const (.slice none 0 0))⟩])
  (.seq (.seq (.region [
    ⟨(some 12), none, .act, .mv (.tmp 0)⟩,
    ⟨(some 13), none, .act, .fieldAddr 0 (.tmp 3)⟩,
    ⟨(some 14), none, .act, .load false 1 (.tmp 13)⟩,
    ⟨(some 15), none, .act, .call 106 [(.tmp 12), (.tmp 14)]⟩,
    ⟨(some 11), none, .act, .mv (.tmp 15)⟩,
    ⟨(some 16), none, .act, .extract (.tmp 11) 0⟩,
    ⟨(some 17), none, .act, .extract (.tmp 11) 1⟩,
    ⟨(some 5), none, .act, .mv (.tmp 16)⟩,
    ⟨(some 6), none, .act, .mv (.tmp 17)⟩])
  (.seq (.region [
    ⟨(some 18), none, .act, .mv (.tmp 6)⟩,
    ⟨(some 19), none, .act, .mv (.tmp 18)⟩,
    ⟨(some 20), (some (19, true)), .act, .mv (.tmp 5)⟩,
    ⟨(some 21), (some (19, true)), .act, .fieldAddr 1 (.tmp 3)⟩,
    ⟨(some 22), (some (19, true)), .act, .load false 1 (.tmp 21)⟩,
    ⟨(some 23), (some (19, true)), .act, .eq false .int (.tmp 20) (.tmp 22)⟩,
    ⟨(some 24), none, .act, .pick (.tmp 19) (.tmp 23) (.const (.bool false))⟩])
  (.cond (.tmp 24)
   (.region [
     ⟨(some 25), none, .pure, .mv (.tmp 0)⟩,
     ⟨(some 26), none, .pure, .fieldAddr 0 (.tmp 3)⟩,
     ⟨(some 27), none, .read, .load false 1 (.tmp 26)⟩,
     ⟨(some 28), none, .pure, .bin .add (.tmp 27) (.const (.int .u64 1))⟩,
     ⟨(some 29), none, .pure, .mv (.tmp 0)⟩,
     ⟨(some 30), none, .pure, .nilCheck (.tmp 29)⟩,
     ⟨(some 31), none, .pure, .fieldAddr 4 (.tmp 30)⟩,
     ⟨(some 32), none, .read, .load false 1 (.tmp 31)⟩,
     ⟨(some 33), none, .pure, .len (.tmp 32)⟩,
     ⟨(some 34), none, .act, .call 15 [(.tmp 25), (.tmp 28), (.tmp 33)]⟩,
     ⟨(some 4), none, .pure, .mv (.tmp 34)⟩])
   .skip)))
  (.seq (.region [
    ⟨(some 35), none, .act, .mv (.tmp 0)⟩,
    ⟨(some 36), none, .act, .mv (.tmp 0)⟩,
    ⟨(some 37), none, .act, .mv (.tmp 0)⟩,
    ⟨(some 38), none, .act, .load true 4 (.tmp 3)⟩,
    ⟨(some 39), none, .act, .mv (.tmp 4)⟩,
    ⟨(some 40), none, .act, .nilCheck (.tmp 35)⟩,
    ⟨(some 41), none, .act, .fieldAddr 0 (.tmp 40)⟩,
    ⟨none, none, .act, .store 4 (.tmp 41) (.tmp 38)⟩,
    ⟨(some 42), none, .act, .nilCheck (.tmp 36)⟩,
    ⟨(some 43), none, .act, .fieldAddr 4 (.tmp 42)⟩,
    ⟨none, none, .act, .store 1 (.tmp 43) (.tmp 39)⟩,
    ⟨(some 44), none, .act, .nilCheck (.tmp 37)⟩,
    ⟨(some 45), none, .act, .fieldAddr 6 (.tmp 44)⟩,
    ⟨none, none, .act, .store 1 (.tmp 45) (.const (.bool true))⟩])
  (.seq (.region [
    ⟨(some 46), none, .act, .mv (.tmp 0)⟩,
    ⟨(some 47), none, .act, .nilCheck (.tmp 46)⟩,
    ⟨(some 48), none, .act, .fieldAddr 5 (.tmp 47)⟩,
    ⟨(some 49), none, .act, .load false 1 (.tmp 48)⟩,
    ⟨(some 50), none, .act, .eq true .int (.tmp 49) (.const (.int .u64 0))⟩])
  (.cond (.tmp 50)
   (.region [
     ⟨(some 51), none, .act, .mv (.tmp 0)⟩,
     ⟨(some 52), none, .act, .fieldAddr 0 (.tmp 3)⟩,
     ⟨(some 53), none, .act, .load false 1 (.tmp 52)⟩,
     ⟨(some 54), none, .act, .bin .add (.tmp 53) (.const (.int .u64 1))⟩,
     ⟨(some 55), none, .act, .nilCheck (.tmp 51)⟩,
     ⟨(some 56), none, .act, .fieldAddr 5 (.tmp 55)⟩,
     ⟨none, none, .act, .store 1 (.tmp 56) (.tmp 54)⟩])
   .skip))))))))
theorem res101 : ∃ c, Try.f101.body = some c ∧ resCode Try.prog 57 c = some r101 := ⟨_, rfl, by kernel_rfl⟩
theorem rr101 : resRes Try.prog Try.f101.results.toList = some [] := by kernel_rfl
theorem install_zero (z : Snap) (hz : z.index = 0) (f : Bool) (s : Snap) (hm : s.members.length ≤ 17592186044416) (hl : s.data.length ≤ 140737488355328) (p : Nat) (h : AHeap) (hp : h p = some (.box (Log.cells ⟨z, [], 0, f⟩))) :
    ACalls Try.prog 101 [ptr p, .ag s.cells] h (fun _ h' => h' = h.set p (.box (Log.cells ⟨s.copied, [], 0, true⟩))) := by
  obtain ⟨c, hc1, hc2⟩ := res101
  have c51 := fun h => copied_spec s hm hl h
  have c106 := fun h hp => term_zero z hz 0 f s.copied.index p h hp
  have c15 := fun i h hp => entries_spec ⟨z, [], 0, f⟩ (by simp) (by simp [hz]) (by simp) i 0 (by decide) p h hp
  have hat : ∀ i, Log.at' ⟨z, [], 0, f⟩ i 0 = [] := fun i => by simp [Log.at']
  simp only [hat] at c15
  generalize s.copied = t at c51 c106 ⊢
  obtain ⟨zi, zt, zm, zd⟩ := z
  obtain ⟨ti, tt, tm, td⟩ := t
  obtain ⟨si, st, sm, sd⟩ := s
  simp only at hz
  subst hz
  replace hp : h p = some (.box [enc 0, enc zt, u64s zm, bys zd, entries [], enc 0, bl f]) := hp
  rw [show Snap.cells ⟨si, st, sm, sd⟩ = [enc si, enc st, u64s sm, bys sd] from rfl] at c51 ⊢
  rw [show Snap.cells ⟨ti, tt, tm, td⟩ = [enc ti, enc tt, u64s tm, bys td] from rfl] at c51
  refine ACalls.weak (ACalls.enter Try.func101 hc1 Try.ntmps101 hc2 (Nat.le_of_ble_eq_true rfl) rfl ?_)
  have hz0 : (0 : UInt64).toNat = 0 := rfl
  by_cases hi : ti = 0
  · rw [if_pos hi] at c106
    have hi' : ti.toNat = 0 := by rw [hi]; rfl
    repeat' (first | refine S.nilK ?_ | (refine S.op rfl ?_; first | refine callS rfl rfl (c51 _) ?_ | refine callS rfl rfl (c106 _ (by (repeat' (first | assumption | refine AHeap.get_fresh ‹_› ?_)); first | done | fail)) ?_ | refine callS rfl rfl (c15 _ _ (by (repeat' (first | assumption | refine AHeap.get_fresh ‹_› ?_)); first | done | fail)) ?_ | refine R.mv rfl ?_ | refine R.fieldAddr rfl ?_ | refine R.nilCheck rfl ?_ | refine R.load (by decide) rfl (by (repeat' (first | assumption | exact AHeap.set_same _ _ _ | refine AHeap.get_fresh ‹_› ?_)); first | done | fail) rfl ?_ | refine S.addUc rfl (by decide) ?_ | refine R.pickT rfl rfl ?_ | refine R.len rfl ?_ | refine R.eqPtrNil rfl rfl ?_ | refine R.extract rfl rfl ?_ | refine R.box rfl rfl rfl (fun b hb => ?_) | ((first | refine S.eqInt rfl rfl ?_ ?_) <;> intro hlt <;> try (exfalso; omega))) | (refine S.op0 rfl ?_; first | refine S.storeS rfl rfl rfl (by rfl) rfl (by first | decide | exact Nat.le_refl _ | exact Nat.le_of_ble_eq_true rfl) ?_ | refine S.store rfl rfl (by (repeat' (first | assumption | refine AHeap.get_fresh ‹_› ?_)); first | done | fail) rfl rfl rfl (by rfl) rfl ?_) | refine S.seq ?_ | refine S.region ?_ | refine S.condT rfl ?_ | refine S.condF rfl ?_ | refine RRun.skip ?_)
    all_goals
      apply S.done rr101
      case hx => repeat (first | exact ResAt.nil)
      refine ⟨_, h.set p (.box (Log.cells ⟨⟨ti, tt, tm, td⟩, [], 0, true⟩)), .refl _, fun x o e => ?_, rfl⟩
      by_cases hx : x = p
      · subst hx
        rw [AHeap.set_same] at e
        cases e
        refine ⟨_, (by (repeat' (first | exact AHeap.set_same _ _ _)); first | done | fail), .box (.cons (.refl _) (.cons (.refl _) (.cons (.refl _) (.cons (.refl _) (.cons ?_ (.cons (.refl _) (.cons (.refl _) .nil)))))))⟩
        first | exact .refl _ | exact .nilSl 4 (c := .ro) trivial
      · rw [AHeap.set_other _ _ hx] at e
        have hxb : x ≠ b := AHeap.ne_of hb e
        exact ⟨o, by simp only [AHeap.set, hx, hxb, if_false]; exact e, .refl o⟩
  · rw [if_neg hi] at c106
    repeat' (first | refine S.nilK ?_ | (refine S.op rfl ?_; first | refine callS rfl rfl (c51 _) ?_ | refine callS rfl rfl (c106 _ (by (repeat' (first | assumption | refine AHeap.get_fresh ‹_› ?_)); first | done | fail)) ?_ | refine R.mv rfl ?_ | refine R.fieldAddr rfl ?_ | refine R.nilCheck rfl ?_ | refine R.load (by decide) rfl (by (repeat' (first | exact AHeap.set_same _ _ _)); first | done | fail) rfl ?_ | refine R.pickF rfl rfl ?_ | refine R.eqPtrNil rfl rfl ?_ | refine R.extract rfl rfl ?_ | refine R.box rfl rfl rfl (fun b hb => ?_) | ((first | refine S.eqInt rfl rfl ?_ ?_) <;> intro hlt <;> try (exfalso; omega))) | (refine S.op0 rfl ?_; first | refine S.storeS rfl rfl rfl (by rfl) rfl (by first | decide | exact Nat.le_refl _ | exact Nat.le_of_ble_eq_true rfl) ?_ | refine S.store rfl rfl (by (repeat' (first | assumption | refine AHeap.get_fresh ‹_› ?_)); first | done | fail) rfl rfl rfl (by rfl) rfl ?_) | refine S.skip rfl ?_ | refine S.seq ?_ | refine S.region ?_ | refine S.condF rfl ?_ | refine RRun.skip ?_)
    all_goals
      apply S.done rr101
      case hx => repeat (first | exact ResAt.nil)
      refine ⟨_, h.set p (.box (Log.cells ⟨⟨ti, tt, tm, td⟩, [], 0, true⟩)), .refl _, fun x o e => ?_, rfl⟩
      by_cases hx : x = p
      · subst hx
        rw [AHeap.set_same] at e
        cases e
        refine ⟨_, (by (repeat' (first | exact AHeap.set_same _ _ _)); first | done | fail), .box (.cons (.refl _) (.cons (.refl _) (.cons (.refl _) (.cons (.refl _) (.cons ?_ (.cons (.refl _) (.cons (.refl _) .nil)))))))⟩
        first | exact .refl _ | exact .nilSl 4 (c := .ro) trivial
      · rw [AHeap.set_other _ _ hx] at e
        have hxb : x ≠ b := AHeap.ne_of hb e
        exact ⟨o, by simp only [AHeap.set, hx, hxb, if_false]; exact e, .refl o⟩
end Go.Proofs.Ytnmgamcmjjngcaa

namespace Go.Proofs.Ytnmgamcmjjngcaa
open Go.Av
theorem rN_of {s s2 : Option (List UInt8)} {v most : UInt64} (he : rdN s most = (v, s2)) (hs : (dat s).length ≤ 140737488355328) (r : Nat) (g : AHeap) (hp : g r = some (.box (rdr s))) :
    ACalls Try.prog 74 [ptr r, enc most] g (fun x h' => x = enc v ∧ h' = g.set r (.box (rdr s2))) := by
  have := rN_spec s hs most r g hp
  rw [he] at this; exact this
theorem rT_of {s s2 : Option (List UInt8)} {t : List UInt8} {m : Nat} (hm : m ≤ 9223372036854775807) (he : rdT s (UInt64.ofNat m) = (t, s2)) (hs : (dat s).length ≤ 140737488355328) (r : Nat) (g : AHeap) (hp : g r = some (.box (rdr s))) :
    ACalls Try.prog 100 [ptr r, i64 m] g (fun x h' => x = bysC t .ro ∧ h' = g.set r (.box (rdr s2))) := by
  have := rText_spec s hs m hm r g hp
  rw [he] at this; exact this
def r88 : RCode :=
  (.seq (.region [
    ⟨(some 4), none, .act, .mv (.const (.int .i64 0))⟩])
  (.seq (.region [
    ⟨(some 11), none, .act, .mv (.tmp 1)⟩,
    ⟨(some 12), none, .act, .call 73 [(.tmp 11)]⟩,
    ⟨(some 5), none, .act, .mv (.tmp 12)⟩])
  (.seq (.seq (.region [
    ⟨(some 13), none, .act, .mv (.tmp 5)⟩,
    ⟨(some 14), none, .act, .call 74 [(.tmp 13), (.const (.int .u64 3))]⟩])
  (.block 0
   (.seq (.region [
     ⟨(some 16), none, .act, .eq false .int (.tmp 14) (.const (.int .u64 1))⟩,
     ⟨(some 15), none, .act, .mv (.tmp 16)⟩])
   (.cond (.tmp 15)
    (.seq (.region [
      ⟨(some 17), none, .act, .mv (.tmp 5)⟩,
      ⟨(some 18), none, .act, .call 74 [(.tmp 17), (.const (.int .u64 18446744073709551615))]⟩,
      ⟨(some 19), none, .act, .build [(.int .u64 0), (.int .u64 0)] [(0, 1, (.tmp 18))]⟩,
      ⟨(some 6), none, .act, .alloc [(.int .u64 0), (.int .u64 0)]⟩,
      ⟨none, none, .act, .store 2 (.tmp 6) (.tmp 19)⟩])
    (.seq (.region [
      ⟨(some 20), none, .act, .mv (.tmp 5)⟩,
      ⟨(some 21), none, .act, .call 74 [(.tmp 20), (.const (.int .u64 18446744073709551615))]⟩,
      ⟨(some 22), none, .act, .fieldAddr 1 (.tmp 6)⟩,
      ⟨none, none, .act, .store 1 (.tmp 22) (.tmp 21)⟩])
    (.seq (.region [
      ⟨(some 23), none, .act, .mv (.tmp 5)⟩,
      ⟨(some 24), none, .act, .call 75 [(.tmp 23)]⟩,
      ⟨(some 25), none, .act, .eq false .int (.tmp 24) (.const (.int .i64 0))⟩])
    (.cond (.tmp 25)
     (.seq (.region [
       ⟨(some 26), none, .act, .mv (.tmp 0)⟩,
       ⟨(some 27), none, .act, .load true 2 (.tmp 6)⟩,
       ⟨(some 28), none, .act, .nilCheck (.tmp 26)⟩,
       ⟨(some 29), none, .act, .fieldAddr 0 (.tmp 28)⟩,
       ⟨none, none, .act, .store 2 (.tmp 29) (.tmp 27)⟩])
     (.seq (.region [
       ⟨(some 4), none, .act, .mv (.const (.int .i64 0))⟩])
     .ret))
     .skip))))
    (.seq (.region [
      ⟨(some 31), none, .act, .eq false .int (.tmp 14) (.const (.int .u64 2))⟩,
      ⟨(some 30), none, .act, .mv (.tmp 31)⟩])
    (.cond (.tmp 30)
     (.seq (.region [
       ⟨(some 32), none, .act, .mv (.tmp 5)⟩,
       ⟨(some 33), none, .act, .call 74 [(.tmp 32), (.const (.int .u64 18446744073709551615))]⟩,
       ⟨(some 34), none, .act, .build [(.int .u64 0), (.int .u64 0), (.int .i64 0), (.slice none 0 0)] [(0, 1, (.tmp 33))]⟩,
       ⟨(some 7), none, .act, .alloc [(.int .u64 0), (.int .u64 0), (.int .i64 0), (.slice none 0 0)]⟩,
       ⟨none, none, .act, .store 4 (.tmp 7) (.tmp 34)⟩])
     (.seq (.region [
       ⟨(some 35), none, .act, .mv (.tmp 5)⟩,
       ⟨(some 36), none, .act, .call 74 [(.tmp 35), (.const (.int .u64 18446744073709551615))]⟩,
       ⟨(some 37), none, .act, .fieldAddr 1 (.tmp 7)⟩,
       ⟨none, none, .act, .store 1 (.tmp 37) (.tmp 36)⟩])
     (.seq (.region [
       ⟨(some 38), none, .act, .mv (.tmp 5)⟩,
       ⟨(some 39), none, .act, .call 99 [(.tmp 38)]⟩,
       ⟨(some 40), none, .act, .fieldAddr 2 (.tmp 7)⟩,
       ⟨none, none, .act, .store 1 (.tmp 40) (.tmp 39)⟩])
     (.seq (.region [
       ⟨(some 41), none, .act, .mv (.tmp 5)⟩,
       ⟨(some 42), none, .act, .call 100 [(.tmp 41), (.const (.int .i64 1048576))]⟩,
       ⟨(some 43), none, .act, .fieldAddr 3 (.tmp 7)⟩,
       ⟨none, none, .act, .store 1 (.tmp 43) (.tmp 42)⟩])
     (.seq (.region [
       ⟨(some 44), none, .act, .mv (.tmp 5)⟩,
       ⟨(some 45), none, .act, .call 75 [(.tmp 44)]⟩,
       ⟨(some 46), none, .act, .eq false .int (.tmp 45) (.const (.int .i64 0))⟩])
     (.cond (.tmp 46)
      (.seq (.region [
        ⟨(some 47), none, .pure, .mv (.tmp 0)⟩,
        ⟨(some 48), none, .pure, .nilCheck (.tmp 47)⟩,
        ⟨(some 49), none, .pure, .fieldAddr 2 (.tmp 48)⟩,
        ⟨(some 50), none, .read, .load false 1 (.tmp 49)⟩,
        ⟨(some 51), none, .read, .load true 4 (.tmp 7)⟩,
        ⟨(some 52), none, .pure, .buildSl 4 [(.int .u64 0), (.int .u64 0), (.int .i64 0), (.slice none 0 0)] 1 [(0, (.tmp 51))]⟩,
        ⟨(some 53), none, .act, .call 14 [(.tmp 50), (.tmp 52)]⟩,
        ⟨(some 4), none, .pure, .mv (.tmp 53)⟩])
      .ret)
      .skip))))))
     (.seq (.region [
       ⟨(some 55), none, .act, .eq false .int (.tmp 14) (.const (.int .u64 3))⟩,
       ⟨(some 54), none, .act, .mv (.tmp 55)⟩])
     (.cond (.tmp 54)
      (.seq (.region [
        ⟨(some 56), none, .act, .mv (.tmp 5)⟩,
        ⟨(some 57), none, .act, .call 74 [(.tmp 56), (.const (.int .u64 18446744073709551615))]⟩,
        ⟨(some 58), none, .act, .build [(.int .u64 0), (.int .u64 0), (.slice none 0 0), (.slice none 0 0)] [(0, 1, (.tmp 57))]⟩,
        ⟨(some 8), none, .act, .alloc [(.int .u64 0), (.int .u64 0), (.slice none 0 0), (.slice none 0 0)]⟩,
        ⟨none, none, .act, .store 4 (.tmp 8) (.tmp 58)⟩])
      (.seq (.region [
        ⟨(some 59), none, .act, .mv (.tmp 5)⟩,
        ⟨(some 60), none, .act, .call 74 [(.tmp 59), (.const (.int .u64 18446744073709551615))]⟩,
        ⟨(some 61), none, .act, .fieldAddr 1 (.tmp 8)⟩,
        ⟨none, none, .act, .store 1 (.tmp 61) (.tmp 60)⟩])
      (.seq (.region [
        ⟨(some 63), none, .act, .mv (.tmp 5)⟩,
        ⟨(some 64), none, .act, .call 100 [(.tmp 63), (.const (.int .i64 1048576))]⟩,
        ⟨(some 65), none, .act, .call 37 [(.tmp 64)]⟩,
        ⟨(some 62), none, .act, .mv (.tmp 65)⟩,
        ⟨(some 66), none, .act, .extract (.tmp 62) 0⟩,
        ⟨(some 67), none, .act, .extract (.tmp 62) 1⟩,
        ⟨(some 9), none, .act, .mv (.tmp 66)⟩,
        ⟨(some 10), none, .act, .mv (.tmp 67)⟩])
      (.seq (.region [
        ⟨(some 68), none, .act, .mv (.tmp 9)⟩,
        ⟨(some 69), none, .act, .mv (.tmp 5)⟩,
        ⟨(some 70), none, .act, .call 100 [(.tmp 69), (.const (.int .i64 1048576))]⟩,
        ⟨(some 71), none, .act, .fieldAddr 2 (.tmp 8)⟩,
        ⟨none, none, .act, .store 1 (.tmp 71) (.tmp 68)⟩,
        ⟨(some 72), none, .act, .fieldAddr 3 (.tmp 8)⟩,
        ⟨none, none, .act, .store 1 (.tmp 72) (.tmp 70)⟩])
      (.seq (.region [
        ⟨(some 73), none, .act, .mv (.tmp 5)⟩,
        ⟨(some 74), none, .act, .call 75 [(.tmp 73)]⟩,
        ⟨(some 75), none, .act, .eq false .int (.tmp 74) (.const (.int .i64 0))⟩,
        ⟨(some 76), none, .act, .mv (.tmp 75)⟩,
        ⟨(some 77), (some (76, true)), .act, .mv (.tmp 10)⟩,
        ⟨(some 78), (some (76, true)), .act, .eq false .int (.tmp 77) (.const (.int .i64 0))⟩,
        ⟨(some 79), none, .act, .pick (.tmp 76) (.tmp 78) (.const (.bool false))⟩])
      (.cond (.tmp 79)
       (.seq (.region [
         ⟨(some 80), none, .pure, .mv (.tmp 0)⟩,
         ⟨(some 81), none, .pure, .nilCheck (.tmp 80)⟩,
         ⟨(some 82), none, .pure, .fieldAddr 2 (.tmp 81)⟩,
         ⟨(some 83), none, .read, .load false 1 (.tmp 82)⟩,
         ⟨(some 84), none, .read, .load true 4 (.tmp 8)⟩,
         ⟨(some 85), none, .act, .call 101 [(.tmp 83), (.tmp 84)]⟩])
       (.seq (.region [
         ⟨(some 4), none, .act, .mv (.const (.int .i64 0))⟩])
       .ret))
       .skip))))))
      .skip))))))))
  (.seq (.region [
    ⟨(some 4), none, .act, .mv (.const (.int .i64 30))⟩])
  .ret))))
theorem res88 : ∃ c, Try.f88.body = some c ∧ resCode Try.prog 86 c = some r88 := ⟨_, rfl, by kernel_rfl⟩
theorem rr88 : resRes Try.prog Try.f88.results.toList = some [.tmp 4] := by kernel_rfl
theorem one_hard (t v a0 b0 : UInt64) (p q : Nat) (h : AHeap) (hp : h p = some (.box [enc a0, enc b0, ptr q])) :
    ACalls Try.prog 88 [ptr p, bysC (putNs [1, t, v]) .ro] h (fun x h' => x = i64 0 ∧ h' = h.set p (.box [enc t, enc v, ptr q])) := by
  obtain ⟨c, hc1, hc2⟩ := res88
  refine ACalls.weak (ACalls.enter Try.func88 hc1 Try.ntmps88 hc2 (Nat.le_of_ble_eq_true rfl) rfl ?_)
  have l3 := putNs_len [1, t, v]
  have l2 := putNs_len [t, v]
  have l1 := putNs_len [v]
  have ht := UInt64.toNat_lt t
  have hv := UInt64.toNat_lt v
  have hf : full64.toNat = 18446744073709551615 := by decide
  have e1 : rdN (some (putNs [1, t, v])) 3 = (1, some (putNs [t, v])) := by
    have := rdN_puts (x := 1) (l := [t, v]) (most := 3) (by decide) []
    simpa using this
  have e2 : rdN (some (putNs [t, v])) full64 = (t, some (putNs [v])) := by
    have := rdN_puts (x := t) (l := [v]) (most := full64) (by omega) []
    simpa using this
  have e3 : rdN (some (putNs [v])) full64 = (v, some []) := by
    have := rdN_puts (x := v) (l := []) (most := full64) (by omega) []
    simpa [putNs] using this
  repeat' (first | refine S.nilK ?_ | (refine S.op rfl ?_; first | refine R.mv rfl ?_) | refine S.seq ?_ | refine S.region ?_)
  refine S.op rfl (R.call rfl rfl ((read_spec (putNs [1, t, v]) (by simp only [List.length_cons, List.length_nil] at l3; omega) h).mono ?_))
  rintro x h1 ⟨r, hr, rfl, rfl⟩
  have hrp : r ≠ p := fun e => by rw [e, hp] at hr; cases hr
  have hpr := Ne.symm hrp
  have c1 := fun g hg => rN_of e1 (by simp only [dat, Option.getD_some, List.length_cons, List.length_nil] at l3 ⊢; omega) r g hg
  have c2 := fun g hg => rN_of e2 (by simp only [dat, Option.getD_some, List.length_cons, List.length_nil] at l2 ⊢; omega) r g hg
  have c3 := fun g hg => rN_of e3 (by simp only [dat, Option.getD_some, List.length_cons, List.length_nil] at l1 ⊢; omega) r g hg
  have c4 : ∀ g, g r = some (.box (rdr (some []))) → ACalls Try.prog 75 [ptr r] g (fun x h' => x = i64 0 ∧ h' = g) := fun g hg => rEnd_spec (some []) (by simp [dat]) r g hg
  have hz1 : (1 : UInt64).toNat = 1 := rfl
  repeat' (first | (rw [AHeap.set_set]) | refine S.nilK ?_ | (refine S.op rfl ?_; first | refine callS rfl rfl (c1 _ (by (repeat' (first | exact AHeap.set_same _ _ _)); first | done | fail)) ?_ | refine callS rfl rfl (c2 _ (by (repeat' (first | exact AHeap.set_same _ _ _)); first | done | fail)) ?_ | refine callS rfl rfl (c3 _ (by (repeat' (first | exact AHeap.set_same _ _ _ | refine AHeap.get_fresh ‹_› ?_)); first | done | fail)) ?_ | refine callS rfl rfl (c4 _ (by (repeat' (first | exact AHeap.set_same _ _ _ | refine AHeap.so ?_ ?_ | exact AHeap.n2 ‹_›)); first | done | fail)) ?_ | refine R.mv rfl ?_ | refine R.fieldAddr rfl ?_ | refine R.nilCheck rfl ?_ | refine R.load (by decide) rfl (by (repeat' (first | exact AHeap.set_same _ _ _)); first | done | fail) rfl ?_ | refine R.alloc rfl (fun b hb => ?_) | refine R.build rfl rfl ?_ | ((first | refine S.eqInt rfl rfl ?_ ?_) <;> intro hlt <;> try (exfalso; omega))) | (refine S.op0 rfl ?_; first | refine S.storeS rfl rfl rfl (by rfl) rfl (by first | decide | exact Nat.le_refl _ | exact Nat.le_of_ble_eq_true rfl) ?_ | refine S.store rfl rfl (by (repeat' (first | assumption | exact AHeap.set_same _ _ _ | refine AHeap.get_fresh ‹_› ?_ | refine AHeap.so ?_ ?_ | exact AHeap.n1 ‹_› | exact AHeap.n7 ‹_› ‹_›)); first | done | fail) rfl rfl rfl (by rfl) rfl ?_) | refine S.seq ?_ | refine S.region ?_ | refine S.condT rfl ?_ | refine RRun.block ?_)
  apply S.ret rr88
  case hx => repeat (first | exact ResAt.nil | apply ResAt.tmp rfl)
  refine ⟨_, h.set p (.box [enc t, enc v, ptr q]), .refl _, fun x o e => ?_, rfl, rfl⟩
  by_cases hx : x = p
  · subst hx
    rw [AHeap.set_same] at e
    cases e
    exact ⟨_, (by (repeat' (first | exact AHeap.set_same _ _ _)); first | done | fail), .refl _⟩
  · rw [AHeap.set_other _ _ hx] at e
    have hxr : x ≠ r := fun e' => by subst e'; rw [hr] at e; cases e
    have hxb : x ≠ b := fun e' => by subst e'; rw [AHeap.set_other _ _ hxr, e] at hb; cases hb
    exact ⟨o, by simp only [AHeap.set, hx, hxr, hxb, if_false]; exact e, .refl o⟩
end Go.Proofs.Ytnmgamcmjjngcaa

namespace Go.Proofs.Ytnmgamcmjjngcaa
open Go.Av
def r88f : RCode :=
  (.seq (.region [
       ⟨(some 41), none, .act, .mv (.tmp 5)⟩,
       ⟨(some 42), none, .act, .call 100 [(.tmp 41), (.const (.int .i64 1048576))]⟩,
       ⟨(some 43), none, .act, .fieldAddr 3 (.tmp 7)⟩,
       ⟨none, none, .act, .store 1 (.tmp 43) (.tmp 42)⟩])
     (.seq (.region [
       ⟨(some 44), none, .act, .mv (.tmp 5)⟩,
       ⟨(some 45), none, .act, .call 75 [(.tmp 44)]⟩,
       ⟨(some 46), none, .act, .eq false .int (.tmp 45) (.const (.int .i64 0))⟩])
     (.cond (.tmp 46)
      (.seq (.region [
        ⟨(some 47), none, .pure, .mv (.tmp 0)⟩,
        ⟨(some 48), none, .pure, .nilCheck (.tmp 47)⟩,
        ⟨(some 49), none, .pure, .fieldAddr 2 (.tmp 48)⟩,
        ⟨(some 50), none, .read, .load false 1 (.tmp 49)⟩,
        ⟨(some 51), none, .read, .load true 4 (.tmp 7)⟩,
        ⟨(some 52), none, .pure, .buildSl 4 [(.int .u64 0), (.int .u64 0), (.int .i64 0), (.slice none 0 0)] 1 [(0, (.tmp 51))]⟩,
        ⟨(some 53), none, .act, .call 14 [(.tmp 50), (.tmp 52)]⟩,
        ⟨(some 4), none, .pure, .mv (.tmp 53)⟩])
      .ret)
      .skip)))
def r88e : RCode :=
  (.seq (.region [
       ⟨(some 32), none, .act, .mv (.tmp 5)⟩,
       ⟨(some 33), none, .act, .call 74 [(.tmp 32), (.const (.int .u64 18446744073709551615))]⟩,
       ⟨(some 34), none, .act, .build [(.int .u64 0), (.int .u64 0), (.int .i64 0), (.slice none 0 0)] [(0, 1, (.tmp 33))]⟩,
       ⟨(some 7), none, .act, .alloc [(.int .u64 0), (.int .u64 0), (.int .i64 0), (.slice none 0 0)]⟩,
       ⟨none, none, .act, .store 4 (.tmp 7) (.tmp 34)⟩])
     (.seq (.region [
       ⟨(some 35), none, .act, .mv (.tmp 5)⟩,
       ⟨(some 36), none, .act, .call 74 [(.tmp 35), (.const (.int .u64 18446744073709551615))]⟩,
       ⟨(some 37), none, .act, .fieldAddr 1 (.tmp 7)⟩,
       ⟨none, none, .act, .store 1 (.tmp 37) (.tmp 36)⟩])
     (.seq (.region [
       ⟨(some 38), none, .act, .mv (.tmp 5)⟩,
       ⟨(some 39), none, .act, .call 99 [(.tmp 38)]⟩,
       ⟨(some 40), none, .act, .fieldAddr 2 (.tmp 7)⟩,
       ⟨none, none, .act, .store 1 (.tmp 40) (.tmp 39)⟩])
     (.seq (.region [
       ⟨(some 41), none, .act, .mv (.tmp 5)⟩,
       ⟨(some 42), none, .act, .call 100 [(.tmp 41), (.const (.int .i64 1048576))]⟩,
       ⟨(some 43), none, .act, .fieldAddr 3 (.tmp 7)⟩,
       ⟨none, none, .act, .store 1 (.tmp 43) (.tmp 42)⟩])
     (.seq (.region [
       ⟨(some 44), none, .act, .mv (.tmp 5)⟩,
       ⟨(some 45), none, .act, .call 75 [(.tmp 44)]⟩,
       ⟨(some 46), none, .act, .eq false .int (.tmp 45) (.const (.int .i64 0))⟩])
     (.cond (.tmp 46)
      (.seq (.region [
        ⟨(some 47), none, .pure, .mv (.tmp 0)⟩,
        ⟨(some 48), none, .pure, .nilCheck (.tmp 47)⟩,
        ⟨(some 49), none, .pure, .fieldAddr 2 (.tmp 48)⟩,
        ⟨(some 50), none, .read, .load false 1 (.tmp 49)⟩,
        ⟨(some 51), none, .read, .load true 4 (.tmp 7)⟩,
        ⟨(some 52), none, .pure, .buildSl 4 [(.int .u64 0), (.int .u64 0), (.int .i64 0), (.slice none 0 0)] 1 [(0, (.tmp 51))]⟩,
        ⟨(some 53), none, .act, .call 14 [(.tmp 50), (.tmp 52)]⟩,
        ⟨(some 4), none, .pure, .mv (.tmp 53)⟩])
      .ret)
      .skip))))))
abbrev tail88 : List RT := [.inBlock 0, .code (.seq (.region [⟨(some 4), none, .act, .mv (.const (.int .i64 30))⟩]) .ret)]
theorem one_entry_f (ix t : UInt64) (kind : Int) (data : List UInt8) (hd : data.length ≤ 100000) (L : Log) (hl : L.l.length ≤ 1000000) (hs : L.s.index.toNat ≤ 9223372036854775807) (p q r b7 : Nat) (hd1 : p ≠ q ∧ r ≠ p ∧ r ≠ q ∧ b7 ≠ p ∧ b7 ≠ q ∧ b7 ≠ r) (u0 v0 : UInt64) (g : AHeap) (hp : g p = some (.box [enc u0, enc v0, ptr q])) (hq : g q = some (.box L.cells)) (hr : g r = some (.box (rdr (some (putText data ++ []))))) (h7 : g b7 = some (.box [enc ix, enc t, i64 kind, .v (.slice none 0 0)])) (Q : AV → AHeap → Prop)
    (hQ : ∀ g', g' q = some (.box (L.append [⟨ix, t, kind, data⟩]).1.cells) → (∀ x, x ≠ q → x ≠ r → x ≠ b7 → g' x = g x) → Q (i64 (L.append [⟨ix, t, kind, data⟩]).2) g') :
    RRun Try.prog Try.f88 86 (.code r88f :: tail88) (Env.get [(0, ptr p), (5, ptr r), (7, ptr b7)]) g Q := by
  unfold r88f tail88
  obtain ⟨d1, d2, d3, d4, d5, d6⟩ := hd1
  have d1' := Ne.symm d1
  have d2' := Ne.symm d2
  have d3' := Ne.symm d3
  have d4' := Ne.symm d4
  have d5' := Ne.symm d5
  have d6' := Ne.symm d6
  have l4 := putText_len (b := data) (by omega)
  have e5 : rdT (some (putText data ++ [])) (UInt64.ofNat 1048576) = (data, some []) := rdT_put (by
    have : (UInt64.ofNat 1048576).toNat = 1048576 := by decide
    omega) []
  have c5 := rT_of (m := 1048576) (by decide) e5 (by simp only [dat, Option.getD_some, List.length_append, List.length_nil]; omega) r g hr
  have c6 : ∀ g, g r = some (.box (rdr (some []))) → ACalls Try.prog 75 [ptr r] g (fun x h' => x = i64 0 ∧ h' = g) := fun g hg => rEnd_spec (some []) (by simp [dat]) r g hg
  have c7 : ∀ g, g q = some (.box L.cells) → ACalls Try.prog 14 [ptr q, .sl 4 [[enc ix, enc t, i64 kind, bysC data .ro]] .full] g (fun x h' => x = i64 (L.append [⟨ix, t, kind, data⟩]).2 ∧ h' = g.set q (.box (L.append [⟨ix, t, kind, data⟩]).1.cells)) := fun g hg =>
    ACalls.args (append_spec L [⟨ix, t, kind, data⟩] (by simp; omega) hs (by omega) (by simp) q g hg) (.cons (.refl _) (.cons (.toRo 4 [[enc ix, enc t, i64 kind, bysC data .ro]] .full) .nil))
  repeat' (first | refine S.nilK ?_ | (refine S.op rfl ?_; first | refine callS rfl rfl c5 ?_ | refine callS rfl rfl (c6 _ (by (repeat' (first | assumption | exact AHeap.set_same _ _ _ | refine AHeap.so ?_ ?_)); first | done | fail)) ?_ | refine callS rfl rfl (c7 _ (by (repeat' (first | assumption | refine AHeap.so ?_ ?_)); first | done | fail)) ?_ | refine R.mv rfl ?_ | refine R.fieldAddr rfl ?_ | refine R.nilCheck rfl ?_ | refine R.load (by decide) rfl (by (repeat' (first | assumption | exact AHeap.set_same _ _ _ | refine AHeap.so ?_ ?_)); first | done | fail) rfl ?_ | refine R.buildSl rfl rfl rfl (by decide) ?_ | ((first | refine S.eqInt rfl rfl ?_ ?_) <;> intro hlt <;> try (exfalso; omega))) | (refine S.op0 rfl ?_; first | refine S.store rfl rfl (by (repeat' (first | assumption | refine AHeap.so ?_ ?_)); first | done | fail) rfl rfl rfl (by rfl) rfl ?_) | refine S.seq ?_ | refine S.region ?_ | refine S.condT rfl ?_)
  apply S.ret rr88
  case hx => repeat (first | exact ResAt.nil | apply ResAt.tmp rfl)
  refine hQ _ (AHeap.set_same _ _ _) (fun x h1 h2 h3 => ?_)
  simp only [AHeap.set, h1, h2, h3, if_false]
theorem one_entry_e (ix t : UInt64) (kind : Int) (hk : -9223372036854775808 ≤ kind ∧ kind ≤ 9223372036854775807) (data : List UInt8) (hd : data.length ≤ 100000) (L : Log) (hl : L.l.length ≤ 1000000) (hs : L.s.index.toNat ≤ 9223372036854775807) (p q r : Nat) (hd1 : p ≠ q ∧ r ≠ p ∧ r ≠ q) (u0 v0 : UInt64) (g : AHeap) (hp : g p = some (.box [enc u0, enc v0, ptr q])) (hq : g q = some (.box L.cells)) (R1 : List UInt8) (hR1 : R1 = putN (UInt64.ofNat (zig kind)).toNat ++ (putText data ++ [])) (hr : g r = some (.box (rdr (some (putNs [ix, t] ++ R1))))) (Q : AV → AHeap → Prop)
    (hQ : ∀ g', g' q = some (.box (L.append [⟨ix, t, kind, data⟩]).1.cells) → (∀ x o, x ≠ q → x ≠ r → g x = some o → g' x = some o) → Q (i64 (L.append [⟨ix, t, kind, data⟩]).2) g') :
    RRun Try.prog Try.f88 86 (.code r88e :: tail88) (Env.get [(0, ptr p), (5, ptr r)]) g Q := by
  unfold r88e tail88
  obtain ⟨d1, d2, d3⟩ := hd1
  have d1' := Ne.symm d1
  have d2' := Ne.symm d2
  have d3' := Ne.symm d3
  have hf : full64.toNat = 18446744073709551615 := by decide
  have hix := UInt64.toNat_lt ix
  have ht := UInt64.toNat_lt t
  have hzk := UInt64.toNat_lt (UInt64.ofNat (zig kind))
  have l4 := putText_len (b := data) (by omega)
  have l5 := putN_len hzk
  have l2 := putNs_len [ix, t]
  have l3 := putNs_len [t]
  have hR1l : R1.length ≤ 200000 := by rw [hR1]; simp only [List.length_append, List.length_nil]; omega
  have e2 : rdN (some (putNs [ix, t] ++ R1)) full64 = (ix, some (putNs [t] ++ R1)) := rdN_puts (by omega) R1
  have e3 : rdN (some (putNs [t] ++ R1)) full64 = (t, some R1) := by
    have := rdN_puts (x := t) (l := []) (most := full64) (by omega) R1
    simpa [putNs] using this
  have e4 : rdN (some R1) full64 = (UInt64.ofNat (zig kind), some (putText data ++ [])) := by
    rw [hR1]
    have := rdN_put (n := (UInt64.ofNat (zig kind)).toNat) (most := full64) (by omega) (putText data ++ [])
    rw [this, UInt64.ofNat_toNat]
  have c2 := rN_of e2 (by simp only [dat, Option.getD_some, List.length_append, List.length_cons, List.length_nil] at l2 ⊢; omega) r g hr
  have c3 := fun g hg => rN_of e3 (by simp only [dat, Option.getD_some, List.length_append, List.length_cons, List.length_nil] at l3 ⊢; omega) r g hg
  have c4 : ∀ g, g r = some (.box (rdr (some R1))) → ACalls Try.prog 99 [ptr r] g (fun x h' => x = i64 kind ∧ h' = g.set r (.box (rdr (some (putText data ++ []))))) := fun g hg => by
    have := rI_spec (some R1) (by simp only [dat, Option.getD_some]; omega) r g hg
    rw [e4, zag_zig hk] at this; exact this
  have last := fun b7 hb7 => one_entry_f ix t kind data hd L hl hs p q r b7 ⟨d1, d2, d3, hb7⟩ u0 v0
  repeat' (first | ((show RRunG _ _ _ (.code r88f :: _) _ _ _; refine S.keep [0, 5, 7] rfl (last b ⟨(by first | exact AHeap.n8 ‹_› ‹_›), (by first | exact AHeap.n8 ‹_› ‹_›), (by first | exact AHeap.n1 ‹_›)⟩ _ (by (repeat' (first | assumption | refine AHeap.get_fresh ‹_› ?_ | refine AHeap.so ?_ ?_ | exact AHeap.n7 ‹_› ‹_›)); first | done | fail) (by (repeat' (first | assumption | refine AHeap.get_fresh ‹_› ?_ | refine AHeap.so ?_ ?_ | exact AHeap.n7 ‹_› ‹_›)); first | done | fail) (by (repeat' (first | exact AHeap.set_same _ _ _ | refine AHeap.so ?_ ?_ | exact AHeap.n2 ‹_›)); first | done | fail) (by (repeat' (first | exact AHeap.set_same _ _ _)); first | done | fail) _ (fun g' q1 q2 => hQ g' q1 (fun x o h1 h2 e => ?_))))) | refine S.nilK ?_ | (refine S.op rfl ?_; first | refine callS rfl rfl c2 ?_ | refine callS rfl rfl (c3 _ (by (repeat' (first | exact AHeap.set_same _ _ _ | refine AHeap.get_fresh ‹_› ?_)); first | done | fail)) ?_ | refine callS rfl rfl (c4 _ (by (repeat' (first | exact AHeap.set_same _ _ _ | refine AHeap.so ?_ ?_ | exact AHeap.n2 ‹_›)); first | done | fail)) ?_ | refine R.mv rfl ?_ | refine R.fieldAddr rfl ?_ | refine R.alloc rfl (fun b hb => ?_) | refine R.build rfl rfl ?_) | (refine S.op0 rfl ?_; first | refine S.storeS rfl rfl rfl (by rfl) rfl (by first | decide | exact Nat.le_refl _ | exact Nat.le_of_ble_eq_true rfl) ?_ | refine S.store rfl rfl (by (repeat' (first | exact AHeap.set_same _ _ _ | refine AHeap.so ?_ ?_ | exact AHeap.n1 ‹_›)); first | done | fail) rfl rfl rfl (by rfl) rfl ?_) | refine S.seq ?_ | refine S.region ?_)
  have hxb : x ≠ b := fun e' => by subst e'; rw [AHeap.set_other _ _ h2, e] at hb; cases hb
  rw [q2 x h1 h2 hxb]
  simp only [AHeap.set, h2, hxb, if_false]
  exact e
theorem one_entry (en : Entry) (hk : -9223372036854775808 ≤ en.kind ∧ en.kind ≤ 9223372036854775807) (hd : en.data.length ≤ 100000) (L : Log) (hl : L.l.length ≤ 1000000) (hs : L.s.index.toNat ≤ 9223372036854775807) (a0 b0 : UInt64) (p q : Nat) (hpq : p ≠ q) (h : AHeap) (hp : h p = some (.box [enc a0, enc b0, ptr q])) (hq : h q = some (.box L.cells)) :
    ACalls Try.prog 88 [ptr p, bysC (putE en) .ro] h (fun x h' => x = i64 (L.append [en]).2 ∧ h' = h.set q (.box (L.append [en]).1.cells)) := by
  obtain ⟨c, hc1, hc2⟩ := res88
  refine ACalls.weak (ACalls.enter Try.func88 hc1 Try.ntmps88 hc2 (Nat.le_of_ble_eq_true rfl) rfl ?_)
  obtain ⟨ix, t, kind, data⟩ := en
  simp only at hk hd
  have hzk := UInt64.toNat_lt (UInt64.ofNat (zig kind))
  have l4 := putText_len (b := data) (by omega)
  have l5 := putN_len hzk
  have l1 := putNs_len [2, ix, t]
  obtain ⟨R1, hR1⟩ : ∃ R1, R1 = putN (UInt64.ofNat (zig kind)).toNat ++ (putText data ++ []) := ⟨_, rfl⟩
  have e0 : putE ⟨ix, t, kind, data⟩ = putNs [2, ix, t] ++ R1 := by rw [hR1]; simp [putE, putNs]
  have hR1l : R1.length ≤ 200000 := by rw [hR1]; simp only [List.length_append, List.length_nil]; omega
  have e1 : rdN (some (putNs [2, ix, t] ++ R1)) 3 = (2, some (putNs [ix, t] ++ R1)) := rdN_puts (by decide) R1
  rw [e0]
  repeat' (first | refine S.nilK ?_ | (refine S.op rfl ?_; first | refine R.mv rfl ?_) | refine S.seq ?_ | refine S.region ?_)
  refine S.op rfl (R.call rfl rfl ((read_spec (putNs [2, ix, t] ++ R1) (by simp only [List.length_append, List.length_cons, List.length_nil] at l1 ⊢; omega) h).mono ?_))
  rintro x h1 ⟨r, hr, rfl, rfl⟩
  have hrp : r ≠ p := fun e => by rw [e, hp] at hr; cases hr
  have hpr := Ne.symm hrp
  have hrq : r ≠ q := fun e => by rw [e, hq] at hr; cases hr
  have hqr := Ne.symm hrq
  have c1 := fun g hg => rN_of e1 (by simp only [dat, Option.getD_some, List.length_append, List.length_cons, List.length_nil] at l1 ⊢; omega) r g hg
  have hz1 : (2 : UInt64).toNat = 2 := rfl
  have next := fun g hp hq hr => one_entry_e ix t kind hk data hd L hl hs p q r ⟨hpq, hrp, hrq⟩ a0 b0 g hp hq R1 hR1 hr
  repeat' (first | ((show RRunG _ _ _ (.code r88e :: _) _ _ _; refine S.keep [0, 5] rfl (next _ (by (repeat' (first | assumption | refine AHeap.get_fresh ‹_› ?_)); first | done | fail) (by (repeat' (first | assumption | refine AHeap.get_fresh ‹_› ?_)); first | done | fail) (by (repeat' (first | exact AHeap.set_same _ _ _)); first | done | fail) _ (fun g' q1 q2 => ⟨_, h.set q (.box (L.append [⟨ix, t, kind, data⟩]).1.cells), .refl _, fun x o e => ?_, rfl, rfl⟩)))) | (rw [AHeap.set_set]) | refine S.nilK ?_ | (refine S.op rfl ?_; first | refine callS rfl rfl (c1 _ (by (repeat' (first | exact AHeap.set_same _ _ _)); first | done | fail)) ?_ | refine R.mv rfl ?_ | ((first | refine S.eqInt rfl rfl ?_ ?_) <;> intro hlt <;> try (exfalso; omega))) | refine S.seq ?_ | refine S.region ?_ | refine S.condT rfl ?_ | refine S.condF rfl ?_ | refine RRun.block ?_)
  by_cases hx : x = q
  · subst hx
    rw [AHeap.set_same] at e
    cases e
    exact ⟨_, q1, .refl _⟩
  · rw [AHeap.set_other _ _ hx] at e
    have hxr : x ≠ r := fun e' => by subst e'; rw [hr] at e; cases e
    exact ⟨o, q2 x o hx hxr ((AHeap.set_other _ _ hxr).trans e), .refl o⟩
end Go.Proofs.Ytnmgamcmjjngcaa

namespace Go.Proofs.Ytnmgamcmjjngcaa
open Go.Av
def r88u : RCode :=
  (.seq (.region [
        ⟨(some 63), none, .act, .mv (.tmp 5)⟩,
        ⟨(some 64), none, .act, .call 100 [(.tmp 63), (.const (.int .i64 1048576))]⟩,
        ⟨(some 65), none, .act, .call 37 [(.tmp 64)]⟩,
        ⟨(some 62), none, .act, .mv (.tmp 65)⟩,
        ⟨(some 66), none, .act, .extract (.tmp 62) 0⟩,
        ⟨(some 67), none, .act, .extract (.tmp 62) 1⟩,
        ⟨(some 9), none, .act, .mv (.tmp 66)⟩,
        ⟨(some 10), none, .act, .mv (.tmp 67)⟩])
      (.seq (.region [
        ⟨(some 68), none, .act, .mv (.tmp 9)⟩,
        ⟨(some 69), none, .act, .mv (.tmp 5)⟩,
        ⟨(some 70), none, .act, .call 100 [(.tmp 69), (.const (.int .i64 1048576))]⟩,
        ⟨(some 71), none, .act, .fieldAddr 2 (.tmp 8)⟩,
        ⟨none, none, .act, .store 1 (.tmp 71) (.tmp 68)⟩,
        ⟨(some 72), none, .act, .fieldAddr 3 (.tmp 8)⟩,
        ⟨none, none, .act, .store 1 (.tmp 72) (.tmp 70)⟩])
      (.seq (.region [
        ⟨(some 73), none, .act, .mv (.tmp 5)⟩,
        ⟨(some 74), none, .act, .call 75 [(.tmp 73)]⟩,
        ⟨(some 75), none, .act, .eq false .int (.tmp 74) (.const (.int .i64 0))⟩,
        ⟨(some 76), none, .act, .mv (.tmp 75)⟩,
        ⟨(some 77), (some (76, true)), .act, .mv (.tmp 10)⟩,
        ⟨(some 78), (some (76, true)), .act, .eq false .int (.tmp 77) (.const (.int .i64 0))⟩,
        ⟨(some 79), none, .act, .pick (.tmp 76) (.tmp 78) (.const (.bool false))⟩])
      (.cond (.tmp 79)
       (.seq (.region [
         ⟨(some 80), none, .pure, .mv (.tmp 0)⟩,
         ⟨(some 81), none, .pure, .nilCheck (.tmp 80)⟩,
         ⟨(some 82), none, .pure, .fieldAddr 2 (.tmp 81)⟩,
         ⟨(some 83), none, .read, .load false 1 (.tmp 82)⟩,
         ⟨(some 84), none, .read, .load true 4 (.tmp 8)⟩,
         ⟨(some 85), none, .act, .call 101 [(.tmp 83), (.tmp 84)]⟩])
       (.seq (.region [
         ⟨(some 4), none, .act, .mv (.const (.int .i64 0))⟩])
       .ret))
       .skip))))
def r88s : RCode :=
  (.seq (.region [
        ⟨(some 56), none, .act, .mv (.tmp 5)⟩,
        ⟨(some 57), none, .act, .call 74 [(.tmp 56), (.const (.int .u64 18446744073709551615))]⟩,
        ⟨(some 58), none, .act, .build [(.int .u64 0), (.int .u64 0), (.slice none 0 0), (.slice none 0 0)] [(0, 1, (.tmp 57))]⟩,
        ⟨(some 8), none, .act, .alloc [(.int .u64 0), (.int .u64 0), (.slice none 0 0), (.slice none 0 0)]⟩,
        ⟨none, none, .act, .store 4 (.tmp 8) (.tmp 58)⟩])
      (.seq (.region [
        ⟨(some 59), none, .act, .mv (.tmp 5)⟩,
        ⟨(some 60), none, .act, .call 74 [(.tmp 59), (.const (.int .u64 18446744073709551615))]⟩,
        ⟨(some 61), none, .act, .fieldAddr 1 (.tmp 8)⟩,
        ⟨none, none, .act, .store 1 (.tmp 61) (.tmp 60)⟩])
      (.seq (.region [
        ⟨(some 63), none, .act, .mv (.tmp 5)⟩,
        ⟨(some 64), none, .act, .call 100 [(.tmp 63), (.const (.int .i64 1048576))]⟩,
        ⟨(some 65), none, .act, .call 37 [(.tmp 64)]⟩,
        ⟨(some 62), none, .act, .mv (.tmp 65)⟩,
        ⟨(some 66), none, .act, .extract (.tmp 62) 0⟩,
        ⟨(some 67), none, .act, .extract (.tmp 62) 1⟩,
        ⟨(some 9), none, .act, .mv (.tmp 66)⟩,
        ⟨(some 10), none, .act, .mv (.tmp 67)⟩])
      (.seq (.region [
        ⟨(some 68), none, .act, .mv (.tmp 9)⟩,
        ⟨(some 69), none, .act, .mv (.tmp 5)⟩,
        ⟨(some 70), none, .act, .call 100 [(.tmp 69), (.const (.int .i64 1048576))]⟩,
        ⟨(some 71), none, .act, .fieldAddr 2 (.tmp 8)⟩,
        ⟨none, none, .act, .store 1 (.tmp 71) (.tmp 68)⟩,
        ⟨(some 72), none, .act, .fieldAddr 3 (.tmp 8)⟩,
        ⟨none, none, .act, .store 1 (.tmp 72) (.tmp 70)⟩])
      (.seq (.region [
        ⟨(some 73), none, .act, .mv (.tmp 5)⟩,
        ⟨(some 74), none, .act, .call 75 [(.tmp 73)]⟩,
        ⟨(some 75), none, .act, .eq false .int (.tmp 74) (.const (.int .i64 0))⟩,
        ⟨(some 76), none, .act, .mv (.tmp 75)⟩,
        ⟨(some 77), (some (76, true)), .act, .mv (.tmp 10)⟩,
        ⟨(some 78), (some (76, true)), .act, .eq false .int (.tmp 77) (.const (.int .i64 0))⟩,
        ⟨(some 79), none, .act, .pick (.tmp 76) (.tmp 78) (.const (.bool false))⟩])
      (.cond (.tmp 79)
       (.seq (.region [
         ⟨(some 80), none, .pure, .mv (.tmp 0)⟩,
         ⟨(some 81), none, .pure, .nilCheck (.tmp 80)⟩,
         ⟨(some 82), none, .pure, .fieldAddr 2 (.tmp 81)⟩,
         ⟨(some 83), none, .read, .load false 1 (.tmp 82)⟩,
         ⟨(some 84), none, .read, .load true 4 (.tmp 8)⟩,
         ⟨(some 85), none, .act, .call 101 [(.tmp 83), (.tmp 84)]⟩])
       (.seq (.region [
         ⟨(some 4), none, .act, .mv (.const (.int .i64 0))⟩])
       .ret))
       .skip))))))
theorem one_snap_u (ix t : UInt64) (ms M : List UInt64) (hM : ofM (putM ms) = some M) (data : List UInt8) (hd : data.length ≤ 100000) (z : Snap) (hz : z.index = 0) (f : Bool) (p q r b8 : Nat) (hd1 : p ≠ q ∧ r ≠ p ∧ r ≠ q ∧ b8 ≠ p ∧ b8 ≠ q ∧ b8 ≠ r) (u0 v0 : UInt64) (g : AHeap) (hp : g p = some (.box [enc u0, enc v0, ptr q])) (hq : g q = some (.box (Log.cells ⟨z, [], 0, f⟩))) (hr : g r = some (.box (rdr (some (putText (putM ms) ++ (putText data ++ [])))))) (h8 : g b8 = some (.box [enc ix, enc t, .v (.slice none 0 0), .v (.slice none 0 0)])) (Q : AV → AHeap → Prop)
    (hQ : ∀ g', g' q = some (.box (Log.cells ⟨(⟨ix, t, M, data⟩ : Snap).copied, [], 0, true⟩)) → (∀ x, x ≠ q → x ≠ r → x ≠ b8 → g' x = g x) → Q (i64 0) g') :
    RRun Try.prog Try.f88 86 (.code r88u :: tail88) (Env.get [(0, ptr p), (5, ptr r), (8, ptr b8)]) g Q := by
  unfold r88u tail88
  obtain ⟨d1, d2, d3, d4, d5, d6⟩ := hd1
  have d1' := Ne.symm d1
  have d2' := Ne.symm d2
  have d3' := Ne.symm d3
  have d4' := Ne.symm d4
  have d5' := Ne.symm d5
  have d6' := Ne.symm d6
  have hMl := ofM_len _ _ hM
  have l3 := putM_len (l := ms)
  have l4 := putText_len (b := data) (by omega)
  have l5 := putText_len (b := putM ms) (by omega)
  have hmost : (UInt64.ofNat 1048576).toNat = 1048576 := by decide
  have e1 : rdT (some (putText (putM ms) ++ (putText data ++ []))) (UInt64.ofNat 1048576) = (putM ms, some (putText data ++ [])) := rdT_put (by omega) _
  have e2 : rdT (some (putText data ++ [])) (UInt64.ofNat 1048576) = (data, some []) := rdT_put (by omega) []
  have c1 := rT_of (m := 1048576) (by decide) e1 (by simp only [dat, Option.getD_some, List.length_append, List.length_nil]; omega) r g hr
  have c2 := fun g hg => rT_of (m := 1048576) (by decide) e2 (by simp only [dat, Option.getD_some, List.length_append, List.length_nil]; omega) r g hg
  have c3 : ∀ g, ACalls Try.prog 37 [bysC (putM ms) .ro] g (fun x h' => x = .tu [u64s M, i64 0] ∧ h' = g) := fun g => by
    have := of_spec (putM ms) (by omega) g
    rw [hM] at this; exact this
  have c6 : ∀ g, g r = some (.box (rdr (some []))) → ACalls Try.prog 75 [ptr r] g (fun x h' => x = i64 0 ∧ h' = g) := fun g hg => rEnd_spec (some []) (by simp [dat]) r g hg
  have c7 : ∀ g, g q = some (.box (Log.cells ⟨z, [], 0, f⟩)) → ACalls Try.prog 101 [ptr q, .ag [enc ix, enc t, u64s M, bysC data .ro]] g (fun _ h' => h' = g.set q (.box (Log.cells ⟨(⟨ix, t, M, data⟩ : Snap).copied, [], 0, true⟩))) := fun g hg =>
    install_zero z hz f ⟨ix, t, M, data⟩ (by simp only; omega) (by simp only; omega) q g hg
  repeat' (first | refine S.nilK ?_ | (refine S.op rfl ?_; first | refine callS rfl rfl c1 ?_ | refine callS rfl rfl (c3 _) ?_ | refine callS rfl rfl (c2 _ (by (repeat' (first | exact AHeap.set_same _ _ _)); first | done | fail)) ?_ | refine callS rfl rfl (c6 _ (by (repeat' (first | assumption | exact AHeap.set_same _ _ _ | refine AHeap.so ?_ ?_)); first | done | fail)) ?_ | refine callU rfl rfl (c7 _ (by (repeat' (first | assumption | refine AHeap.so ?_ ?_)); first | done | fail)) (fun _ => ?_) | refine R.mv rfl ?_ | refine R.fieldAddr rfl ?_ | refine R.nilCheck rfl ?_ | refine R.load (by decide) rfl (by (repeat' (first | assumption | exact AHeap.set_same _ _ _ | refine AHeap.so ?_ ?_)); first | done | fail) rfl ?_ | refine R.pickT rfl rfl ?_ | refine R.extract rfl rfl ?_ | ((first | refine S.eqInt rfl rfl ?_ ?_) <;> intro hlt <;> try (exfalso; omega))) | (refine S.op0 rfl ?_; first | refine S.storeS rfl rfl rfl (by rfl) rfl (by first | decide | exact Nat.le_refl _ | exact Nat.le_of_ble_eq_true rfl) ?_ | refine S.store rfl rfl (by (repeat' (first | assumption | refine AHeap.so ?_ ?_)); first | done | fail) rfl rfl rfl (by rfl) rfl ?_) | refine S.seq ?_ | refine S.region ?_ | refine S.condT rfl ?_)
  apply S.ret rr88
  case hx => repeat (first | exact ResAt.nil | apply ResAt.tmp rfl)
  refine hQ _ (AHeap.set_same _ _ _) (fun x h1 h2 h3 => ?_)
  simp only [AHeap.set, h1, h2, h3, if_false]
theorem one_snap_s (ix t : UInt64) (ms M : List UInt64) (hM : ofM (putM ms) = some M) (data : List UInt8) (hd : data.length ≤ 100000) (z : Snap) (hz : z.index = 0) (f : Bool) (p q r : Nat) (hd1 : p ≠ q ∧ r ≠ p ∧ r ≠ q) (u0 v0 : UInt64) (g : AHeap) (hp : g p = some (.box [enc u0, enc v0, ptr q])) (hq : g q = some (.box (Log.cells ⟨z, [], 0, f⟩))) (R1 : List UInt8) (hR1 : R1 = putText (putM ms) ++ (putText data ++ [])) (hr : g r = some (.box (rdr (some (putNs [ix, t] ++ R1))))) (Q : AV → AHeap → Prop)
    (hQ : ∀ g', g' q = some (.box (Log.cells ⟨(⟨ix, t, M, data⟩ : Snap).copied, [], 0, true⟩)) → (∀ x o, x ≠ q → x ≠ r → g x = some o → g' x = some o) → Q (i64 0) g') :
    RRun Try.prog Try.f88 86 (.code r88s :: tail88) (Env.get [(0, ptr p), (5, ptr r)]) g Q := by
  unfold r88s tail88
  obtain ⟨d1, d2, d3⟩ := hd1
  have d1' := Ne.symm d1
  have d2' := Ne.symm d2
  have d3' := Ne.symm d3
  have hf : full64.toNat = 18446744073709551615 := by decide
  have hix := UInt64.toNat_lt ix
  have ht := UInt64.toNat_lt t
  have l3 := putM_len (l := ms)
  have l4 := putText_len (b := data) (by omega)
  have l5 := putText_len (b := putM ms) (by omega)
  have l2 := putNs_len [ix, t]
  have l1 := putNs_len [t]
  have hR1l : R1.length ≤ 200000 := by rw [hR1]; simp only [List.length_append, List.length_nil]; omega
  have e2 : rdN (some (putNs [ix, t] ++ R1)) full64 = (ix, some (putNs [t] ++ R1)) := rdN_puts (by omega) R1
  have e3 : rdN (some (putNs [t] ++ R1)) full64 = (t, some R1) := by
    have := rdN_puts (x := t) (l := []) (most := full64) (by omega) R1
    simpa [putNs] using this
  have c2 := rN_of e2 (by simp only [dat, Option.getD_some, List.length_append, List.length_cons, List.length_nil] at l2 ⊢; omega) r g hr
  have c3 := fun g hg => rN_of e3 (by simp only [dat, Option.getD_some, List.length_append, List.length_cons, List.length_nil] at l1 ⊢; omega) r g hg
  subst hR1
  have last := fun b8 hb8 => one_snap_u ix t ms M hM data hd z hz f p q r b8 ⟨d1, d2, d3, hb8⟩ u0 v0
  repeat' (first | ((show RRunG _ _ _ (.code r88u :: _) _ _ _; refine S.keep [0, 5, 8] rfl (last b ⟨(by first | exact AHeap.n8 ‹_› ‹_›), (by first | exact AHeap.n8 ‹_› ‹_›), (by first | exact AHeap.n1 ‹_›)⟩ _ (by (repeat' (first | assumption | refine AHeap.get_fresh ‹_› ?_ | refine AHeap.so ?_ ?_ | exact AHeap.n7 ‹_› ‹_›)); first | done | fail) (by (repeat' (first | assumption | refine AHeap.get_fresh ‹_› ?_ | refine AHeap.so ?_ ?_ | exact AHeap.n7 ‹_› ‹_›)); first | done | fail) (by (repeat' (first | exact AHeap.set_same _ _ _ | refine AHeap.so ?_ ?_ | exact AHeap.n2 ‹_›)); first | done | fail) (by (repeat' (first | exact AHeap.set_same _ _ _)); first | done | fail) _ (fun g' q1 q2 => hQ g' q1 (fun x o h1 h2 e => ?_))))) | refine S.nilK ?_ | (refine S.op rfl ?_; first | refine callS rfl rfl c2 ?_ | refine callS rfl rfl (c3 _ (by (repeat' (first | exact AHeap.set_same _ _ _ | refine AHeap.get_fresh ‹_› ?_)); first | done | fail)) ?_ | refine R.mv rfl ?_ | refine R.fieldAddr rfl ?_ | refine R.alloc rfl (fun b hb => ?_) | refine R.build rfl rfl ?_) | (refine S.op0 rfl ?_; first | refine S.storeS rfl rfl rfl (by rfl) rfl (by first | decide | exact Nat.le_refl _ | exact Nat.le_of_ble_eq_true rfl) ?_ | refine S.store rfl rfl (by (repeat' (first | exact AHeap.set_same _ _ _ | refine AHeap.so ?_ ?_ | exact AHeap.n1 ‹_›)); first | done | fail) rfl rfl rfl (by rfl) rfl ?_) | refine S.seq ?_ | refine S.region ?_)
  have hxb : x ≠ b := fun e' => by subst e'; rw [AHeap.set_other _ _ h2, e] at hb; cases hb
  rw [q2 x h1 h2 hxb]
  simp only [AHeap.set, h2, hxb, if_false]
  exact e
theorem one_snap (s : Snap) (M : List UInt64) (hM : ofM (putM s.members) = some M) (hd : s.data.length ≤ 100000) (z : Snap) (hz : z.index = 0) (f : Bool) (a0 b0 : UInt64) (p q : Nat) (hpq : p ≠ q) (h : AHeap) (hp : h p = some (.box [enc a0, enc b0, ptr q])) (hq : h q = some (.box (Log.cells ⟨z, [], 0, f⟩))) :
    ACalls Try.prog 88 [ptr p, bysC (putS s) .ro] h (fun x h' => x = i64 0 ∧ h' = h.set q (.box (Log.cells ⟨(⟨s.index, s.term, M, s.data⟩ : Snap).copied, [], 0, true⟩))) := by
  obtain ⟨c, hc1, hc2⟩ := res88
  refine ACalls.weak (ACalls.enter Try.func88 hc1 Try.ntmps88 hc2 (Nat.le_of_ble_eq_true rfl) rfl ?_)
  obtain ⟨ix, t, ms, data⟩ := s
  simp only at hM hd
  have l3 := putM_len (l := ms)
  have l4 := putText_len (b := data) (by omega)
  have l5 := putText_len (b := putM ms) (by omega)
  have l1 := putNs_len [3, ix, t]
  obtain ⟨R1, hR1⟩ : ∃ R1, R1 = putText (putM ms) ++ (putText data ++ []) := ⟨_, rfl⟩
  have e0 : putS ⟨ix, t, ms, data⟩ = putNs [3, ix, t] ++ R1 := by rw [hR1]; simp [putS, putNs]
  have hR1l : R1.length ≤ 200000 := by rw [hR1]; simp only [List.length_append, List.length_nil]; omega
  have e1 : rdN (some (putNs [3, ix, t] ++ R1)) 3 = (3, some (putNs [ix, t] ++ R1)) := rdN_puts (by decide) R1
  rw [e0]
  repeat' (first | refine S.nilK ?_ | (refine S.op rfl ?_; first | refine R.mv rfl ?_) | refine S.seq ?_ | refine S.region ?_)
  refine S.op rfl (R.call rfl rfl ((read_spec (putNs [3, ix, t] ++ R1) (by simp only [List.length_append, List.length_cons, List.length_nil] at l1 ⊢; omega) h).mono ?_))
  rintro x h1 ⟨r, hr, rfl, rfl⟩
  have hrp : r ≠ p := fun e => by rw [e, hp] at hr; cases hr
  have hpr := Ne.symm hrp
  have hrq : r ≠ q := fun e => by rw [e, hq] at hr; cases hr
  have hqr := Ne.symm hrq
  have c1 := fun g hg => rN_of e1 (by simp only [dat, Option.getD_some, List.length_append, List.length_cons, List.length_nil] at l1 ⊢; omega) r g hg
  have hz1 : (3 : UInt64).toNat = 3 := rfl
  have next := fun g hp hq hr => one_snap_s ix t ms M hM data hd z hz f p q r ⟨hpq, hrp, hrq⟩ a0 b0 g hp hq R1 hR1 hr
  repeat' (first | ((show RRunG _ _ _ (.code r88s :: _) _ _ _; refine S.keep [0, 5] rfl (next _ (by (repeat' (first | assumption | refine AHeap.get_fresh ‹_› ?_)); first | done | fail) (by (repeat' (first | assumption | refine AHeap.get_fresh ‹_› ?_)); first | done | fail) (by (repeat' (first | exact AHeap.set_same _ _ _)); first | done | fail) _ (fun g' q1 q2 => ⟨_, h.set q (.box (Log.cells ⟨(⟨ix, t, M, data⟩ : Snap).copied, [], 0, true⟩)), .refl _, fun x o e => ?_, rfl, rfl⟩)))) | (rw [AHeap.set_set]) | refine S.nilK ?_ | (refine S.op rfl ?_; first | refine callS rfl rfl (c1 _ (by (repeat' (first | exact AHeap.set_same _ _ _)); first | done | fail)) ?_ | refine R.mv rfl ?_ | ((first | refine S.eqInt rfl rfl ?_ ?_) <;> intro hlt <;> try (exfalso; omega))) | refine S.seq ?_ | refine S.region ?_ | refine S.condT rfl ?_ | refine S.condF rfl ?_ | refine RRun.block ?_)
  by_cases hx : x = q
  · subst hx
    rw [AHeap.set_same] at e
    cases e
    exact ⟨_, q1, .refl _⟩
  · rw [AHeap.set_other _ _ hx] at e
    have hxr : x ≠ r := fun e' => by subst e'; rw [hr] at e; cases e
    exact ⟨o, q2 x o hx hxr ((AHeap.set_other _ _ hxr).trans e), .refl o⟩
end Go.Proofs.Ytnmgamcmjjngcaa

namespace Go.Proofs.Ytnmgamcmjjngcaa
open Go.Av
abbrev Rise (l : List UInt64) : Prop := l.Pairwise (· < ·)
theorem rise_ext : ∀ (a b : List UInt64), Rise a → Rise b → (∀ x, x ∈ a ↔ x ∈ b) → a = b
  | [], [], _, _, _ => rfl
  | [], y :: b, _, _, h => absurd ((h y).2 (by simp)) (by simp)
  | x :: a, [], _, _, h => absurd ((h x).1 (by simp)) (by simp)
  | x :: a, y :: b, ha, hb, h => by
    have ha' := List.pairwise_cons.1 ha
    have hb' := List.pairwise_cons.1 hb
    have hxy : x = y := by
      rcases List.mem_cons.1 ((h x).1 (by simp)) with e | e
      · exact e
      · rcases List.mem_cons.1 ((h y).2 (by simp)) with e' | e'
        · exact e'.symm
        · have h1 := hb'.1 x e
          have h2 := ha'.1 y e'
          rw [UInt64.lt_iff_toNat_lt] at h1 h2
          omega
    subst hxy
    congr 1
    refine rise_ext a b ha'.2 hb'.2 fun z => ?_
    have hz := h z
    constructor
    · intro hza
      rcases List.mem_cons.1 (hz.1 (by simp [hza])) with e | e
      · subst e
        have := ha'.1 z hza
        rw [UInt64.lt_iff_toNat_lt] at this; omega
      · exact e
    · intro hzb
      rcases List.mem_cons.1 (hz.2 (by simp [hzb])) with e | e
      · subst e
        have := hb'.1 z hzb
        rw [UInt64.lt_iff_toNat_lt] at this; omega
      · exact e
theorem dd_mem : ∀ (l : List UInt64) (x : UInt64), x ∈ dd l ↔ x ∈ l
  | [], x => Iff.rfl
  | [y], x => Iff.rfl
  | y :: z :: r, x => by
    have ih := dd_mem (z :: r) x
    simp only [dd]
    split
    · rename_i h; subst h
      rw [ih]; simp
    · rw [List.mem_cons, ih]; simp
theorem dd_rise : ∀ (l : List UInt64), l.Pairwise (fun x y => (!ltE y x) = true) → Rise (dd l)
  | [], _ => .nil
  | [y], _ => by simp [dd]
  | y :: z :: r, h => by
    have h' := List.pairwise_cons.1 h
    have ih := dd_rise (z :: r) h'.2
    simp only [dd]
    split
    · exact ih
    · rename_i hne
      refine List.pairwise_cons.2 ⟨fun x hx => ?_, ih⟩
      have hx' := (dd_mem (z :: r) x).1 hx
      have h1 := h'.1 z (by simp)
      have hzx : z = x ∨ (!ltE x z) = true := by
        rcases List.mem_cons.1 hx' with e | e
        · exact .inl e.symm
        · exact .inr ((List.pairwise_cons.1 h'.2).1 x e)
      simp only [ltE, Bool.not_eq_true', decide_eq_false_iff_not, UInt64.lt_iff_toNat_lt] at h1 hzx ⊢
      have hne' : y.toNat ≠ z.toNat := fun e => hne (UInt64.toNat_inj.1 e)
      rcases hzx with e | e
      · subst e; omega
      · omega
theorem srt_sorted (l : List UInt64) : (srt l).Pairwise (fun x y => (!ltE y x) = true) :=
  List.pairwise_mergeSort (fun a b c h1 h2 => by
    simp only [ltE, Bool.not_eq_true', decide_eq_false_iff_not, UInt64.lt_iff_toNat_lt] at *; omega) (fun a b => by
    simp only [ltE, Bool.or_eq_true, Bool.not_eq_true', decide_eq_false_iff_not, UInt64.lt_iff_toNat_lt]; omega) l
theorem rise_ds {l out : List UInt64} (hr : Rise out) (hm : ∀ x, x ∈ out ↔ x ∈ l) : out = dd (srt l) :=
  rise_ext _ _ hr (dd_rise _ (srt_sorted l)) fun x => by rw [hm, dd_mem, (srt_perm l).mem_iff]
theorem rise_put {out : List UInt64} {m : UInt64} {k : Nat} (hr : Rise out) (hk : k ≤ out.length) (h1 : ∀ i y, i < k → out[i]? = some y → y < m) (h2 : ∀ y, out[k]? = some y → ¬ y < m) (h3 : out[k]? ≠ some m) : Rise (out.take k ++ ([m] ++ out.drop k)) := by
  have htd := List.take_append_drop k out
  rw [← htd] at hr
  obtain ⟨r1, r2, r3⟩ := List.pairwise_append.1 hr
  have hlow : ∀ a ∈ out.take k, a < m := fun a ha => by
    obtain ⟨i, hi⟩ := List.getElem?_of_mem ha
    rw [List.getElem?_take] at hi
    split at hi
    · rename_i hik; exact h1 i a hik hi
    · cases hi
  have hhigh : ∀ b ∈ out.drop k, m < b := fun b hb => by
    cases hd : out.drop k with
    | nil => rw [hd] at hb; cases hb
    | cons y r =>
      have hy : out[k]? = some y := by
        have : (out.drop k)[0]? = some y := by rw [hd]; rfl
        simpa using this
      have g1 := h2 y hy
      have g2 : y ≠ m := fun e => h3 (e ▸ hy)
      have g3 : m < y := by
        rw [UInt64.lt_iff_toNat_lt] at g1 ⊢
        have : y.toNat ≠ m.toNat := fun e => g2 (UInt64.toNat_inj.1 e)
        omega
      rw [hd] at hb r2
      rcases List.mem_cons.1 hb with e | e
      · subst e; exact g3
      · have := (List.pairwise_cons.1 r2).1 b e
        rw [UInt64.lt_iff_toNat_lt] at *; omega
  refine List.pairwise_append.2 ⟨r1, List.pairwise_append.2 ⟨by simp, r2, fun a ha b hb => ?_⟩, fun a ha b hb => ?_⟩
  · simp only [List.mem_singleton] at ha; subst ha; exact hhigh b hb
  · rcases List.mem_append.1 hb with hb | hb
    · simp only [List.mem_singleton] at hb; subst hb; exact hlow a ha
    · have g1 := hlow a ha
      have g2 := hhigh b hb
      rw [UInt64.lt_iff_toNat_lt] at *; omega
end Go.Proofs.Ytnmgamcmjjngcaa

namespace Go.Proofs.Ytnmgamcmjjngcaa
open Go.Av
def r46l1 : RCode :=
  (.seq (.seq (.region [
    ⟨(some 16), none, .act, .mv (.tmp 6)⟩,
    ⟨(some 17), none, .act, .mv (.tmp 3)⟩,
    ⟨(some 18), none, .act, .len (.tmp 17)⟩,
    ⟨(some 19), none, .act, .bin .lss (.tmp 16) (.tmp 18)⟩,
    ⟨(some 20), none, .act, .mv (.tmp 19)⟩,
    ⟨(some 21), (some (20, true)), .act, .mv (.tmp 3)⟩,
    ⟨(some 22), (some (20, true)), .act, .mv (.tmp 6)⟩,
    ⟨(some 23), (some (20, true)), .act, .indexAddr 1 (.tmp 21) (.tmp 22)⟩,
    ⟨(some 24), (some (20, true)), .act, .load false 1 (.tmp 23)⟩,
    ⟨(some 25), (some (20, true)), .act, .mv (.tmp 5)⟩,
    ⟨(some 26), (some (20, true)), .act, .bin .lss (.tmp 24) (.tmp 25)⟩,
    ⟨(some 27), none, .act, .pick (.tmp 20) (.tmp 26) (.const (.bool false))⟩])
  (.cond (.tmp 27)
   .skip
   (.exit 2)))
  (.block 3
   (.region [
     ⟨(some 28), none, .act, .mv (.tmp 6)⟩,
     ⟨(some 29), none, .act, .bin .add (.tmp 28) (.const (.int .i64 1))⟩,
     ⟨(some 6), none, .act, .mv (.tmp 29)⟩])))
def r46l0 : RCode :=
  (.seq (.region [
    ⟨(some 13), none, .act, .bin .lss (.tmp 12) (.tmp 11)⟩])
  (.seq (.cond (.tmp 13)
   .skip
   (.exit 0))
  (.seq (.block 1
   (.seq (.region [
     ⟨(some 14), none, .act, .indexAddr 1 (.tmp 10) (.tmp 12)⟩,
     ⟨(some 15), none, .act, .load false 1 (.tmp 14)⟩,
     ⟨(some 5), none, .act, .mv (.tmp 15)⟩])
   (.seq (.region [
     ⟨(some 6), none, .act, .mv (.const (.int .i64 0))⟩])
   (.seq (.block 2
    (.loop r46l1))
   (.seq (.seq (.region [
     ⟨(some 30), none, .act, .mv (.tmp 6)⟩,
     ⟨(some 31), none, .act, .mv (.tmp 3)⟩,
     ⟨(some 32), none, .act, .len (.tmp 31)⟩,
     ⟨(some 33), none, .act, .bin .lss (.tmp 30) (.tmp 32)⟩,
     ⟨(some 34), none, .act, .mv (.tmp 33)⟩,
     ⟨(some 35), (some (34, true)), .act, .mv (.tmp 3)⟩,
     ⟨(some 36), (some (34, true)), .act, .mv (.tmp 6)⟩,
     ⟨(some 37), (some (34, true)), .act, .indexAddr 1 (.tmp 35) (.tmp 36)⟩,
     ⟨(some 38), (some (34, true)), .act, .load false 1 (.tmp 37)⟩,
     ⟨(some 39), (some (34, true)), .act, .mv (.tmp 5)⟩,
     ⟨(some 40), (some (34, true)), .act, .eq false .int (.tmp 38) (.tmp 39)⟩,
     ⟨(some 41), none, .act, .pick (.tmp 34) (.tmp 40) (.const (.bool false))⟩])
   (.cond (.tmp 41)
    (.exit 1)
    .skip))
   (.region [
     ⟨(some 42), none, .pure, .mv (.tmp 3)⟩,
     ⟨(some 43), none, .pure, .mv (.tmp 6)⟩,
     ⟨(some 44), none, .pure, .mv (.tmp 6)⟩,
     ⟨(some 45), none, .pure, .sliceSl 1 (.tmp 42) none (some (.tmp 43)) (some (.tmp 44))⟩,
     ⟨(some 46), none, .pure, .mv (.tmp 5)⟩,
     ⟨(some 47), none, .pure, .buildSl 1 [(.int .u64 0)] 1 [(0, (.tmp 46))]⟩,
     ⟨(some 48), none, .pure, .mv (.tmp 3)⟩,
     ⟨(some 49), none, .pure, .mv (.tmp 6)⟩,
     ⟨(some 50), none, .pure, .sliceSl 1 (.tmp 48) (some (.tmp 49)) none none⟩,
     ⟨(some 51), none, .act, .append 1 8 [(.int .u64 0)] (.tmp 47) (.tmp 50)⟩,
     ⟨(some 52), none, .act, .append 1 8 [(.int .u64 0)] (.tmp 45) (.tmp 51)⟩,
     ⟨(some 3), none, .pure, .mv (.tmp 52)⟩]))))))
  (.region [
    ⟨(some 53), none, .act, .bin .add (.tmp 12) (.const (.int .i64 1))⟩,
    ⟨(some 12), none, .act, .mv (.tmp 53)⟩]))))
def r46l2 : RCode :=
  (.seq (.region [
    ⟨(some 66), none, .act, .bin .lss (.tmp 65) (.tmp 64)⟩])
  (.seq (.cond (.tmp 66)
   .skip
   (.exit 4))
  (.seq (.block 5
   (.seq (.region [
     ⟨(some 67), none, .act, .indexAddr 1 (.tmp 63) (.tmp 65)⟩,
     ⟨(some 68), none, .act, .load false 1 (.tmp 67)⟩,
     ⟨(some 9), none, .act, .mv (.tmp 68)⟩])
   (.region [
     ⟨(some 69), none, .act, .mv (.tmp 7)⟩,
     ⟨(some 70), none, .act, .mv (.tmp 9)⟩,
     ⟨(some 71), none, .act, .call 80 [(.tmp 69), (.tmp 70)]⟩,
     ⟨(some 7), none, .act, .mv (.tmp 71)⟩])))
  (.region [
    ⟨(some 72), none, .act, .bin .add (.tmp 65) (.const (.int .i64 1))⟩,
    ⟨(some 65), none, .act, .mv (.tmp 72)⟩]))))
def r46 : RCode :=
  (.seq (.region [
    ⟨(some 2), none, .act, .mv (.const (.slice none 0 0))⟩])
  (.seq (.region [
    ⟨(some 3), none, .act, .mv (.const (.slice none 0 0))⟩])
  (.seq (.seq (.region [
    ⟨(some 10), none, .act, .mv (.tmp 0)⟩,
    ⟨(some 11), none, .act, .len (.tmp 10)⟩,
    ⟨(some 12), none, .act, .mv (.const (.int .i64 0))⟩])
  (.block 0
   (.loop r46l0)))
  (.seq (.seq (.region [
    ⟨(some 54), none, .act, .mv (.tmp 3)⟩,
    ⟨(some 55), none, .act, .len (.tmp 54)⟩,
    ⟨(some 56), none, .act, .bin .gtr (.tmp 55) (.const (.int .i64 9))⟩])
  (.cond (.tmp 56)
   (.region [
     ⟨(some 57), none, .act, .mv (.tmp 3)⟩,
     ⟨(some 58), none, .act, .sliceSl 1 (.tmp 57) none (some (.const (.int .i64 9))) none⟩,
     ⟨(some 3), none, .act, .mv (.tmp 58)⟩])
   .skip))
  (.seq (.region [
    ⟨(some 59), none, .act, .mv (.tmp 3)⟩,
    ⟨(some 60), none, .act, .len (.tmp 59)⟩,
    ⟨(some 61), none, .act, .convInt .u64 (.tmp 60)⟩,
    ⟨(some 62), none, .act, .call 80 [(.const (.slice none 0 0)), (.tmp 61)]⟩,
    ⟨(some 7), none, .act, .mv (.tmp 62)⟩])
  (.seq (.seq (.region [
    ⟨(some 63), none, .act, .mv (.tmp 3)⟩,
    ⟨(some 64), none, .act, .len (.tmp 63)⟩,
    ⟨(some 65), none, .act, .mv (.const (.int .i64 0))⟩])
  (.block 4
   (.loop r46l2)))
  (.seq (.region [
    ⟨(some 73), none, .act, .mv (.tmp 7)⟩,
    ⟨(some 2), none, .act, .mv (.tmp 73)⟩])
  .ret)))))))
theorem res46 : ∃ c, Try.f46.body = some c ∧ resCode Try.prog 74 c = some r46 := ⟨_, rfl, by kernel_rfl⟩
theorem rr46 : resRes Try.prog Try.f46.results.toList = some [.tmp 2] := by kernel_rfl
theorem rm_inner (out : List UInt64) (ho : out.length ≤ 1000) (m : UInt64) (x10 x11 x12 : AV) (h : AHeap) (k : List RT) (Q : AV → AHeap → Prop)
    (hk : ∀ j, j ≤ out.length → (∀ i y, i < j → out[i]? = some y → y < m) → (∀ y, out[j]? = some y → ¬ y < m) → RRun Try.prog Try.f46 74 k (Env.get [(3, u64s out), (5, enc m), (6, i64 j), (10, x10), (11, x11), (12, x12)]) h Q) : ∀ (n j : Nat), j + n = out.length → (∀ i y, i < j → out[i]? = some y → y < m) →
    RRun Try.prog Try.f46 74 (.inLoop r46l1 :: .inBlock 2 :: k) (Env.get [(3, u64s out), (5, enc m), (6, i64 j), (10, x10), (11, x11), (12, x12)]) h Q := by
  have hla : (out.map fun x => [Go.Av.u64 x]).length = out.length := by simp
  intro n
  induction n with
  | zero =>
    intro j hj hall
    have := hk j (by omega) hall (fun y hy => by rw [List.getElem?_eq_none (by omega)] at hy; cases hy)
    refine RRun.inLoop ?_
    repeat' (first | refine S.nilK ?_ | (refine S.op rfl ?_; first | refine R.mv rfl ?_ | refine R.pickF rfl rfl ?_ | refine R.len rfl ?_ | ((first | refine S.lss rfl rfl ?_ ?_) <;> intro hlt <;> try (exfalso; omega))) | refine S.skip rfl ?_ | refine S.seq ?_ | refine S.region ?_ | refine S.condF rfl ?_ | refine RRun.exit rfl ?_)
    exact S.keep [3, 5, 6, 10, 11, 12] rfl this
  | succ n ih =>
    intro j hj hall
    obtain ⟨y, hy⟩ : ∃ y, out[j]? = some y := ⟨_, List.getElem?_eq_getElem (by omega)⟩
    have hga : (out.map fun x => [enc x])[((j : Nat) : Int).toNat]? = some [enc y] := by simp only [Int.toNat_natCast, List.getElem?_map, hy]; rfl
    by_cases hym : y < m
    · have hlt' := UInt64.lt_iff_toNat_lt.1 hym
      refine RRun.inLoop ?_
      repeat' (first | refine S.nilK ?_ | (refine S.op rfl ?_; first | refine R.indexAddr (cc := .ro) (es := out.map fun x => [enc x]) rfl rfl (by omega) hga ?_ | refine R.mv rfl ?_ | refine R.loadR rfl rfl ?_ | refine S.addI rfl rfl (by omega) ?_ | refine R.pickT rfl rfl ?_ | refine R.len rfl ?_ | ((first | refine S.lss rfl rfl ?_ ?_) <;> intro hlt <;> try (exfalso; omega))) | refine S.seq ?_ | refine S.region ?_ | refine S.condT rfl ?_ | refine RRun.skip ?_ | refine RRun.block ?_ | refine RRun.inBlock ?_)
      rw [show ((j : Int) + 1) = ((j + 1 : Nat) : Int) by omega]
      refine S.keep [3, 5, 6, 10, 11, 12] rfl (ih (j + 1) (by omega) (fun i z hi hz => ?_))
      rcases Nat.lt_succ_iff_lt_or_eq.1 hi with e | e
      · exact hall i z e hz
      · subst e; rw [hy] at hz; cases hz; exact hym
    · have hlt' : ¬ y.toNat < m.toNat := fun e => hym (UInt64.lt_iff_toNat_lt.2 e)
      have := hk j (by omega) hall (fun z hz => by rw [hy] at hz; cases hz; exact hym)
      refine RRun.inLoop ?_
      repeat' (first | refine S.nilK ?_ | (refine S.op rfl ?_; first | refine R.indexAddr (cc := .ro) (es := out.map fun x => [enc x]) rfl rfl (by omega) hga ?_ | refine R.mv rfl ?_ | refine R.loadR rfl rfl ?_ | refine R.pickT rfl rfl ?_ | refine R.len rfl ?_ | ((first | refine S.lss rfl rfl ?_ ?_) <;> intro hlt <;> try (exfalso; omega))) | refine S.seq ?_ | refine S.region ?_ | refine S.condF rfl ?_ | refine RRun.exit rfl ?_)
      exact S.keep [3, 5, 6, 10, 11, 12] rfl this
theorem one_nums (l : List UInt64) : ∀ e ∈ (l.map fun x => [enc x]), ∀ a ∈ e, a.one = true := by
  intro e he a ha
  simp only [List.mem_map] at he
  obtain ⟨u, _, rfl⟩ := he
  simp only [List.mem_singleton] at ha
  subst ha; rfl
theorem rm_outer (l : List UInt64) (hl : l.length ≤ 100) (h₀ : AHeap) (k : List RT) (Q : AV → AHeap → Prop)
    (hk : ∀ h, h₀.le h → RRun Try.prog Try.f46 74 k (Env.get [(3, u64s (dd (srt l)))]) h Q) : ∀ (n j : Nat) (out : List UInt64) (h : AHeap), j + n = l.length → Rise out → out.length ≤ j → (∀ x, x ∈ out ↔ x ∈ l.take j) → h₀.le h →
    RRun Try.prog Try.f46 74 (.inLoop r46l0 :: .inBlock 0 :: k) (Env.get [(3, u64s out), (10, u64s l), (11, i64 l.length), (12, i64 j)]) h Q := by
  have hla : (l.map fun x => [enc x]).length = l.length := by simp
  intro n
  induction n with
  | zero =>
    intro j out h hj hr ho hm hle
    rw [List.take_of_length_le (by omega)] at hm
    rw [rise_ds hr hm]
    refine RRun.inLoop ?_
    repeat' (first | refine S.nilK ?_ | (refine S.op rfl ?_; first | ((first | refine S.lss rfl rfl ?_ ?_) <;> intro hlt <;> try (exfalso; omega))) | refine S.seq ?_ | refine S.region ?_ | refine S.condF rfl ?_ | refine RRun.exit rfl ?_)
    exact S.keep [3] rfl (hk h hle)
  | succ n ih =>
    intro j out h hj hr ho hm hle
    obtain ⟨m, hmj⟩ : ∃ m, l[j]? = some m := ⟨_, List.getElem?_eq_getElem (by omega)⟩
    have hga : (l.map fun x => [enc x])[((j : Nat) : Int).toNat]? = some [enc m] := by simp only [Int.toNat_natCast, List.getElem?_map, hmj]; rfl
    have htk : l.take (j + 1) = l.take j ++ [m] := by rw [List.take_add_one, hmj]; rfl
    have hlo : (out.map fun x => [Go.Av.u64 x]).length = out.length := by simp
    refine RRun.inLoop ?_
    repeat' (first | refine S.nilK ?_ | (refine S.op rfl ?_; first | refine R.indexAddr (cc := .ro) (es := l.map fun x => [enc x]) rfl rfl (by omega) hga ?_ | refine R.mv rfl ?_ | refine R.loadR rfl rfl ?_ | ((first | refine S.lss rfl rfl ?_ ?_) <;> intro hlt <;> try (exfalso; omega))) | refine S.seq ?_ | refine S.region ?_ | refine S.condT rfl ?_ | refine RRun.skip ?_ | refine RRun.block ?_)
    refine RRun.loopIn (S.keep [3, 5, 6, 10, 11, 12] (l' := [(3, u64s out), (5, enc m), (6, i64 (0 : Nat)), (10, u64s l), (11, i64 l.length), (12, i64 j)]) rfl (rm_inner out (by omega) m _ _ _ h _ _ (fun q hq1 hq2 hq3 => ?_) out.length 0 (by omega) (fun i y hi => by omega)))
    by_cases hin : out[q]? = some m
    · have hql : q < out.length := (List.getElem?_eq_some_iff.1 hin).1
      have hgo : (out.map fun x => [enc x])[((q : Nat) : Int).toNat]? = some [enc m] := by simp only [Int.toNat_natCast, List.getElem?_map, hin]; rfl
      have ih' := ih (j + 1) out h (by omega) hr (by omega) (fun x => by
        rw [htk, List.mem_append, List.mem_singleton, ← hm]
        constructor
        · exact .inl
        · rintro (e | rfl)
          · exact e
          · exact List.mem_of_getElem? hin) hle
      repeat' (first | refine S.nilK ?_ | (refine S.op rfl ?_; first | refine R.indexAddr (cc := .ro) (es := out.map fun x => [enc x]) rfl rfl (by omega) hgo ?_ | refine S.eqIntSame rfl rfl ?_ | refine R.mv rfl ?_ | refine R.loadR rfl rfl ?_ | refine S.addI rfl rfl (by omega) ?_ | refine R.pickT rfl rfl ?_ | refine R.len rfl ?_ | ((first | refine S.lss rfl rfl ?_ ?_) <;> intro hlt <;> try (exfalso; omega))) | refine S.seq ?_ | refine S.region ?_ | refine S.condT rfl ?_ | refine RRun.exit rfl ?_)
      rw [show ((j : Int) + 1) = ((j + 1 : Nat) : Int) by omega]
      exact S.keep [3, 10, 11, 12] rfl ih'
    · have hr' := rise_put hr hq1 hq2 hq3 hin
      have hstep : ∀ h', h₀.le h' → RRun Try.prog Try.f46 74 (.inLoop r46l0 :: .inBlock 0 :: k) (Env.get [(3, u64s (out.take q ++ ([m] ++ out.drop q))), (10, u64s l), (11, i64 l.length), (12, i64 (j + 1 : Nat))]) h' Q := fun h' hle' =>
        ih (j + 1) _ h' (by omega) hr' (by simp; omega) (fun x => by
          have hx1 : x ∈ List.take j l ++ [m] ↔ x ∈ out ∨ x = m := by rw [List.mem_append, List.mem_singleton, ← hm]
          rw [htk, hx1]
          have htd : x ∈ out ↔ x ∈ out.take q ∨ x ∈ out.drop q := by rw [← List.mem_append, List.take_append_drop]
          rw [htd]
          simp only [List.mem_append, List.mem_singleton]
          constructor
          · rintro (e | e | e)
            · exact .inl (.inl e)
            · exact .inr e
            · exact .inl (.inr e)
          · rintro ((e | e) | e)
            · exact .inl e
            · exact .inr (.inr e)
            · exact .inr (.inl e)) hle'
      by_cases hql : q < out.length
      · obtain ⟨y, hy⟩ : ∃ y, out[q]? = some y := ⟨_, List.getElem?_eq_getElem hql⟩
        have hgo : (out.map fun x => [enc x])[((q : Nat) : Int).toNat]? = some [enc y] := by simp only [Int.toNat_natCast, List.getElem?_map, hy]; rfl
        have hne : y.toNat ≠ m.toNat := fun e => hin (by rw [hy, UInt64.toNat_inj.1 e])
        repeat' (first | refine S.nilK ?_ | (refine S.op rfl ?_; first | refine R.indexAddr (cc := .ro) (es := out.map fun x => [enc x]) rfl rfl (by omega) hgo ?_ | refine S.sliceHM rfl rfl rfl (by omega) (by rw [hlo]; omega) (by decide) ?_ | refine S.sliceL rfl rfl (by omega) (by rw [hlo]; omega) (by decide) ?_ | refine R.mv rfl ?_ | refine R.loadR rfl rfl ?_ | refine R.pickT rfl rfl ?_ | refine R.len rfl ?_ | refine R.buildSl rfl rfl rfl (by decide) ?_ | ((first | refine S.lss rfl rfl ?_ ?_ | refine S.eqInt rfl rfl ?_ ?_) <;> intro hlt <;> try (exfalso; omega))) | refine S.seq ?_ | refine S.region ?_ | refine S.condF rfl ?_ | refine RRun.skip ?_)
        refine S.op rfl (S.appendG (h₀ := h₀) (c0 := .full) (xs := [[enc m]]) (ys := ((out.map fun x => [enc x]).drop q)) rfl (.of_le hle) rfl (.sl _ _) rfl ?_ ?_ ?_ ?_ (fun c1 h1 g1 _ => ?_))
        · exact Go.Av.Src.sl _ _
        · exact fun e he => one_nums out e (List.mem_of_mem_drop he)
        · simp; omega
        · simp; omega
        refine S.op rfl (S.appendG (h₀ := h₀) (c0 := .full) (xs := ((out.map fun x => [enc x]).take q)) (ys := [[enc m]] ++ ((out.map fun x => [enc x]).drop q)) rfl (.of_le g1.le) rfl ?_ rfl (.sl _ _) ?_ ?_ ?_ (fun c2 h2 g2 _ => ?_))
        · exact Go.Av.Dst.sl _ _
        · intro e he
          rcases List.mem_append.1 he with he | he
          · exact one_nums [m] e (by simpa using he)
          · exact one_nums out e (List.mem_of_mem_drop he)
        · simp; omega
        · simp; omega
        repeat' (first | refine S.nilK ?_ | (refine S.op rfl ?_; first | refine R.mv rfl ?_ | refine S.addI rfl rfl (by omega) ?_) | refine S.region ?_ | refine RRun.inBlock ?_)
        have e3 : (out.map fun x => [enc x]).take q ++ ([[enc m]] ++ (out.map fun x => [enc x]).drop q) = (out.take q ++ ([m] ++ out.drop q)).map fun x => [enc x] := by simp
        rw [e3, show ((j : Int) + 1) = ((j + 1 : Nat) : Int) by omega]
        exact S.keep [3, 10, 11, 12] rfl (RRun.envs (.cons 3 (.toRo 1 ((out.take q ++ ([m] ++ out.drop q)).map fun x => [enc x]) c2) (.cons 10 (.refl _) (.cons 11 (.refl _) (.cons 12 (.refl _) .nil)))) (hstep h2 g2.le))
      ·
        repeat' (first | refine S.nilK ?_ | (refine S.op rfl ?_; first | refine S.sliceHM rfl rfl rfl (by omega) (by rw [hlo]; omega) (by decide) ?_ | refine S.sliceL rfl rfl (by omega) (by rw [hlo]; omega) (by decide) ?_ | refine R.mv rfl ?_ | refine R.pickF rfl rfl ?_ | refine R.len rfl ?_ | refine R.buildSl rfl rfl rfl (by decide) ?_ | ((first | refine S.lss rfl rfl ?_ ?_) <;> intro hlt <;> try (exfalso; omega))) | refine S.skip rfl ?_ | refine S.seq ?_ | refine S.region ?_ | refine S.condF rfl ?_ | refine RRun.skip ?_)
        refine S.op rfl (S.appendG (h₀ := h₀) (c0 := .full) (xs := [[enc m]]) (ys := ((out.map fun x => [enc x]).drop q)) rfl (.of_le hle) rfl (.sl _ _) rfl ?_ ?_ ?_ ?_ (fun c1 h1 g1 _ => ?_))
        · exact Go.Av.Src.sl _ _
        · exact fun e he => one_nums out e (List.mem_of_mem_drop he)
        · simp; omega
        · simp; omega
        refine S.op rfl (S.appendG (h₀ := h₀) (c0 := .full) (xs := ((out.map fun x => [enc x]).take q)) (ys := [[enc m]] ++ ((out.map fun x => [enc x]).drop q)) rfl (.of_le g1.le) rfl ?_ rfl (.sl _ _) ?_ ?_ ?_ (fun c2 h2 g2 _ => ?_))
        · exact Go.Av.Dst.sl _ _
        · intro e he
          rcases List.mem_append.1 he with he | he
          · exact one_nums [m] e (by simpa using he)
          · exact one_nums out e (List.mem_of_mem_drop he)
        · simp; omega
        · simp; omega
        repeat' (first | refine S.nilK ?_ | (refine S.op rfl ?_; first | refine R.mv rfl ?_ | refine S.addI rfl rfl (by omega) ?_) | refine S.region ?_ | refine RRun.inBlock ?_)
        have e3 : (out.map fun x => [enc x]).take q ++ ([[enc m]] ++ (out.map fun x => [enc x]).drop q) = (out.take q ++ ([m] ++ out.drop q)).map fun x => [enc x] := by simp
        rw [e3, show ((j : Int) + 1) = ((j + 1 : Nat) : Int) by omega]
        exact S.keep [3, 10, 11, 12] rfl (RRun.envs (.cons 3 (.toRo 1 ((out.take q ++ ([m] ++ out.drop q)).map fun x => [enc x]) c2) (.cons 10 (.refl _) (.cons 11 (.refl _) (.cons 12 (.refl _) .nil)))) (hstep h2 g2.le))
theorem rm_bytes (l : List UInt64) (hl : l.length ≤ 100) (h : AHeap) (k : List RT) (Q : AV → AHeap → Prop) (b0 : List UInt8) (hb0 : b0.length ≤ 100)
    (hk : RRun Try.prog Try.f46 74 k (Env.get [(7, bysC (b0 ++ putNs l) .ro)]) h Q) : ∀ (n j : Nat), j + n = l.length →
    RRun Try.prog Try.f46 74 (.inLoop r46l2 :: .inBlock 4 :: k) (Env.get [(7, bysC (b0 ++ putNs (l.take j)) .ro), (63, u64s l), (64, i64 l.length), (65, i64 j)]) h Q := by
  have hla : (l.map fun x => [Go.Av.u64 x]).length = l.length := by simp
  intro n
  induction n with
  | zero =>
    intro j hj
    rw [List.take_of_length_le (by omega)]
    refine RRun.inLoop ?_
    repeat' (first | refine S.nilK ?_ | (refine S.op rfl ?_; first | ((first | refine S.lss rfl rfl ?_ ?_) <;> intro hlt <;> try (exfalso; omega))) | refine S.seq ?_ | refine S.region ?_ | refine S.condF rfl ?_ | refine RRun.exit rfl ?_)
    exact S.keep [7] rfl hk
  | succ n ih =>
    intro j hj
    obtain ⟨m, hmj⟩ : ∃ m, l[j]? = some m := ⟨_, List.getElem?_eq_getElem (by omega)⟩
    have hga : (l.map fun x => [enc x])[((j : Nat) : Int).toNat]? = some [enc m] := by simp only [Int.toNat_natCast, List.getElem?_map, hmj]; rfl
    have htk : l.take (j + 1) = l.take j ++ [m] := by rw [List.take_add_one, hmj]; rfl
    have hpn : putNs (l.take (j + 1)) = putNs (l.take j) ++ putN m.toNat := by rw [htk]; simp [putNs]
    have hlen := putNs_len (l.take j)
    have htl : (l.take j).length = j := by simp; omega
    have ih' := ih (j + 1) (by omega)
    rw [hpn, ← List.append_assoc] at ih'
    have hA : (b0 ++ putNs (l.take j)).length ≤ 100000 := by rw [List.length_append]; omega
    generalize b0 ++ putNs (l.take j) = A at ih' hA
    refine RRun.inLoop ?_
    repeat' (first | refine S.nilK ?_ | (refine S.op rfl ?_; first | refine R.indexAddr (cc := .ro) (es := l.map fun x => [enc x]) rfl rfl (by omega) hga ?_ | refine callS rfl rfl (refN_spec A (by omega) m _) ?_ | refine R.mv rfl ?_ | refine R.loadR rfl rfl ?_ | refine S.addI rfl rfl (by omega) ?_ | ((first | refine S.lss rfl rfl ?_ ?_) <;> intro hlt <;> try (exfalso; omega))) | refine S.seq ?_ | refine S.region ?_ | refine S.condT rfl ?_ | refine RRun.skip ?_ | refine RRun.block ?_ | refine RRun.inBlock ?_)
    rw [show ((j : Int) + 1) = ((j + 1 : Nat) : Int) by omega]
    exact S.keep [7, 63, 64, 65] rfl ih'
def r46u : RCode :=
  (.seq (.region [
    ⟨(some 59), none, .act, .mv (.tmp 3)⟩,
    ⟨(some 60), none, .act, .len (.tmp 59)⟩,
    ⟨(some 61), none, .act, .convInt .u64 (.tmp 60)⟩,
    ⟨(some 62), none, .act, .call 80 [(.const (.slice none 0 0)), (.tmp 61)]⟩,
    ⟨(some 7), none, .act, .mv (.tmp 62)⟩])
  (.seq (.seq (.region [
    ⟨(some 63), none, .act, .mv (.tmp 3)⟩,
    ⟨(some 64), none, .act, .len (.tmp 63)⟩,
    ⟨(some 65), none, .act, .mv (.const (.int .i64 0))⟩])
  (.block 4
   (.loop r46l2)))
  (.seq (.region [
    ⟨(some 73), none, .act, .mv (.tmp 7)⟩,
    ⟨(some 2), none, .act, .mv (.tmp 73)⟩])
  .ret)))
theorem refMembers_spec (l : List UInt64) (hl : l.length ≤ 49) (h : AHeap) : ACalls Try.prog 46 [u64s l] h (fun x h' => x = bysC (putM l) .ro ∧ h' = h) := by
  obtain ⟨c, hc1, hc2⟩ := res46
  refine ACalls.weak (ACalls.enter Try.func46 hc1 Try.ntmps46 hc2 (Nat.le_of_ble_eq_true rfl) rfl ?_)
  have hla : (l.map fun x => [Go.Av.u64 x]).length = l.length := by simp
  have hdl : (dd (srt l)).length ≤ 49 := by
    have := dd_len (srt l)
    rw [srt_len] at this; omega
  repeat' (first | refine S.nilK ?_ | (refine S.op rfl ?_; first | refine R.mv rfl ?_ | refine R.len rfl ?_) | refine S.seq ?_ | refine S.region ?_ | refine RRun.block ?_)
  rw [hla]
  refine RRun.loopIn (S.keep [3, 10, 11, 12] rfl (RRun.envs (.cons 3 (.nilSl 1 (c := .ro) trivial) (.cons 10 (.refl _) (.cons 11 (.refl _) (.cons 12 (.refl _) .nil)))) (rm_outer l (by omega) h _ _ (fun h1 hle => ?_) l.length 0 [] h (by omega) (by simp) (by simp) (by simp) (.refl _))))
  have hput : putM l = putNs [UInt64.ofNat (mems l).length] ++ putNs (mems l) := rfl
  have hm : mems l = (dd (srt l)).take 9 := rfl
  generalize dd (srt l) = D at hdl hm
  have hlD : (D.map fun x => [Go.Av.u64 x]).length = D.length := by simp
  have h9 : (mems l).length ≤ 9 := by rw [hm]; simp; omega
  have last : RRun Try.prog Try.f46 74 [.code r46u] (Env.get [(3, u64s (mems l))]) h1 (Weak fun x h' => x = bysC (putM l) .ro ∧ h' = h) := by
    unfold r46u
    have hlM : ((mems l).map fun x => [Go.Av.u64 x]).length = (mems l).length := by simp
    rw [hput]
    generalize mems l = M at h9 hlM
    repeat' (first | (refine S.op rfl ?_; first | refine R.mv rfl ?_ | refine R.len rfl ?_ | refine S.convIU rfl (by omega) ?_) | refine S.seq ?_ | refine S.region ?_)
    rw [hlM]
    refine S.op rfl (callS rfl rfl (refN_nil (UInt64.ofNat M.length) _) ?_)
    repeat' (first | refine S.nilK ?_ | (refine S.op rfl ?_; first | refine R.mv rfl ?_ | refine R.len rfl ?_) | refine S.seq ?_ | refine S.region ?_ | refine RRun.block ?_)
    rw [hlM]
    have e0 : putN (UInt64.ofNat M.length).toNat = putNs [UInt64.ofNat M.length] ++ putNs (M.take 0) := by simp [putNs]
    rw [e0]
    have l1 := putNs_len [UInt64.ofNat M.length]
    refine RRun.loopIn (S.keep [7, 63, 64, 65] rfl (rm_bytes M (by omega) h1 _ _ _ (by simp only [List.length_cons, List.length_nil] at l1; omega) ?_ M.length 0 (by omega)))
    repeat' (first | refine S.nilK ?_ | (refine S.op rfl ?_; first | refine R.mv rfl ?_) | refine S.seq ?_ | refine S.region ?_)
    apply S.ret rr46
    case hx => repeat (first | exact ResAt.nil | apply ResAt.tmp rfl)
    exact ⟨_, h, .refl _, hle, rfl, rfl⟩
  rw [hm] at last
  have hlE : ∀ n : Nat, (((D.map fun x => [enc x]).take ((n : Nat) : Int).toNat)) = (D.take n).map fun x => [enc x] := fun n => by simp
  by_cases h9D : 9 < D.length
  ·
    repeat' (first | ((show RRunG _ _ _ (.code r46u :: _) _ _ _; refine S.keep [3] rfl ?_; exact last)) | (rw [hlE 9]) | refine S.nilK ?_ | (refine S.op rfl ?_; first | refine S.sliceH (b := ((9 : Nat) : Int)) rfl rfl (by omega) (by rw [hlD]; omega) (by decide) ?_ | refine R.mv rfl ?_ | refine R.len rfl ?_ | ((first | refine S.gtr rfl rfl ?_ ?_) <;> intro hlt <;> try (exfalso; omega))) | refine S.seq ?_ | refine S.region ?_ | refine S.condT rfl ?_)
  · have e : D.take 9 = D := List.take_of_length_le (by omega)
    rw [e] at last
    repeat' (first | ((show RRunG _ _ _ (.code r46u :: _) _ _ _; exact S.keep [3] rfl last)) | refine S.nilK ?_ | (refine S.op rfl ?_; first | refine R.mv rfl ?_ | refine R.len rfl ?_ | ((first | refine S.gtr rfl rfl ?_ ?_) <;> intro hlt <;> try (exfalso; omega))) | refine S.seq ?_ | refine S.region ?_ | refine S.condF rfl ?_ | refine RRun.skip ?_)
end Go.Proofs.Ytnmgamcmjjngcaa

namespace Go.Proofs.Ytnmgamcmjjngcaa
open Go.Av
theorem append_one (S : Snap) (es : List Entry) (d : UInt64) (f : Bool) (e : Entry) (hS : S.index.toNat ≤ 4611686018427387904) (hn : es.length ≤ 1000000) (he : e.index.toNat = S.index.toNat + 1 + es.length) :
    ∃ d', Log.append ⟨S, es, d, f⟩ [e] = (⟨S, es ++ [e], d', f⟩, 0) := by
  have h1 : (S.index + 1).toNat = S.index.toNat + 1 := by
    rw [UInt64.toNat_add]; show (S.index.toNat + 1) % 18446744073709551616 = _; omega
  have h2 : (UInt64.ofNat es.length).toNat = es.length := by simp; omega
  have h3 : (S.index + UInt64.ofNat es.length).toNat = S.index.toNat + es.length := by
    rw [UInt64.toNat_add, h2]; show (S.index.toNat + es.length) % 18446744073709551616 = _; omega
  have h4 : (e.index - 1).toNat = S.index.toNat + es.length := by
    rw [UInt64.toNat_sub]; show (18446744073709551616 - 1 + e.index.toNat) % 18446744073709551616 = _; omega
  have h5 : (e.index - (S.index + 1)).toNat = es.length := by
    rw [UInt64.toNat_sub, h1]; show (18446744073709551616 - (S.index.toNat + 1) + e.index.toNat) % 18446744073709551616 = _; omega
  have c1 : S.index + 1 ≤ e.index := by rw [UInt64.le_iff_toNat_le, h1]; omega
  have c2 : e.index - 1 ≤ S.index + UInt64.ofNat es.length := by rw [UInt64.le_iff_toNat_le, h3, h4]; omega
  refine ⟨if d = 0 ∨ e.index < d then e.index else d, ?_⟩
  unfold Log.append
  simp only
  rw [if_pos ⟨rfl, c1, c2⟩, h5, List.take_of_length_le (Nat.le_refl _)]
def Runs (a : Nat) (l : List Entry) : Prop := ∀ k e, l[k]? = some e → e.index.toNat = a + 1 + k
theorem runs_of : ∀ (l : List Entry) (a : Nat), a + l.length + 2 < 18446744073709551616 → follow l = true → (∀ e, l[0]? = some e → e.index.toNat = a + 1) → Runs a l
  | [], a, _, _, _ => fun k e h => by simp at h
  | [x], a, _, _, h0 => fun k e h => by
    cases k with
    | zero => simp at h; subst h; simpa using h0 x rfl
    | succ k => simp at h
  | x :: y :: r, a, hb, hf, h0 => fun k e h => by
    simp only [follow, Bool.and_eq_true, beq_iff_eq] at hf
    have hx := h0 x rfl
    have hy : y.index.toNat = a + 1 + 1 := by
      have h1 := congrArg UInt64.toNat hf.1
      have hyl := UInt64.toNat_lt y.index
      rw [UInt64.toNat_sub] at h1
      have h2 : (18446744073709551616 - 1 + y.index.toNat) % 18446744073709551616 = x.index.toNat := h1
      simp only [List.length_cons] at hb
      omega
    cases k with
    | zero => simp at h; subst h; simpa using hx
    | succ k =>
      have := runs_of (y :: r) (a + 1) (by simp only [List.length_cons] at hb ⊢; omega) hf.2 (fun e he => by simp at he; subst he; exact hy) k e (by simpa using h)
      omega
theorem mems_ok {l : List UInt64} : mems (mems l) = mems l := by
  have hr : Rise (dd (srt l)) := dd_rise _ (srt_sorted l)
  have hr9 : Rise (mems l) := by unfold mems; exact hr.sublist (List.take_sublist _ _)
  have h1 : mems l = dd (srt (mems l)) := rise_ds hr9 (fun x => Iff.rfl)
  have hl : (mems l).length ≤ 9 := by unfold mems; simp; omega
  show (dd (srt (mems l))).take 9 = mems l
  rw [← h1]
  exact List.take_of_length_le hl
theorem putM_mems (l : List UInt64) : putM (mems l) = putM l := by
  unfold putM; rw [mems_ok]
end Go.Proofs.Ytnmgamcmjjngcaa

namespace Go.Proofs.Ytnmgamcmjjngcaa
open Go.Av
theorem ofLoop_put : ∀ (rest : List UInt64) (was : UInt64) (acc M : List UInt64), ofLoop rest.length was (some (putNs rest)) acc = some M → M = acc ++ rest
  | [], was, acc, M, h => by
    simp only [List.length_nil, ofLoop, putNs, List.flatMap_nil, rdE, if_true, Option.some.injEq] at h
    rw [← h]; simp
  | x :: rest, was, acc, M, h => by
    have hf : full64.toNat = 18446744073709551615 := by decide
    have hx := UInt64.toNat_lt x
    have e : rdN (some (putNs (x :: rest))) full64 = (x, some (putNs rest)) := by
      have := rdN_puts (x := x) (l := rest) (most := full64) (by omega) []
      simpa using this
    simp only [List.length_cons, ofLoop, e] at h
    split at h
    · cases h
    · have := ofLoop_put rest x (acc ++ [x]) M h
      rw [this]; simp
theorem ofM_put {ms M : List UInt64} (h : ofM (putM ms) = some M) : M = mems ms := by
  have hl : (mems ms).length ≤ 9 := by unfold mems; simp; omega
  have hu : (UInt64.ofNat (mems ms).length).toNat = (mems ms).length := by simp; omega
  have e : rdN (some (putM ms)) 9 = (UInt64.ofNat (mems ms).length, some (putNs (mems ms))) := by
    have h9 : (9 : UInt64).toNat = 9 := rfl
    have := rdN_puts (x := UInt64.ofNat (mems ms).length) (l := []) (most := 9) (by rw [hu, h9]; exact hl) (putNs (mems ms))
    simpa [putM, putNs] using this
  unfold ofM at h
  rw [e] at h
  simp only [hu] at h
  have := ofLoop_put _ _ _ _ h
  simpa using this
end Go.Proofs.Ytnmgamcmjjngcaa

namespace Go.Proofs.Ytnmgamcmjjngcaa
open Go.Av
structure Msg where
  kind : Int
  src : UInt64
  dst : UInt64
  term : UInt64
  index : UInt64
  logTerm : UInt64
  commit : UInt64
  hint : UInt64
  reject : Bool
  ents : List Entry
  snap : Snap
def Msg.cells (m : Msg) : List AV := [i64 m.kind, u64 m.src, u64 m.dst, u64 m.term, u64 m.index, u64 m.logTerm, u64 m.commit, u64 m.hint, bl m.reject, entries m.ents, u64 m.snap.index, u64 m.snap.term, u64s m.snap.members, bys m.snap.data]
structure Fate where
  times : Int
  delay : Int
def Fate.cells (f : Fate) : List AV := [i64 f.times, i64 f.delay]
end Go.Proofs.Ytnmgamcmjjngcaa

namespace Go.Proofs.Ytnmgamcmjjngcaa
open Go.Av
def r35 : RCode :=
  (.seq (.region [
    ⟨(some 2), none, .act, .mv (.tmp 0)⟩,
    ⟨(some 3), none, .act, .eq true .ptr (.tmp 2) (.const (.pointer none))⟩])
  (.cond (.tmp 3)
   (.region [
     ⟨(some 4), none, .act, .mv (.tmp 0)⟩,
     ⟨(some 5), none, .act, .mv (.tmp 0)⟩,
     ⟨(some 6), none, .act, .nilCheck (.tmp 4)⟩,
     ⟨(some 7), none, .act, .fieldAddr 5 (.tmp 6)⟩,
     ⟨none, none, .act, .store 1 (.tmp 7) (.const (.int .u64 0))⟩,
     ⟨(some 8), none, .act, .nilCheck (.tmp 5)⟩,
     ⟨(some 9), none, .act, .fieldAddr 6 (.tmp 8)⟩,
     ⟨none, none, .act, .store 1 (.tmp 9) (.const (.bool false))⟩])
   .skip))
theorem res35 : ∃ c, Try.f35.body = some c ∧ resCode Try.prog 10 c = some r35 := ⟨_, rfl, by kernel_rfl⟩
theorem rr35 : resRes Try.prog Try.f35.results.toList = some [] := by kernel_rfl
theorem clean_spec (L : Log) (p : Nat) (h : AHeap) (hp : h p = some (.box L.cells)) :
    ACalls Try.prog 35 [ptr p] h (fun _ h' => h' = h.set p (.box (Log.cells { L with dirty := 0, fresh := false }))) := by
  obtain ⟨c, hc1, hc2⟩ := res35
  refine ACalls.weak (ACalls.enter Try.func35 hc1 Try.ntmps35 hc2 (Nat.le_of_ble_eq_true rfl) rfl ?_)
  repeat' (first | refine S.nilK ?_ | (refine S.op rfl ?_; first | refine R.mv rfl ?_ | refine R.fieldAddr rfl ?_ | refine R.nilCheck rfl ?_ | refine R.eqPtrNil rfl rfl ?_) | (refine S.op0 rfl ?_; first | refine S.storeS rfl rfl rfl (by rfl) rfl (by first | decide | exact Nat.le_refl _ | exact Nat.le_of_ble_eq_true rfl) ?_ | refine S.store rfl rfl (by (repeat' (first | assumption)); first | done | fail) rfl rfl rfl (by rfl) rfl ?_) | refine S.seq ?_ | refine S.region ?_ | refine S.condT rfl ?_)
  apply S.done rr35
  case hx => repeat (first | exact ResAt.nil)
  exact ⟨_, _, .refl _, .refl _, rfl⟩
def r49 : RCode :=
  (.seq (.region [
    ⟨(some 2), none, .act, .alloc [(.int .u64 0), (.int .u64 0), (.slice none 0 0), (.slice none 0 0)]⟩])
  (.seq (.seq (.region [
    ⟨(some 3), none, .act, .mv (.tmp 0)⟩,
    ⟨(some 4), none, .act, .eq false .ptr (.tmp 3) (.const (.pointer none))⟩])
  (.cond (.tmp 4)
   (.seq (.region [
     ⟨(some 5), none, .act, .build [(.int .u64 0), (.int .u64 0), (.slice none 0 0), (.slice none 0 0)] []⟩,
     ⟨none, none, .act, .store 4 (.tmp 2) (.tmp 5)⟩])
   .ret)
   .skip))
  (.seq (.region [
    ⟨(some 6), none, .act, .mv (.tmp 0)⟩,
    ⟨(some 7), none, .act, .nilCheck (.tmp 6)⟩,
    ⟨(some 8), none, .act, .fieldAddr 0 (.tmp 7)⟩,
    ⟨(some 9), none, .act, .load true 4 (.tmp 8)⟩,
    ⟨(some 10), none, .act, .call 89 [(.tmp 9)]⟩,
    ⟨none, none, .act, .store 4 (.tmp 2) (.tmp 10)⟩])
  .ret)))
theorem res49 : ∃ c, Try.f49.body = some c ∧ resCode Try.prog 11 c = some r49 := ⟨_, rfl, by kernel_rfl⟩
theorem rr49 : resRes Try.prog Try.f49.results.toList = some [.cell 2 true 4] := by kernel_rfl
theorem snap_spec (L : Log) (hm : L.s.members.length ≤ 17592186044416) (hd : L.s.data.length ≤ 140737488355328) (p : Nat) (h : AHeap) (hp : h p = some (.box L.cells)) :
    ACalls Try.prog 49 [ptr p] h (fun x h' => x = .ag L.s.cells ∧ h' = h) := by
  have c89 := fun h => cloned_spec L.s hm hd h
  obtain ⟨c, hc1, hc2⟩ := res49
  refine ACalls.weak (ACalls.enter Try.func49 hc1 Try.ntmps49 hc2 (Nat.le_of_ble_eq_true rfl) rfl ?_)
  repeat' (first | refine S.nilK ?_ | (refine S.op rfl ?_; first | refine R.callQ (by decide) rfl (c89 _) ?_ | refine R.mv rfl ?_ | refine R.fieldAddr rfl ?_ | refine R.nilCheck rfl ?_ | refine R.load (by decide) rfl (by (repeat' (first | assumption | refine AHeap.get_fresh ‹_› ?_)); first | done | fail) rfl ?_ | refine R.eqPtrNil rfl rfl ?_ | refine R.alloc rfl (fun b hb => ?_)) | (refine S.op0 rfl ?_; first | refine S.storeS rfl rfl rfl (by rfl) rfl (by first | decide | exact Nat.le_refl _ | exact Nat.le_of_ble_eq_true rfl) ?_) | refine S.seq ?_ | refine S.region ?_ | refine S.condF rfl ?_ | refine RRun.skip ?_)
  apply S.ret rr49
  case hx => repeat (first | exact ResAt.nil | apply ResAt.cellA rfl (by (repeat' (first | exact AHeap.set_same _ _ _)); first | done | fail) (by rfl))
  exact ⟨_, _, .refl _, (by repeat (first | exact AHeap.le.refl _ | refine AHeap.le.set ?_ _ (by (repeat' (first | assumption)); first | done | fail))), rfl, rfl⟩
end Go.Proofs.Ytnmgamcmjjngcaa
