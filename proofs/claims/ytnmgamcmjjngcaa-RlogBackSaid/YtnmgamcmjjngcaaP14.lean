/-
  A log that is put record by record is replayed as it was, for every input (where its snapshot's members may be).
-/
import Derived.Test.YtnmgamcmjjngcaaP13
set_option linter.unusedVariables false
namespace Go.Av
def arith (op : BinOp) (k : IntKind) (a b : Int) : Option Value :=
  match op with
  | .add => some (.int k (k.wrap (a + b)))
  | .sub => some (.int k (k.wrap (a - b)))
  | .mul => some (.int k (k.wrap (a * b)))
  | .and => some (.int k (k.wrap (BitVec.ofInt k.bits a &&& BitVec.ofInt k.bits b).toNat))
  | .or => some (.int k (k.wrap (BitVec.ofInt k.bits a ||| BitVec.ofInt k.bits b).toNat))
  | .xor => some (.int k (k.wrap (BitVec.ofInt k.bits a ^^^ BitVec.ofInt k.bits b).toNat))
  | .andNot => some (.int k (k.wrap (BitVec.ofInt k.bits a &&& ~~~(BitVec.ofInt k.bits b)).toNat))
  | _ => none
theorem arith_bin {op : BinOp} {k : IntKind} {a b : Int} {v : Value} (h : arith op k a b = some v) : binInt op k a b = some v := by
  cases op <;> simp_all [arith, binInt]
section
variable {P : Program} {c : Cls} {E : AEnv} {h : AHeap} {K : AV → AHeap → Prop}
theorem S.arith {op : BinOp} {x y : Operand} {k : IntKind} {a b : Int} {v : Value} (hx : aev E x = some (.v (.int k a))) (hy : aev E y = some (.v (.int k b))) (hv : arith op k a b = some v) (hk : K (.v v) h) : ROpS P c (.bin op x y) E h K :=
  R.bin hx hy (arith_bin hv) hk
end
theorem wrap_i64 {n : Int} (h0 : -9223372036854775808 ≤ n) (h1 : n ≤ 9223372036854775807) : IntKind.i64.wrap n = n := by
  simp only [IntKind.wrap, IntKind.bits, IntKind.signed]
  simp
  omega
theorem wrap_u64 {n : Int} (h0 : 0 ≤ n) (h1 : n < 18446744073709551616) : IntKind.u64.wrap n = n := by
  simp only [IntKind.wrap, IntKind.bits, IntKind.signed]
  simp
  omega
theorem wrap_u64_add (x y : UInt64) : IntKind.u64.wrap ((x.toNat : Int) + (y.toNat : Int)) = ((x + y).toNat : Int) := by
  simp only [IntKind.wrap, IntKind.bits, IntKind.signed, UInt64.toNat_add]
  simp
theorem wrap_u64_sub (x y : UInt64) : IntKind.u64.wrap ((x.toNat : Int) - (y.toNat : Int)) = ((x - y).toNat : Int) := by
  simp only [IntKind.wrap, IntKind.bits, IntKind.signed, UInt64.toNat_sub]
  have hx := x.toNat_lt
  have hy := y.toNat_lt
  simp
  omega
section
variable {P : Program} {c : Cls} {E : AEnv} {h : AHeap} {K : AV → AHeap → Prop}
theorem S.store {sz : Nat} {x y : Operand} {b off : Nat} {cs : List AV} {av : AV} {xs : List AV} (hc : c = .act) (hx : aev E x = some (.v (.pointer (some ⟨b, off, none⟩)))) (hb : h b = some (.box cs)) (hy : aev E y = some av) (hxs : av.cells? = some xs) (hl : xs.length = sz)
    (hfit : ((cs.drop off).take sz).length = sz) (h0 : Nat.ble 1 sz = true) (hk : K (.v undef) (h.set b (.box (over cs off xs)))) : ROpS P c (.store sz x y) E h K :=
  R.store hc hx hb hy hxs hl (by
    have h1 := Nat.le_of_ble_eq_true h0
    rw [List.length_take, List.length_drop] at hfit
    omega) hk
theorem S.minIs {xs : List Operand} {k : IntKind} {m r : Int} {l : List (IntKind × Int)} (hx : ints E xs = some ((k, m) :: l)) (hm : minInt (l.map (·.2)) m = r) (hk : K (.v (.int k r)) h) : ROpS P c (.minmax false xs) E h K :=
  R.minmax hx (by simp only [Bool.false_eq_true, if_false]; rw [hm]; exact hk)
theorem S.addI {x y : Operand} {a b : Int} (hx : aev E x = some (.v (.int .i64 a))) (hy : aev E y = some (.v (.int .i64 b))) (hb : -9223372036854775808 ≤ a + b ∧ a + b ≤ 9223372036854775807) (hk : K (.v (.int .i64 (a + b))) h) : ROpS P c (.bin .add x y) E h K :=
  S.arith hx hy rfl (by rw [wrap_i64 hb.1 hb.2]; exact hk)
theorem S.subI {x y : Operand} {a b : Int} (hx : aev E x = some (.v (.int .i64 a))) (hy : aev E y = some (.v (.int .i64 b))) (hb : -9223372036854775808 ≤ a - b ∧ a - b ≤ 9223372036854775807) (hk : K (.v (.int .i64 (a - b))) h) : ROpS P c (.bin .sub x y) E h K :=
  S.arith hx hy rfl (by rw [wrap_i64 hb.1 hb.2]; exact hk)
theorem S.addU {x y : Operand} {a b : UInt64} (hx : aev E x = some (.v (.int .u64 a.toNat))) (hy : aev E y = some (.v (.int .u64 b.toNat))) (hk : K (.v (.int .u64 (a + b).toNat)) h) : ROpS P c (.bin .add x y) E h K :=
  S.arith hx hy rfl (by rw [wrap_u64_add]; exact hk)
theorem S.subU {x y : Operand} {a b : UInt64} (hx : aev E x = some (.v (.int .u64 a.toNat))) (hy : aev E y = some (.v (.int .u64 b.toNat))) (hk : K (.v (.int .u64 (a - b).toNat)) h) : ROpS P c (.bin .sub x y) E h K :=
  S.arith hx hy rfl (by rw [wrap_u64_sub]; exact hk)
theorem S.addUc {x : Operand} {a : UInt64} {b : Nat} (hx : aev E x = some (.v (.int .u64 a.toNat))) (hb : b < 18446744073709551616) (hk : K (.v (.int .u64 (a + (OfNat.ofNat b : UInt64)).toNat)) h) : ROpS P c (.bin .add x (.const (.int .u64 (OfNat.ofNat b)))) E h K :=
  S.addU (b := UInt64.ofNat b) hx (by
    have : ((UInt64.ofNat b).toNat : Int) = (b : Int) := by rw [UInt64.toNat_ofNat_of_lt' hb]
    show some (AV.v (.int .u64 (b : Int))) = _
    rw [this]) hk
theorem S.subUc {x : Operand} {a : UInt64} {b : Nat} (hx : aev E x = some (.v (.int .u64 a.toNat))) (hb : b < 18446744073709551616) (hk : K (.v (.int .u64 (a - (OfNat.ofNat b : UInt64)).toNat)) h) : ROpS P c (.bin .sub x (.const (.int .u64 (OfNat.ofNat b)))) E h K :=
  S.subU (b := UInt64.ofNat b) hx (by
    have : ((UInt64.ofNat b).toNat : Int) = (b : Int) := by rw [UInt64.toNat_ofNat_of_lt' hb]
    show some (AV.v (.int .u64 (b : Int))) = _
    rw [this]) hk
theorem S.convIU {x : Operand} {m : Nat} (hx : aev E x = some (.v (.int .i64 (m : Int)))) (hm : m < 18446744073709551616) (hk : K (.v (.int .u64 (UInt64.ofNat m).toNat)) h) : ROpS P c (.convInt .u64 x) E h K :=
  R.convInt hx (by
    rw [wrap_u64 (by omega) (by omega)]
    rw [UInt64.toNat_ofNat_of_lt' hm] at hk
    exact hk)
theorem S.convUI {x : Operand} {a : UInt64} (hx : aev E x = some (.v (.int .u64 a.toNat))) (hb : a.toNat ≤ 9223372036854775807) (hk : K (.v (.int .i64 a.toNat)) h) : ROpS P c (.convInt .i64 x) E h K :=
  R.convInt hx (by rw [wrap_i64 (by omega) (by omega)]; exact hk)
end
theorem RRun.loopIn {P : Program} {ro : Option Nat} {n : Nat} {E : AEnv} {h : AHeap} {Q : Option Code → AEnv → AHeap → Prop} {x : RCode} {k : List RT} (H : RRunG P ro n (.inLoop x :: k) E h Q) : RRunG P ro n (.code (.loop x) :: k) E h Q :=
  RRun.code fun md cc k' hc hs hk => by
    obtain ⟨a, rfl, ha⟩ := resCode_loop hs hc
    intro ds ac w hst b cs hb
    obtain ⟨a', w', t', j, E', h', ms, s, hlv, rest⟩ := H (.inLoop a :: k') (.cons (md := md) (by simp [resT, ha]) hk) ds ac w hst b cs hb
    refine ⟨a', w', t', j, E', h', ms, ?_, hlv, rest⟩
    obtain ⟨m, hm⟩ := s
    cases m with
    | zero =>
      simp only [runN, Stepped.next.injEq] at hm
      exfalso
      have h2 := congrArg (fun M : Machine => (M.gs[0]?).map fun g => g.frame.todo) hm
      simp [lone, Frame.atR] at h2
      subst h2
      cases j with
      | none => cases hlv
      | some c => cases c <;> simp [Leaves] at hlv
    | succ m =>
      have h1 := stepR_inLoop (P := P) (b := b) (a := ac) (k := k') (cs := cs) (w := w) (c := a)
      simp only [runN, h1] at hm
      exact .head stepR_loop ⟨m, hm⟩
inductive ResAt (E : AEnv) (h : AHeap) : List RRes → List AV → Prop
  | nil : ResAt E h [] []
  | tmp {t : Tmp} {x : AV} {rs : List RRes} {xs : List AV} : E t = some x → ResAt E h rs xs → ResAt E h (.tmp t :: rs) (x :: xs)
  | cellA {t : Tmp} {b off sz : Nat} {cs : List AV} {rs : List RRes} {xs : List AV} : E t = some (.v (.pointer (some ⟨b, off, none⟩))) → h b = some (.box cs) → ((cs.drop off).take (sz + 1)).length = sz + 1 → ResAt E h rs xs → ResAt E h (.cell t true (sz + 1) :: rs) (.ag ((cs.drop off).take (sz + 1)) :: xs)
  | cell1 {t : Tmp} {b off sz : Nat} {cs : List AV} {x : AV} {rs : List RRes} {xs : List AV} : E t = some (.v (.pointer (some ⟨b, off, none⟩))) → h b = some (.box cs) → cs[off]? = some x → ResAt E h rs xs → ResAt E h (.cell t false sz :: rs) (x :: xs)
theorem ResAt.eq {E : AEnv} {h : AHeap} : ∀ {rs : List RRes} {xs : List AV}, ResAt E h rs xs → resAVs E h rs = some xs
  | _, _, .nil => rfl
  | _, _, .tmp h1 h2 => by simp [resAVs, resAV, h1, h2.eq]
  | _, _, .cellA (off := off) (sz := sz) (cs := cs) h1 h2 h3 h4 => by
    have hle : off + (sz + 1) ≤ cs.length := by
      rw [List.length_take, List.length_drop] at h3
      omega
    simp [resAVs, resAV, h1, h2, h4.eq, hle]
  | _, _, .cell1 h1 h2 h3 h4 => by simp [resAVs, resAV, h1, h2, h3, h4.eq]
theorem S.ret {P : Program} {fn : Func} {n : Nat} {E : AEnv} {h : AHeap} {Q : AV → AHeap → Prop} {rs : List RRes} (hrs : resRes P fn.results.toList = some rs) {xs : List AV} (hx : ResAt E h rs xs) (hq : Q (packAV xs) h) {k : List RT} : RRun P fn n (.code .ret :: k) E h Q :=
  RRun.ret hrs hx.eq hq
theorem S.done {P : Program} {fn : Func} {n : Nat} {E : AEnv} {h : AHeap} {Q : AV → AHeap → Prop} {rs : List RRes} (hrs : resRes P fn.results.toList = some rs) {xs : List AV} (hx : ResAt E h rs xs) (hq : Q (packAV xs) h) : RRun P fn n [] E h Q :=
  RRun.done hrs hx.eq hq
abbrev u64 (x : UInt64) : AV := .v (.int .u64 x.toNat)
abbrev i64 (n : Int) : AV := .v (.int .i64 n)
abbrev bl (b : Bool) : AV := .v (.bool b)
abbrev ptr (b : Nat) : AV := .v (.pointer (some ⟨b, 0, none⟩))
def bys (l : List UInt8) : AV := .sl 1 (byteCells l) .ro
def u64s (l : List UInt64) : AV := .sl 1 (l.map fun x => [u64 x]) .ro
theorem len_bytes (l : List UInt8) : (byteCells l).length = l.length := by simp [byteCells]
theorem one_bytes (l : List UInt8) : ∀ e ∈ byteCells l, ∀ a ∈ e, a.one = true := by
  intro e he a ha
  simp only [byteCells, List.mem_map] at he
  obtain ⟨b, _, rfl⟩ := he
  simp only [byteCell, List.mem_singleton] at ha
  subst ha; rfl
theorem nil_bytes {l : List UInt8} (h : byteCells l = []) : l = [] := by simpa [byteCells] using h
theorem one_u64s (l : List UInt64) : ∀ e ∈ l.map fun x => [u64 x], ∀ a ∈ e, a.one = true := by
  intro e he a ha
  simp only [List.mem_map] at he
  obtain ⟨b, _, rfl⟩ := he
  simp only [List.mem_singleton] at ha
  subst ha; rfl
end Go.Av
