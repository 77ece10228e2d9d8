/-
  AdyaDeps answers true for every history
-/
import Derived.Test.YthfolomknkobkaaP14
set_option linter.unusedVariables false
namespace Go.Av
def arith (op : BinOp) (k : IntKind) (a b : Int) : Option Value :=
  match op with
  | .add => some (.int k (k.wrap (a + b)))
  | .sub => some (.int k (k.wrap (a - b)))
  | .mul => some (.int k (k.wrap (a * b)))
  | .and => some (.int k (k.wrap (BitVec.ofInt k.bits a &&& BitVec.ofInt k.bits b).toNat))
  | .or => some (.int k (k.wrap (BitVec.ofInt k.bits a ||| BitVec.ofInt k.bits b).toNat))
  | .xor => some (.int k (k.wrap (BitVec.ofInt k.bits a ^^^ BitVec.ofInt k.bits b).toNat))
  | .andNot => some (.int k (k.wrap (BitVec.ofInt k.bits a &&& ~~~(BitVec.ofInt k.bits b)).toNat))
  | _ => none
theorem arith_bin {op : BinOp} {k : IntKind} {a b : Int} {v : Value} (h : arith op k a b = some v) : binInt op k a b = some v := by
  cases op <;> simp_all [arith, binInt]
section
variable {P : Program} {c : Cls} {E : AEnv} {h : AHeap} {K : AV → AHeap → Prop}
theorem S.arith {op : BinOp} {x y : Operand} {k : IntKind} {a b : Int} {v : Value} (hx : aev E x = some (.v (.int k a))) (hy : aev E y = some (.v (.int k b))) (hv : arith op k a b = some v) (hk : K (.v v) h) : ROpS P c (.bin op x y) E h K :=
  R.bin hx hy (arith_bin hv) hk
end
theorem wrap_i64 {n : Int} (h0 : -9223372036854775808 ≤ n) (h1 : n ≤ 9223372036854775807) : IntKind.i64.wrap n = n := by
  simp only [IntKind.wrap, IntKind.bits, IntKind.signed]
  simp
  omega
section
variable {P : Program} {c : Cls} {E : AEnv} {h : AHeap} {K : AV → AHeap → Prop}
theorem S.store {sz : Nat} {x y : Operand} {b off : Nat} {cs : List AV} {av : AV} {xs : List AV} (hc : c = .act) (hx : aev E x = some (.v (.pointer (some ⟨b, off, none⟩)))) (hb : h b = some (.box cs)) (hy : aev E y = some av) (hxs : av.cells? = some xs) (hl : xs.length = sz)
    (hfit : ((cs.drop off).take sz).length = sz) (h0 : Nat.ble 1 sz = true) (hk : K (.v undef) (h.set b (.box (over cs off xs)))) : ROpS P c (.store sz x y) E h K :=
  R.store hc hx hb hy hxs hl (by
    have h1 := Nat.le_of_ble_eq_true h0
    rw [List.length_take, List.length_drop] at hfit
    omega) hk
theorem S.addI {x y : Operand} {a b : Int} (hx : aev E x = some (.v (.int .i64 a))) (hy : aev E y = some (.v (.int .i64 b))) (hb : -9223372036854775808 ≤ a + b ∧ a + b ≤ 9223372036854775807) (hk : K (.v (.int .i64 (a + b))) h) : ROpS P c (.bin .add x y) E h K :=
  S.arith hx hy rfl (by rw [wrap_i64 hb.1 hb.2]; exact hk)
theorem S.subI {x y : Operand} {a b : Int} (hx : aev E x = some (.v (.int .i64 a))) (hy : aev E y = some (.v (.int .i64 b))) (hb : -9223372036854775808 ≤ a - b ∧ a - b ≤ 9223372036854775807) (hk : K (.v (.int .i64 (a - b))) h) : ROpS P c (.bin .sub x y) E h K :=
  S.arith hx hy rfl (by rw [wrap_i64 hb.1 hb.2]; exact hk)
end
theorem RRun.loopIn {P : Program} {ro : Option Nat} {n : Nat} {E : AEnv} {h : AHeap} {Q : Option Code → AEnv → AHeap → Prop} {x : RCode} {k : List RT} (H : RRunG P ro n (.inLoop x :: k) E h Q) : RRunG P ro n (.code (.loop x) :: k) E h Q :=
  RRun.code fun md cc k' hc hs hk => by
    obtain ⟨a, rfl, ha⟩ := resCode_loop hs hc
    intro ds ac w hst b cs hb
    obtain ⟨a', w', t', j, E', h', ms, s, hlv, rest⟩ := H (.inLoop a :: k') (.cons (md := md) (by simp [resT, ha]) hk) ds ac w hst b cs hb
    refine ⟨a', w', t', j, E', h', ms, ?_, hlv, rest⟩
    obtain ⟨m, hm⟩ := s
    cases m with
    | zero =>
      simp only [runN, Stepped.next.injEq] at hm
      exfalso
      have h2 := congrArg (fun M : Machine => (M.gs[0]?).map fun g => g.frame.todo) hm
      simp [lone, Frame.atR] at h2
      subst h2
      cases j with
      | none => cases hlv
      | some c => cases c <;> simp [Leaves] at hlv
    | succ m =>
      have h1 := stepR_inLoop (P := P) (b := b) (a := ac) (k := k') (cs := cs) (w := w) (c := a)
      simp only [runN, h1] at hm
      exact .head stepR_loop ⟨m, hm⟩
inductive ResAt (E : AEnv) (h : AHeap) : List RRes → List AV → Prop
  | nil : ResAt E h [] []
  | tmp {t : Tmp} {x : AV} {rs : List RRes} {xs : List AV} : E t = some x → ResAt E h rs xs → ResAt E h (.tmp t :: rs) (x :: xs)
  | cellA {t : Tmp} {b off sz : Nat} {cs : List AV} {rs : List RRes} {xs : List AV} : E t = some (.v (.pointer (some ⟨b, off, none⟩))) → h b = some (.box cs) → ((cs.drop off).take (sz + 1)).length = sz + 1 → ResAt E h rs xs → ResAt E h (.cell t true (sz + 1) :: rs) (.ag ((cs.drop off).take (sz + 1)) :: xs)
  | cell1 {t : Tmp} {b off sz : Nat} {cs : List AV} {x : AV} {rs : List RRes} {xs : List AV} : E t = some (.v (.pointer (some ⟨b, off, none⟩))) → h b = some (.box cs) → cs[off]? = some x → ResAt E h rs xs → ResAt E h (.cell t false sz :: rs) (x :: xs)
theorem ResAt.eq {E : AEnv} {h : AHeap} : ∀ {rs : List RRes} {xs : List AV}, ResAt E h rs xs → resAVs E h rs = some xs
  | _, _, .nil => rfl
  | _, _, .tmp h1 h2 => by simp [resAVs, resAV, h1, h2.eq]
  | _, _, .cellA (off := off) (sz := sz) (cs := cs) h1 h2 h3 h4 => by
    have hle : off + (sz + 1) ≤ cs.length := by
      rw [List.length_take, List.length_drop] at h3
      omega
    simp [resAVs, resAV, h1, h2, h4.eq, hle]
  | _, _, .cell1 h1 h2 h3 h4 => by simp [resAVs, resAV, h1, h2, h3, h4.eq]
theorem S.ret {P : Program} {fn : Func} {n : Nat} {E : AEnv} {h : AHeap} {Q : AV → AHeap → Prop} {rs : List RRes} (hrs : resRes P fn.results.toList = some rs) {xs : List AV} (hx : ResAt E h rs xs) (hq : Q (packAV xs) h) {k : List RT} : RRun P fn n (.code .ret :: k) E h Q :=
  RRun.ret hrs hx.eq hq
theorem S.done {P : Program} {fn : Func} {n : Nat} {E : AEnv} {h : AHeap} {Q : AV → AHeap → Prop} {rs : List RRes} (hrs : resRes P fn.results.toList = some rs) {xs : List AV} (hx : ResAt E h rs xs) (hq : Q (packAV xs) h) : RRun P fn n [] E h Q :=
  RRun.done hrs hx.eq hq
abbrev u64 (x : UInt64) : AV := .v (.int .u64 x.toNat)
abbrev i64 (n : Int) : AV := .v (.int .i64 n)
abbrev bl (b : Bool) : AV := .v (.bool b)
abbrev ptr (b : Nat) : AV := .v (.pointer (some ⟨b, 0, none⟩))
def bys (l : List UInt8) : AV := .sl 1 (byteCells l) .ro
theorem len_bytes (l : List UInt8) : (byteCells l).length = l.length := by simp [byteCells]
end Go.Av
