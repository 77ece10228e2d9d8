/-
  AdyaDeps answers true for every history
-/
import Derived.Test.YthfolomknkobkaaP3
set_option linter.unusedVariables false
namespace Go.Av
inductive EqK where
  | bool | int | str | ptr | slice | map | func
  | agg (ks : List (Nat × EqK))
  deriving Inhabited
inductive ROp where
  | mv (x : Operand)
  | pick (c a b : Operand)
  | bin (op : BinOp) (x y : Operand)
  | eq (neg : Bool) (k : EqK) (x y : Operand)
  | un (op : UnOp) (x : Operand)
  | convInt (k : IntKind) (x : Operand)
  | toBytes (x : Operand)
  | toStr (x : Operand)
  | convStr (x : Operand)
  | convSl (x : Operand)
  | alloc (zero : List Value)
  | box (x : Operand)
  | build (zero : List Value) (parts : List (Nat × Nat × Operand))
  | buildSl (sz : Nat) (zero : List Value) (len : Nat) (parts : List (Nat × Operand))
  | load (agg : Bool) (sz : Nat) (x : Operand)
  | store (sz : Nat) (x y : Operand)
  | nilCheck (x : Operand)
  | fieldAddr (off : Nat) (x : Operand)
  | field (agg : Bool) (off sz : Nat) (x : Operand)
  | indexAddr (sz : Nat) (x i : Operand)
  | indexStr (x i : Operand)
  | sliceSl (sz : Nat) (x : Operand) (lo hi mx : Option Operand)
  | sliceStr (x : Operand) (lo hi : Option Operand)
  | len (x : Operand)
  | lenStr (x : Operand)
  | lenMap (x : Operand)
  | append (sz bytes : Nat) (zero : List Value) (x y : Operand)
  | minmax (isMax : Bool) (xs : List Operand)
  | clearSl (sz : Nat) (zero : List Value) (x : Operand)
  | copySl (sz : Nat) (x y : Operand)
  | extract (x : Operand) (i : Nat)
  | call (f : FuncId) (args : List Operand)
  | callv (x : Operand) (args : List Operand)
  | makeFunc (fn : Fn) (first captured : List Operand)
  | makeMap
  | lookup (k : TypeId) (zero : Value) (x y : Operand) (ok : Bool)
  | mapUpdate (k : TypeId) (m x y : Operand)
  | mapDelete (k : TypeId) (m x : Operand)
  | indexArr (n sz : Nat) (x i : Operand)
  | indexAg (agg : Bool) (n sz : Nat) (x i : Operand)
  | makeSl (sz bytes : Nat) (zero : List Value) (len cap : Operand)
  | cmpStr (x y : Operand)
  | rangeMap (x : Operand)
  | nextMap (x : Operand)
  | entryMap (x : Operand)
  | cmpSl (x y : Operand)
  deriving Inhabited
structure RItem where
  dst : Option Tmp
  guard : Option (Tmp × Bool)
  cls : Cls
  op : ROp
  deriving Inhabited
def aggOf (P : Program) (t : TypeId) : Option Bool :=
  match P.underlying t with
  | some (.struct _) | some (.array _ _) => some true
  | some _ => some false
  | none => none
def szOf (P : Program) (t : TypeId) : Option Nat := (P.info? t).map (·.size)
def zeroOf (P : Program) (t : TypeId) : Option Value := (P.info? t).bind (·.zero)
def eqK (P : Program) : Nat → TypeId → Option EqK
  | 0, _ => none
  | d + 1, t =>
    match P.underlying t with
    | some .bool => some .bool
    | some (.int _) => some .int
    | some .string => some .str
    | some (.pointer e) => match szOf P e with | some 0 => none | some _ => some .ptr | none => none
    | some (.slice _) => some .slice
    | some (.map _ _) => some .map
    | some (.func _ _ _) => some .func
    | some (.struct fs) => if P.stoodInHeld t || P.eqGuardType P.depth t then none else
        (fs.toList.mapM fun f => if f.name == "_" then none else match szOf P f.type with | some 1 => (eqK P d f.type).map fun k => (f.offset, k) | _ => none).map .agg
    | some (.array n e) => if P.eqGuardType P.depth t then none else match szOf P e with | some 1 => (eqK P d e).map fun k => .agg ((List.range n).map fun i => (i, k)) | _ => none
    | _ => none
def plainCallee (P : Program) (f : FuncId) : Bool := (P.funcs[f]?).any fun fn => fn.body.isSome && !(fn.name == "runtime.NumGoroutine")
def cmpCallee (P : Program) (f : FuncId) : Bool := (P.funcs[f]?).any fun fn => fn.body.isNone && fn.name == "internal/bytealg.abigen_runtime_cmpstring" && fn.origin == ""
def cmpSlCallee (P : Program) (f : FuncId) : Bool := (P.funcs[f]?).any fun fn => fn.body.isNone && fn.name == "internal/bytealg.Compare" && fn.origin == ""
def zeroCells (P : Program) (t : TypeId) : Option (List Value) := (zeroOf P t).map fun z => z.cells.toList
def placesOf (P : Program) (fs : List Field) : Option (List (Nat × Nat)) := fs.mapM fun f => (P.info? f.type).map fun i => (f.offset, i.size)
def pickParts (places : List (Nat × Nat)) : List (Nat × Operand) → Option (List (Nat × Nat × Operand))
  | [] => some []
  | (i, x) :: r => match places[i]?, pickParts places r with | some (off, s), some l => some ((off, s, x) :: l) | _, _ => none
def resParts (P : Program) (t : TypeId) (parts : List (Nat × Operand)) : Option (List (Nat × Nat × Operand)) :=
  match P.underlying t with
  | some (.struct fs) => match placesOf P fs.toList with | some pl => pickParts pl parts | none => none
  | some (.array _ e) => match szOf P e with | some s => some (parts.map fun (i, x) => (i * s, s, x)) | none => none
  | _ => none
def resBuiltin (P : Program) (b : Builtin) (args : List Operand) (ts : List TypeId) : Option ROp :=
  match b, args, ts with
  | .len, [x], [t] => match P.underlying t with
    | some .string => some (.lenStr x)
    | some (.slice _) => some (.len x)
    | some (.map _ _) => some (.lenMap x)
    | _ => none
  | .append, [x, y], [t, u] => match P.underlying t, P.underlying u with
    | some (.slice e), some (.slice _) | some (.slice e), some .string =>
      match P.info? e with
      | some i => match i.zero with | some z => if z.cells.size = i.size && i.size ≠ 0 then some (.append i.size i.bytes z.cells.toList x y) else none | none => none
      | none => none
    | _, _ => none
  | .min, xs, _ => some (.minmax false xs)
  | .max, xs, _ => some (.minmax true xs)
  | .clear, [x], [t] => match P.underlying t with
    | some (.slice e) => do let s ← szOf P e; let z ← zeroOf P e; if z.cells.size = s then some (.clearSl s z.cells.toList x) else none
    | _ => none
  | .copy, [x, y], [t, _] => match P.underlying t with
    | some (.slice e) => do let s ← szOf P e; some (.copySl s x y)
    | _ => none
  | .delete, [m, x], [t, _] => match P.underlying t with
    | some (.map k _) => do let _ ← eqK P 10 k; some (.mapDelete k m x)
    | _ => none
  | _, _, _ => none
def resOp (P : Program) (o : Oper) : Option ROp :=
  match o.op with
  | .move x | .assign x => some (.mv x)
  | .pick c a b => some (.pick c a b)
  | .binOp .eql t x y _ => (eqK P 10 t).map fun k => .eq false k x y
  | .binOp .neq t x y _ => (eqK P 10 t).map fun k => .eq true k x y
  | .binOp op _ x y _ => some (.bin op x y)
  | .unOp op _ x => some (.un op x)
  | .convert s d x =>
    match P.underlying s, P.underlying d with
    | some (.int _), some (.int k) => some (.convInt k x)
    | some .string, some (.slice e) => match P.underlying e with | some (.int .u8) => some (.toBytes x) | _ => none
    | some (.slice e), some .string => match P.underlying e with | some (.int .u8) => some (.toStr x) | _ => none
    | some .string, some .string => some (.convStr x)
    | some (.slice e), some (.slice _) => if s = d then (match P.underlying e with | some (.int .u8) => some (.convSl x) | _ => none) else none
    | _, _ => none
  | .alloc t => (zeroCells P t).map .alloc
  | .box _ x => some (.box x)
  | .build t ps => do
    let z ← zeroCells P t
    let qs ← resParts P t ps.toList
    pure (.build z qs)
  | .buildSlice t len ps =>
    match P.underlying t with
    | some (.slice e) => do
      let s ← szOf P e
      let z ← zeroCells P e
      if z.length = s && len * s ≤ 16777216 then some (.buildSl s z len ps.toList) else none
    | _ => none
  | .load t x => do let a ← aggOf P t; let s ← szOf P t; pure (.load a s x)
  | .store t x y => do let s ← szOf P t; pure (.store s x y)
  | .nilCheck x => some (.nilCheck x)
  | .fieldAddr t x i =>
    match P.underlying t with
    | some (.struct fs) => do
      let f ← fs[i]?
      let s ← szOf P f.type
      if s = 0 then none else some (.fieldAddr f.offset x)
    | _ => none
  | .field t x i =>
    match P.underlying t with
    | some (.struct fs) => do
      let f ← fs[i]?
      let s ← szOf P f.type
      let a ← aggOf P f.type
      some (.field a f.offset s x)
    | _ => none
  | .indexAddr t x i =>
    match P.underlying t with
    | some (.slice e) => do let s ← szOf P e; some (.indexAddr s x i)
    | some (.array n e) => do let s ← szOf P e; some (.indexArr n s x i)
    | _ => none
  | .index t x i =>
    match P.underlying t with
    | some .string => some (.indexStr x i)
    | some (.array n e) => do let s ← szOf P e; let a ← aggOf P e; some (.indexAg a n s x i)
    | _ => none
  | .makeSlice t x y =>
    match P.underlying t with
    | some (.slice e) =>
      match P.info? e with
      | some i => match i.zero with
        | some z => if z.cells.size = i.size then some (.makeSl i.size i.bytes z.cells.toList x y) else none
        | none => none
      | none => none
    | _ => none
  | .slice t x lo hi mx =>
    match P.underlying t, mx with
    | some (.slice e), _ => do let s ← szOf P e; some (.sliceSl s x lo hi mx)
    | some .string, none => some (.sliceStr x lo hi)
    | _, _ => none
  | .extract x i => some (.extract x i)
  | .call c =>
    match c.callee with
    | .builtin b => resBuiltin P b c.args.toList c.argTypes.toList
    | .value (.func f) => if plainCallee P f then some (.call f c.args.toList) else if cmpCallee P f then (match c.args.toList with | [x, y] => some (.cmpStr x y) | _ => none) else if cmpSlCallee P f then (match c.args.toList with | [x, y] => some (.cmpSl x y) | _ => none) else none
    | .value x => some (.callv x c.args.toList)
    | .invoke _ _ => none
  | .makeFunc fn a b => some (.makeFunc fn a.toList b.toList)
  | .makeMap _ none => some .makeMap
  | .lookup t x y ok =>
    match P.underlying t with
    | some (.map k e) => do
      let _ ← eqK P 10 k
      let z ← zeroOf P e
      some (.lookup k z x y ok)
    | _ => none
  | .mapUpdate t m x y =>
    match P.underlying t with
    | some (.map k _) => do let _ ← eqK P 10 k; some (.mapUpdate k m x y)
    | _ => none
  | .insert t m x y =>
    match P.underlying t with
    | some (.map k _) => do let _ ← eqK P 10 k; some (.mapUpdate k m x y)
    | _ => none
  | .range t x =>
    match P.underlying t with
    | some (.map _ _) => some (.rangeMap x)
    | _ => none
  | .next x false => some (.nextMap x)
  | .entry x => some (.entryMap x)
  | _ => none
inductive Kind where
  | pure | read | flex | act
  deriving DecidableEq
def ROp.kind : ROp → Kind
  | .mv _ | .pick .. | .bin .. | .un .. | .convInt .. | .nilCheck _ | .fieldAddr .. | .field .. | .indexAddr .. | .indexStr .. | .sliceSl .. | .sliceStr .. | .len _ | .lenStr _ | .minmax .. | .extract .. | .makeFunc .. | .toStr _ | .convStr _ | .eq .. | .toBytes _ | .build .. | .buildSl .. | .indexArr .. | .indexAg .. | .cmpStr .. | .cmpSl .. => .pure
  | .load .. | .lenMap _ | .lookup .. => .read
  | .append .. | .call .. | .callv .. => .flex
  | _ => .act
def markedIn (P : Program) (ops : Array Oper) (o : Oper) : Bool :=
  match o.dst with
  | none => false
  | some t => ops.any fun o' => match resOp P o' with | some (.convSl (.tmp t')) => t' == t | _ => false
def ROp.kindIn (P : Program) (ops : Array Oper) (o : Oper) (r : ROp) : Kind :=
  match r with
  | .buildSl .. => if markedIn P ops o then .act else r.kind
  | _ => r.kind
def clsAt (ops : Array Oper) (ks : List Kind) (i : Nat) : Cls :=
  match ks.getD i .act with
  | .pure => .pure
  | .read => .read
  | .act => .act
  | .flex => if (List.range ops.size).all (fun j => j == i || ks.getD j .act == .pure || waits ops j i || waits ops i j) then .act else .read
def pickOrd (ops : Array Oper) (cls : List Cls) : Nat → Array Bool → List Nat → List Nat
  | 0, _, acc => acc.reverse
  | fuel + 1, listed, acc =>
    let rs := Region.ready .any ops listed
    match rs.find? (fun i => cls.getD i .act != .act), rs with
    | some i, _ => pickOrd ops cls fuel (listed.setIfInBounds i true) (i :: acc)
    | none, i :: _ => pickOrd ops cls fuel (listed.setIfInBounds i true) (i :: acc)
    | none, [] => acc.reverse
def resItem (P : Program) (ops : Array Oper) (cls : Nat → Cls) (k : Nat) : Option RItem :=
  match ops[k]? with
  | none => none
  | some o =>
    match resOp P o with
    | none => none
    | some r =>
      match o.guard with
      | none => some ⟨o.dst, none, cls k, r⟩
      | some (j, b) =>
        match (ops[j]?).bind (·.dst) with
        | none => none
        | some t => some ⟨o.dst, some (t, b), cls k, r⟩
def dstsOk (n : Nat) (ops : Array Oper) : Bool := ops.all fun o => match o.dst with | some d => decide (d < n) | none => true
def resRegion (P : Program) (n : Nat) (ops : Array Oper) (draw : Bool) : Option (List RItem) :=
  if dstsOk n ops then
    if draw then
      match (ops.toList.mapM fun o => (resOp P o).map (ROp.kindIn P ops o)) with
      | none => none
      | some ks =>
        let cl := (List.range ops.size).map (clsAt ops ks)
        let ord := pickOrd ops cl ops.size (Array.replicate ops.size false) []
        if P.follows .mixedOrders && ord.length == ops.size && orderOk ops (fun i => cl.getD i .act) ord (Array.replicate ops.size false) then ord.mapM (resItem P ops fun i => cl.getD i .act) else none
    else (List.range ops.size).mapM (resItem P ops fun _ => .act)
  else none
def RItem.want (i : RItem) (E : AEnv) : Option Bool :=
  match i.guard with
  | none => some true
  | some (t, b) =>
    match E t with
    | some (.v (.bool x)) => some (x == b)
    | some (.v _) => some false
    | _ => none
def ROpS (P : Program) (c : Cls) (r : ROp) (E : AEnv) (h : AHeap) (K : AV → AHeap → Prop) : Prop := ∀ o, resOp P o = some r → RSem P c o E h K
def RChain (P : Program) : List RItem → AEnv → AHeap → (AEnv → AHeap → Prop) → Prop
  | [], E, h, K => K E h
  | i :: rest, E, h, K =>
    match i.want E with
    | some true => ROpS P i.cls i.op E h (fun x h' => RChain P rest (E.put i.dst x) h' K)
    | some false => RChain P rest (E.put i.dst (.v undef)) h K
    | none => False
theorem aord_of_chain {P : Program} {ops : Array Oper} {cls : Nat → Cls} {K : AEnv → AHeap → Prop} : ∀ (ord : List Nat) (items : List RItem) (E : AEnv) (h : AHeap),
    ord.mapM (resItem P ops cls) = some items → RChain P items E h K → AOrd P ops cls K ord E h
  | [], items, E, h, hm, hc => by
    simp at hm
    subst hm
    exact hc
  | k :: ord, items, E, h, hm, hc => by
    simp only [List.mapM_cons, Option.pure_def, Option.bind_eq_bind, Option.bind_eq_some_iff] at hm
    obtain ⟨i, hi, rest, hrest, hcons⟩ := hm
    simp only [Option.some.injEq] at hcons
    subst hcons
    unfold resItem at hi
    simp only [AOrd]
    unfold aStep
    cases ho : ops[k]? with
    | none => simp [ho] at hi
    | some o =>
      simp only [ho] at hi ⊢
      cases hr : resOp P o with
      | none => simp [hr] at hi
      | some r =>
        simp only [hr] at hi
        have hw : awant ops o E = i.want E ∧ i.dst = o.dst ∧ i.cls = cls k ∧ i.op = r := by
          unfold awant RItem.want
          cases hg : o.guard with
          | none => simp [hg] at hi; subst hi; simp
          | some gw =>
            obtain ⟨j, b⟩ := gw
            simp only [hg] at hi ⊢
            cases ht : (ops[j]?).bind (·.dst) with
            | none => simp [ht] at hi
            | some t => simp [ht] at hi; subst hi; simp; split <;> simp_all
        obtain ⟨h1, h2, h3, h4⟩ := hw
        rw [h1]
        simp only [RChain] at hc
        split at hc
        · rename_i hwant
          simp only [hwant]
          rw [← h3, ← h2]
          exact (hc o (by rw [h4]; exact hr)).mono fun x h' hk => aord_of_chain ord rest _ _ hrest hk
        · rename_i hwant
          simp only [hwant]
          rw [← h2]
          exact aord_of_chain ord rest _ _ hrest hc
        · exact hc.elim
theorem dstsOk_spec {n : Nat} {ops : Array Oper} (h : dstsOk n ops = true) : ∀ (i : Nat) o, ops[i]? = some o → ∀ d, o.dst = some d → d < n := by
  intro i o ho d hd
  have := Array.all_eq_true'.1 h o (Array.mem_of_getElem? ho)
  simpa [hd] using this
theorem wp_region_res {ro : Option Nat} {P : Program} {n id : Nat} {ds : List Deferred} {ops : Array Oper} {draw : Bool} {items : List RItem} (hr : resRegion P n ops draw = some items) {K : AEnv → AHeap → Prop} {E : AEnv} {h : AHeap} {a : Act} {w : World}
    (hs : St n ds E h a w) (H : RChain P items E h K) : (Code.region id ops draw).wpIn (wideR ro) 0 P (After n ds K h w) a w := by
  unfold resRegion at hr
  split at hr
  case isFalse => cases hr
  rename_i hd
  have hdst := dstsOk_spec hd
  cases draw with
  | false =>
    simp only [Bool.false_eq_true, if_false] at hr
    exact wp_region_text hdst hs (aord_of_chain _ _ _ _ hr H)
  | true =>
    simp only [if_true] at hr
    split at hr
    · cases hr
    · split at hr
      · rename_i hb
        simp only [Bool.and_eq_true, beq_iff_eq] at hb
        obtain ⟨⟨h1, h2⟩, h3⟩ := hb
        exact wp_region_draws h1 h2 h3 hdst hs (aord_of_chain _ _ _ _ hr H)
      · cases hr
inductive RTree where
  | done
  | step (i : RItem) (t : RTree)
  | alt (i : RItem) (t r : RTree)
  | stop
  deriving Inhabited
def otMake (ops : Array Oper) (cls : List Cls) : Nat → Array Bool → OT
  | 0, _ => .done
  | fuel + 1, l =>
    let rs := Region.ready .any ops l
    match rs.find? (fun k => cls.getD k .act != .act && (List.range ops.size).all (fun j => j == k || l.getD j true || waits ops j k || loose ops (fun i => cls.getD i .act) k j)), rs with
    | some k, _ => .step k (otMake ops cls fuel (l.setIfInBounds k true))
    | none, [] => .done
    | none, rs => rs.foldr (fun k r => .alt k (otMake ops cls fuel (l.setIfInBounds k true)) r) .stop
def resTree (P : Program) (ops : Array Oper) (cls : Nat → Cls) : OT → Option RTree
  | .done => some .done
  | .step k t => match resItem P ops cls k, resTree P ops cls t with | some i, some x => some (.step i x) | _, _ => none
  | .alt k t r => match resItem P ops cls k, resTree P ops cls t, resTree P ops cls r with | some i, some x, some y => some (.alt i x y) | _, _, _ => none
  | .stop => some .stop
def RTreeS (P : Program) (K : AEnv → AHeap → Prop) : RTree → AEnv → AHeap → Prop
  | .done, E, h => K E h
  | .step i t, E, h => RChain P [i] E h (RTreeS P K t)
  | .alt i t r, E, h => RChain P [i] E h (RTreeS P K t) ∧ RTreeS P K r E h
  | .stop, _, _ => True
def rooted (ops : Array Oper) : Nat → Operand → Bool
  | f + 1, .tmp t =>
    match ops.find? (fun o => o.dst == some t) with
    | some o => match o.op with
      | .indexAddr .. => true
      | .fieldAddr _ x _ => rooted ops f x
      | .nilCheck x => rooted ops f x
      | _ => false
    | none => false
  | _, _ => false
def ROp.kindT (P : Program) (ops : Array Oper) (oo : Oper) : ROp → Kind
  | .load a s x => if rooted ops 10 x then .pure else .read
  | o => o.kindIn P ops oo
def resRegionT (P : Program) (n : Nat) (ops : Array Oper) (draw : Bool) : Option RTree :=
  if dstsOk n ops && draw then
    match (ops.toList.mapM fun o => (resOp P o).map (ROp.kindT P ops o)) with
    | none => none
    | some ks =>
      let cl := (List.range ops.size).map (clsAt ops ks)
      let t := otMake ops cl ops.size (Array.replicate ops.size false)
      if P.follows .mixedOrders && decide (t.depth ≤ ops.size) && otOk ops (fun i => cl.getD i .act) t (Array.replicate ops.size false) true then resTree P ops (fun i => cl.getD i .act) t else none
  else none
def resRegionF (P : Program) (n : Nat) (ops : Array Oper) (draw : Bool) : Option RTree :=
  if dstsOk n ops && draw then
    match (ops.toList.mapM fun o => (resOp P o).map (ROp.kindT P ops o)) with
    | none => none
    | some ks =>
      let cl := ks.map fun k => match k with | .pure => Cls.pure | .read => .read | _ => .act
      let t := otMake ops cl ops.size (Array.replicate ops.size false)
      if P.follows .mixedOrders && decide (t.depth ≤ ops.size) && otOk ops (fun i => cl.getD i .act) t (Array.replicate ops.size false) true then resTree P ops (fun i => cl.getD i .act) t else none
  else none
theorem aStep_of_chain {P : Program} {ops : Array Oper} {cls : Nat → Cls} {k : Nat} {i : RItem} {K : AEnv → AHeap → Prop} {E : AEnv} {h : AHeap} (hi : resItem P ops cls k = some i) (hc : RChain P [i] E h K) : aStep P ops cls k K E h :=
  aord_of_chain (K := K) [k] [i] E h (by simp [hi]) hc
theorem aordT_of_tree {P : Program} {ops : Array Oper} {cls : Nat → Cls} {K : AEnv → AHeap → Prop} : ∀ (t : OT) (x : RTree) (E : AEnv) (h : AHeap), resTree P ops cls t = some x → RTreeS P K x E h → AOrdT P ops cls K t E h
  | .done, x, E, h, hr, H => by simp [resTree] at hr; subst hr; exact H
  | .stop, x, E, h, hr, H => trivial
  | .step k t, x, E, h, hr, H => by
    simp only [resTree] at hr
    split at hr
    · rename_i i y h1 h2
      cases hr
      exact aStep_mono (fun E' h' g => aordT_of_tree t y E' h' h2 g) (aStep_of_chain h1 H)
    · cases hr
  | .alt k t r, x, E, h, hr, H => by
    simp only [resTree] at hr
    split at hr
    · rename_i i y z h1 h2 h3
      cases hr
      exact ⟨aStep_mono (fun E' h' g => aordT_of_tree t y E' h' h2 g) (aStep_of_chain h1 H.1), aordT_of_tree r z E h h3 H.2⟩
    · cases hr
theorem wp_region_resT {ro : Option Nat} {P : Program} {n id : Nat} {ds : List Deferred} {ops : Array Oper} {draw : Bool} {x : RTree} (hr : resRegionT P n ops draw = some x) {K : AEnv → AHeap → Prop} {E : AEnv} {h : AHeap} {a : Act} {w : World}
    (hs : St n ds E h a w) (H : RTreeS P K x E h) : (Code.region id ops draw).wpIn (wideR ro) 0 P (After n ds K h w) a w := by
  unfold resRegionT at hr
  split at hr
  case isFalse => cases hr
  rename_i hd
  simp only [Bool.and_eq_true] at hd
  obtain ⟨hd, rfl⟩ := hd
  have hdst := dstsOk_spec hd
  split at hr
  · cases hr
  · dsimp only at hr
    split at hr
    · rename_i hb
      simp only [Bool.and_eq_true, decide_eq_true_eq] at hb
      obtain ⟨⟨h1, h2⟩, h3⟩ := hb
      exact wp_region_tree h1 h2 h3 hdst hs (aordT_of_tree _ _ _ _ hr H)
    · cases hr
theorem wp_region_resF {ro : Option Nat} {P : Program} {n id : Nat} {ds : List Deferred} {ops : Array Oper} {draw : Bool} {x : RTree} (hr : resRegionF P n ops draw = some x) {K : AEnv → AHeap → Prop} {E : AEnv} {h : AHeap} {a : Act} {w : World}
    (hs : St n ds E h a w) (H : RTreeS P K x E h) : (Code.region id ops draw).wpIn (wideR ro) 0 P (After n ds K h w) a w := by
  unfold resRegionF at hr
  split at hr
  case isFalse => cases hr
  rename_i hd
  simp only [Bool.and_eq_true] at hd
  obtain ⟨hd, rfl⟩ := hd
  have hdst := dstsOk_spec hd
  split at hr
  · cases hr
  · dsimp only at hr
    split at hr
    · rename_i hb
      simp only [Bool.and_eq_true, decide_eq_true_eq] at hb
      obtain ⟨⟨h1, h2⟩, h3⟩ := hb
      exact wp_region_tree h1 h2 h3 hdst hs (aordT_of_tree _ _ _ _ hr H)
    · cases hr
inductive RCode where
  | skip
  | region (items : List RItem)
  | regionT (t : RTree)
  | seq (a b : RCode)
  | cond (c : Operand) (thn els : RCode)
  | block (id : Nat) (body : RCode)
  | loop (body : RCode)
  | exit (id : Nat)
  | ret
  | rangeFunc (g : Operand) (ps : Array Tmp) (assign body : RCode)
  deriving Inhabited
inductive RT where
  | code (c : RCode)
  | inBlock (id : Nat)
  | inLoop (c : RCode)
  | begin
  deriving Inhabited
def resReg (P : Program) (n : Nat) (md : Bool) (ops : Array Oper) (d : Bool) : Option RCode :=
  if md then (resRegionF P n ops d).map .regionT else
  match resRegion P n ops d with
  | some items => some (.region items)
  | none => (resRegionT P n ops d).map .regionT
theorem resReg_cases {P : Program} {n : Nat} {md : Bool} {ops : Array Oper} {d : Bool} {c : RCode} (h : resReg P n md ops d = some c) : (∃ items, c = .region items ∧ resRegion P n ops d = some items) ∨ ∃ t, c = .regionT t ∧ (resRegionT P n ops d = some t ∨ resRegionF P n ops d = some t) := by
  unfold resReg at h
  split at h
  · rw [Option.map_eq_some_iff] at h
    obtain ⟨t, h1, h2⟩ := h
    exact .inr ⟨t, h2.symm, .inr h1⟩
  · split at h
    · rename_i items hi; cases h; exact .inl ⟨items, rfl, hi⟩
    · rw [Option.map_eq_some_iff] at h
      obtain ⟨t, h1, h2⟩ := h
      exact .inr ⟨t, h2.symm, .inl h1⟩
def resCodeM (P : Program) (n : Nat) (md : Nat → Bool) : Code → Option RCode
  | .skip => some .skip
  | .region id ops d => resReg P n (md id) ops d
  | .seq a b => match resCodeM P n md a, resCodeM P n md b with | some x, some y => some (.seq x y) | _, _ => none
  | .cond c a b => match resCodeM P n md a, resCodeM P n md b with | some x, some y => some (.cond c x y) | _, _ => none
  | .block id c => (resCodeM P n md c).map (.block id)
  | .loop c => (resCodeM P n md c).map .loop
  | .exit id => some (.exit id)
  | .ret => some .ret
  | .label _ => some .skip
  | .scope c => resCodeM P n md c
  | .rangeFunc g ps a b => match resCodeM P n md a, resCodeM P n md b with | some x, some y => some (.rangeFunc g ps x y) | _, _ => none
  | _ => none
abbrev resCode (P : Program) (n : Nat) (c : Code) : Option RCode := resCodeM P n (fun _ => false) c
def resT (P : Program) (n : Nat) (md : Nat → Bool) : Item → Option RT
  | .code c => (resCodeM P n md c).map .code
  | .inBlock id => some (.inBlock id)
  | .inLoop c => (resCodeM P n md c).map .inLoop
  | .beginRound => some .begin
  | _ => none
inductive ResTodo (P : Program) (n : Nat) : List Item → List RT → Prop
  | nil : ResTodo P n [] []
  | cons {md : Nat → Bool} {i : Item} {r : RT} {k : List Item} {rk : List RT} : resT P n md i = some r → ResTodo P n k rk → ResTodo P n (i :: k) (r :: rk)
  | scope {c : Code} {k : List Item} {rk : List RT} : ResTodo P n k rk → ResTodo P n (.inScope c :: k) rk
def Leaves : Option Code → List Item → Prop
  | none, todo => todo = []
  | some .ret, todo => ∃ k, todo = .code .ret :: k
  | some (.exit id), todo => ∃ k, todo = .code (.exit id) :: k ∧ exitTo id k = none
  | _, _ => False
def mark (r : Nat) : Deferred := { target := .collected r, args := #[] }
def Marks (ms : List Nat) (k : Nat) (h : AHeap) (w : World) : Prop := ms.Nodup ∧ ∀ r ∈ ms, k ≤ r ∧ r < w.heap.size ∧ h r = none ∧ w.heap[r]? = some (.deferred (some []))
theorem Marks.nil (k : Nat) (h : AHeap) (w : World) : Marks [] k h w := ⟨.nil, fun _ hr => by cases hr⟩
theorem Marks.evol {ms : List Nat} {k : Nat} {h h' : AHeap} {w w' : World} (hm : Marks ms k h w) (he : Evol h w h' w') : Marks ms k h' w' :=
  ⟨hm.1, fun r hr => let ⟨h1, h2, h3, h4⟩ := hm.2 r hr; let ⟨h5, h6⟩ := he.free r h2 h3; ⟨h1, Nat.lt_of_lt_of_le h2 he.size, h5, h6.trans h4⟩⟩
theorem Marks.le {ms : List Nat} {k k' : Nat} {h : AHeap} {w : World} (hm : Marks ms k h w) (hk : k' ≤ k) : Marks ms k' h w :=
  ⟨hm.1, fun r hr => let ⟨h1, h2⟩ := hm.2 r hr; ⟨Nat.le_trans hk h1, h2⟩⟩
theorem Marks.append {ms ms' : List Nat} {k k' : Nat} {h : AHeap} {w : World} (hm : Marks ms k h w) (hm' : Marks ms' k' h w) (hlt : ∀ r ∈ ms, r < k') (hk : k ≤ k') : Marks (ms' ++ ms) k h w :=
  ⟨List.nodup_append.2 ⟨hm'.1, hm.1, fun a ha b hb e => by have h1 := (hm'.2 a ha).1; have h2 := hlt b hb; omega⟩, fun r hr => (List.mem_append.1 hr).elim (fun hr => (hm'.le hk).2 r hr) (fun hr => hm.2 r hr)⟩
def ARunG (P : Program) (ro : Option Nat) (n : Nat) (todo : List Item) (E : AEnv) (h : AHeap) (J : Option Code → AEnv → AHeap → Prop) : Prop :=
  ∀ ds a w, St n ds E h a w → ∀ (b : Frame) (cs : List Frame), b.roundOf = ro → ∃ a' w' todo' j E' h' ms, Steps P (lone (b.atR a todo) cs w) (lone (b.atR a' todo') cs w') ∧ Leaves j todo' ∧ J j E' h' ∧ St n (ms.map mark ++ ds) E' h' a' w' ∧ Evol h w h' w' ∧ Marks ms w.heap.size h' w'
def RRunG (P : Program) (ro : Option Nat) (n : Nat) (rt : List RT) (E : AEnv) (h : AHeap) (J : Option Code → AEnv → AHeap → Prop) : Prop := ∀ todo, ResTodo P n todo rt → ARunG P ro n todo E h J
section
variable {P : Program} {ro : Option Nat} {n : Nat} {E : AEnv} {h : AHeap} {Q : Option Code → AEnv → AHeap → Prop} {md : Nat → Bool}
theorem ARunG.step {todo todo' : List Item} (hst : ∀ ds (b : Frame) a cs w, St n ds E h a w → Steps P (lone (b.atR a todo) cs w) (lone (b.atR a todo') cs w)) (H : ARunG P ro n todo' E h Q) : ARunG P ro n todo E h Q := by
  intro ds a w hs b cs hb
  obtain ⟨a', w', t', j, E', h', ms, s, rest⟩ := H ds a w hs b cs hb
  exact ⟨a', w', t', j, E', h', ms, (hst ds b a cs w hs).trans s, rest⟩
theorem ARunG.scope {c : Code} {k : List Item} (H : ARunG P ro n k E h Q) : ARunG P ro n (.inScope c :: k) E h Q :=
  H.step fun _ b a cs w _ => .one (step_lone_go (by simp [stepG, stepG.exec, Frame.atR]))
theorem RRun.of_head {r : RT} {rk : List RT} (H : ∀ md i k, resT P n md i = some r → ResTodo P n k rk → ARunG P ro n (i :: k) E h Q) : RRunG P ro n (r :: rk) E h Q := by
  intro todo ht
  generalize hl : r :: rk = l at ht
  induction ht with
  | nil => cases hl
  | cons hi hk ih => cases hl; exact H _ _ _ hi hk
  | scope hk ih => exact (ih hl).scope
theorem RRun.code {c : RCode} {rk : List RT} (H : ∀ md cc k, resCodeM P n md cc = some c → (∀ b, cc ≠ .scope b) → ResTodo P n k rk → ARunG P ro n (.code cc :: k) E h Q) : RRunG P ro n (.code c :: rk) E h Q := by
  refine RRun.of_head fun md i k hi hk => ?_
  cases i <;> simp [resT] at hi
  rename_i cc
  induction cc generalizing k with
  | scope b ih =>
    refine ARunG.step (todo' := .code b :: .inScope b :: k) (fun _ b' a cs w _ => .one (step_lone_go (by simp [stepG, stepG.exec, Frame.atR]))) ?_
    exact ih (.inScope b :: k) (.scope hk) (by simpa [resCodeM] using hi)
  | _ => exact H _ _ _ hi (fun b => by simp) hk
theorem resCode_seq {cc : Code} {x y : RCode} (hs : ∀ b, cc ≠ .scope b) (h : resCodeM P n md cc = some (.seq x y)) : ∃ a b, cc = .seq a b ∧ resCodeM P n md a = some x ∧ resCodeM P n md b = some y := by
  cases cc <;> simp [resCodeM] at h
  case region => rcases resReg_cases h with ⟨_, h', _⟩ | ⟨_, h', _⟩ <;> cases h'
  case seq a b => split at h <;> simp at h; rename_i h1 h2; exact ⟨a, b, rfl, by rw [h1, h.1], by rw [h2, h.2]⟩
  case rangeFunc => split at h <;> simp at h
  case cond => split at h <;> simp at h
  case scope b => exact absurd rfl (hs b)
theorem resCode_cond {cc : Code} {c : Operand} {x y : RCode} (hs : ∀ b, cc ≠ .scope b) (h : resCodeM P n md cc = some (.cond c x y)) : ∃ a b, cc = .cond c a b ∧ resCodeM P n md a = some x ∧ resCodeM P n md b = some y := by
  cases cc <;> simp [resCodeM] at h
  case region => rcases resReg_cases h with ⟨_, h', _⟩ | ⟨_, h', _⟩ <;> cases h'
  case seq a b => split at h <;> simp at h
  case rangeFunc => split at h <;> simp at h
  case cond c' a b => split at h <;> simp at h; rename_i h1 h2; exact ⟨a, b, by rw [h.1], by rw [h1, h.2.1], by rw [h2, h.2.2]⟩
  case scope b => exact absurd rfl (hs b)
theorem resCode_region {cc : Code} {items : List RItem} (hs : ∀ b, cc ≠ .scope b) (h : resCodeM P n md cc = some (.region items)) : ∃ id ops d, cc = .region id ops d ∧ resRegion P n ops d = some items := by
  cases cc <;> simp [resCodeM] at h
  case region id ops d => rcases resReg_cases h with ⟨_, h', h2⟩ | ⟨_, h', _⟩ <;> cases h'; exact ⟨id, ops, d, rfl, h2⟩
  case seq a b => split at h <;> simp at h
  case rangeFunc => split at h <;> simp at h
  case cond => split at h <;> simp at h
  case scope b => exact absurd rfl (hs b)
theorem resCode_regionT {cc : Code} {t : RTree} (hs : ∀ b, cc ≠ .scope b) (h : resCodeM P n md cc = some (.regionT t)) : ∃ id ops d, cc = .region id ops d ∧ (resRegionT P n ops d = some t ∨ resRegionF P n ops d = some t) := by
  cases cc <;> simp [resCodeM] at h
  case region id ops d => rcases resReg_cases h with ⟨_, h', _⟩ | ⟨_, h', h2⟩ <;> cases h'; exact ⟨id, ops, d, rfl, h2⟩
  case seq a b => split at h <;> simp at h
  case rangeFunc => split at h <;> simp at h
  case cond => split at h <;> simp at h
  case scope b => exact absurd rfl (hs b)
theorem resCode_block {cc : Code} {id : Nat} {x : RCode} (hs : ∀ b, cc ≠ .scope b) (h : resCodeM P n md cc = some (.block id x)) : ∃ a, cc = .block id a ∧ resCodeM P n md a = some x := by
  cases cc <;> simp [resCodeM] at h
  case region => rcases resReg_cases h with ⟨_, h', _⟩ | ⟨_, h', _⟩ <;> cases h'
  case seq a b => split at h <;> simp at h
  case rangeFunc => split at h <;> simp at h
  case cond => split at h <;> simp at h
  case block id' a => exact ⟨a, by rw [h.2], h.1⟩
  case scope b => exact absurd rfl (hs b)
theorem resCode_loop {cc : Code} {x : RCode} (hs : ∀ b, cc ≠ .scope b) (h : resCodeM P n md cc = some (.loop x)) : ∃ a, cc = .loop a ∧ resCodeM P n md a = some x := by
  cases cc <;> simp [resCodeM] at h
  case region => rcases resReg_cases h with ⟨_, h', _⟩ | ⟨_, h', _⟩ <;> cases h'
  case seq a b => split at h <;> simp at h
  case rangeFunc => split at h <;> simp at h
  case cond => split at h <;> simp at h
  case loop a => exact ⟨a, rfl, h⟩
  case scope b => exact absurd rfl (hs b)
theorem resCode_exit {cc : Code} {id : Nat} (hs : ∀ b, cc ≠ .scope b) (h : resCodeM P n md cc = some (.exit id)) : cc = .exit id := by
  cases cc <;> simp [resCodeM] at h
  case region => rcases resReg_cases h with ⟨_, h', _⟩ | ⟨_, h', _⟩ <;> cases h'
  case seq a b => split at h <;> simp at h
  case rangeFunc => split at h <;> simp at h
  case cond => split at h <;> simp at h
  case exit id' => rw [h]
  case scope b => exact absurd rfl (hs b)
theorem resCode_ret {cc : Code} (hs : ∀ b, cc ≠ .scope b) (h : resCodeM P n md cc = some .ret) : cc = .ret := by
  cases cc <;> simp [resCodeM] at h
  case region => rcases resReg_cases h with ⟨_, h', _⟩ | ⟨_, h', _⟩ <;> cases h'
  case seq a b => split at h <;> simp at h
  case rangeFunc => split at h <;> simp at h
  case cond => split at h <;> simp at h
  case ret => rfl
  case scope b => exact absurd rfl (hs b)
theorem resCode_skip {cc : Code} (hs : ∀ b, cc ≠ .scope b) (h : resCodeM P n md cc = some .skip) : cc = .skip ∨ ∃ l, cc = .label l := by
  cases cc <;> simp [resCodeM] at h
  case region => rcases resReg_cases h with ⟨_, h', _⟩ | ⟨_, h', _⟩ <;> cases h'
  case skip => exact .inl rfl
  case label l => exact .inr ⟨l, rfl⟩
  case seq a b => split at h <;> simp at h
  case rangeFunc => split at h <;> simp at h
  case cond => split at h <;> simp at h
  case scope b => exact absurd rfl (hs b)
theorem RRun.skip {k : List RT} (H : RRunG P ro n k E h Q) : RRunG P ro n (.code .skip :: k) E h Q :=
  RRun.code fun md cc k' hc hs hk => by
    rcases resCode_skip hs hc with rfl | ⟨l, rfl⟩
    · exact (H k' hk).step fun _ b a cs w _ => .one stepR_skip
    · exact (H k' hk).step fun _ b a cs w _ => .one stepR_label
theorem RRun.seq {x y : RCode} {k : List RT} (H : RRunG P ro n (.code x :: .code y :: k) E h Q) : RRunG P ro n (.code (.seq x y) :: k) E h Q :=
  RRun.code fun md cc k' hc hs hk => by
    obtain ⟨a, b, rfl, ha, hb⟩ := resCode_seq hs hc
    exact (H _ (.cons (md := md) (by simp [resT, ha]) (.cons (md := md) (by simp [resT, hb]) hk))).step fun _ b a cs w _ => .one stepR_seq
theorem RRun.cond {c : Operand} {x y : RCode} {k : List RT} {t : Bool} (hc : aev E c = some (.v (.bool t))) (H : RRunG P ro n (.code (if t then x else y) :: k) E h Q) : RRunG P ro n (.code (.cond c x y) :: k) E h Q :=
  RRun.code fun md cc k' hcc hs hk => by
    obtain ⟨a, b, rfl, ha, hb⟩ := resCode_cond hs hcc
    refine ARunG.step (fun _ b' ac cs w hst => .one (stepR_cond (t := t) ?_)) (H (.code (if t then a else b) :: k') (.cons (md := md) (by cases t <;> simp [resT, ha, hb]) hk))
    have := aev_rel hst.env hc
    generalize ac.eval c = u at this
    cases this
    rfl
theorem RRun.block {id : Nat} {x : RCode} {k : List RT} (H : RRunG P ro n (.code x :: .inBlock id :: k) E h Q) : RRunG P ro n (.code (.block id x) :: k) E h Q :=
  RRun.code fun md cc k' hc hs hk => by
    obtain ⟨a, rfl, ha⟩ := resCode_block hs hc
    exact (H _ (.cons (md := md) (by simp [resT, ha]) (.cons (md := md) (by simp [resT]) hk))).step fun _ b a cs w _ => .one stepR_block
theorem RRun.loop {x : RCode} {k : List RT} (H : RRunG P ro n (.code x :: .inLoop x :: k) E h Q) : RRunG P ro n (.code (.loop x) :: k) E h Q :=
  RRun.code fun md cc k' hc hs hk => by
    obtain ⟨a, rfl, ha⟩ := resCode_loop hs hc
    exact (H _ (.cons (md := md) (by simp [resT, ha]) (.cons (md := md) (by simp [resT, ha]) hk))).step fun _ b a cs w _ => .one stepR_loop
theorem RRun.inLoop {x : RCode} {k : List RT} (H : RRunG P ro n (.code x :: .inLoop x :: k) E h Q) : RRunG P ro n (.inLoop x :: k) E h Q :=
  RRun.of_head fun md i k' hi hk => by
    cases i <;> simp [resT] at hi
    rename_i cc
    exact (H _ (.cons (md := md) (by simp [resT, hi]) (.cons (md := md) (by simp [resT, hi]) hk))).step fun _ b a cs w _ => .one stepR_inLoop
theorem RRun.inBlock {id : Nat} {k : List RT} (H : RRunG P ro n k E h Q) : RRunG P ro n (.inBlock id :: k) E h Q :=
  RRun.of_head fun md i k' hi hk => by
    cases i <;> simp [resT] at hi
    exact (H k' hk).step fun _ b a cs w _ => .one stepR_inBlock
def rExit (id : Nat) : List RT → Option (List RT)
  | .inBlock id' :: k => if id' == id then some k else rExit id k
  | _ :: k => rExit id k
  | [] => none
theorem exitTo_res {id : Nat} {todo : List Item} {rt k : List RT} (ht : ResTodo P n todo rt) (hx : rExit id rt = some k) : ∃ k', exitTo id todo = some k' ∧ ResTodo P n k' k := by
  induction ht with
  | nil => simp [rExit] at hx
  | cons hi hk ih =>
    rename_i i r kk rkk
    cases i <;> simp [resT] at hi
    case code cc => obtain ⟨x, _, rfl⟩ := hi; simp only [rExit] at hx; exact ih hx
    case inBlock id' =>
      subst hi
      simp only [rExit] at hx
      simp only [exitTo]
      split at hx
      · rename_i he; simp only [Option.some.injEq] at hx; subst hx; simp only [he, if_true]; exact ⟨_, rfl, hk⟩
      · rename_i he; simp only [he]; exact ih hx
    case inLoop cc => obtain ⟨x, _, rfl⟩ := hi; simp only [rExit] at hx; exact ih hx
    case beginRound => subst hi; simp only [rExit] at hx; exact ih hx
  | scope hk ih => obtain ⟨k', h1, h2⟩ := ih hx; exact ⟨k', by simpa [exitTo] using h1, h2⟩
theorem RRun.exit {id : Nat} {k k' : List RT} (hx : rExit id k = some k') (H : RRunG P ro n k' E h Q) : RRunG P ro n (.code (.exit id) :: k) E h Q :=
  RRun.code fun md cc kk hc hs hk => by
    obtain rfl := resCode_exit hs hc
    obtain ⟨k2, h1, h2⟩ := exitTo_res hk hx
    exact (H k2 h2).step fun _ b a cs w _ => .one (stepR_exit h1)
theorem RRun.region {items : List RItem} {k : List RT} (H : RChain P items E h (fun E' h' => RRunG P ro n k E' h' Q)) : RRunG P ro n (.code (.region items) :: k) E h Q :=
  RRun.code fun md cc k' hc hs hk => by
    obtain ⟨id, ops, d, rfl, hr⟩ := resCode_region hs hc
    intro ds a w hst b cs hb
    obtain ⟨e, a1, w1, ⟨rfl, E1, h1, hk1, hs1, he1⟩, harr⟩ := wp_region_res (ro := ro) (id := id) hr hst H b k' cs hb trivial (fun _ hd => by cases hd)
    obtain ⟨a', w', t', j, E', h', ms, s, r1, r2, r3, r4, r5⟩ := hk1 k' hk ds a1 w1 hs1 b cs hb
    exact ⟨a', w', t', j, E', h', ms, Steps.trans (StepsIn.steps harr) s, r1, r2, r3, he1.trans r4, r5.le he1.size⟩
theorem RRun.regionT {t : RTree} {k : List RT} (H : RTreeS P (fun E' h' => RRunG P ro n k E' h' Q) t E h) : RRunG P ro n (.code (.regionT t) :: k) E h Q :=
  RRun.code fun md cc k' hc hs hk => by
    obtain ⟨id, ops, d, rfl, hr⟩ := resCode_regionT hs hc
    intro ds a w hst b cs hb
    obtain ⟨e, a1, w1, ⟨rfl, E1, h1, hk1, hs1, he1⟩, harr⟩ := (hr.elim (fun hr => wp_region_resT (ro := ro) (id := id) hr hst H) (fun hr => wp_region_resF (ro := ro) (id := id) hr hst H)) b k' cs hb trivial (fun _ hd => by cases hd)
    obtain ⟨a', w', t', j, E', h', ms, s, r1, r2, r3, r4, r5⟩ := hk1 k' hk ds a1 w1 hs1 b cs hb
    exact ⟨a', w', t', j, E', h', ms, Steps.trans (StepsIn.steps harr) s, r1, r2, r3, he1.trans r4, r5.le he1.size⟩
theorem resCode_rangeFunc {cc : Code} {g : Operand} {ps : Array Tmp} {x y : RCode} (hs : ∀ b, cc ≠ .scope b) (h : resCodeM P n md cc = some (.rangeFunc g ps x y)) : ∃ a b, cc = .rangeFunc g ps a b ∧ resCodeM P n md a = some x ∧ resCodeM P n md b = some y := by
  cases cc <;> simp [resCodeM] at h
  case region => rcases resReg_cases h with ⟨_, h', _⟩ | ⟨_, h', _⟩ <;> cases h'
  case seq a b => split at h <;> simp at h
  case cond => split at h <;> simp at h
  case rangeFunc g' ps' a b => split at h <;> simp at h; rename_i h1 h2; obtain ⟨rfl, rfl, h3, h4⟩ := h; exact ⟨a, b, rfl, by rw [h1, h3], by rw [h2, h4]⟩
  case scope b => exact absurd rfl (hs b)
theorem exitTo_none {id : Nat} {todo : List Item} {rt : List RT} (ht : ResTodo P n todo rt) (hx : rExit id rt = none) : exitTo id todo = none := by
  induction ht with
  | nil => rfl
  | cons hi hk ih =>
    rename_i md i r kk rkk
    cases i <;> simp [resT] at hi
    case code cc => obtain ⟨x, _, rfl⟩ := hi; simp only [rExit] at hx; exact ih hx
    case inBlock id' =>
      subst hi
      simp only [rExit] at hx
      simp only [exitTo]
      split at hx
      · cases hx
      · rename_i he; simp only [he]; exact ih hx
    case inLoop cc => obtain ⟨x, _, rfl⟩ := hi; simp only [rExit] at hx; exact ih hx
    case beginRound => subst hi; simp only [rExit] at hx; exact ih hx
  | scope hk ih => simpa [exitTo] using ih hx
theorem RRunG.exit {id : Nat} {k : List RT} (hx : rExit id k = none) (H : Q (some (.exit id)) E h) : RRunG P ro n (.code (.exit id) :: k) E h Q :=
  RRun.code fun md cc kk hc hs hk => by
    obtain rfl := resCode_exit hs hc
    intro ds a w hst b cs hb
    exact ⟨a, w, _, some (.exit id), E, h, [], .refl P _, ⟨kk, rfl, exitTo_none hk hx⟩, H, hst, .refl h w, .nil _ _ _⟩
theorem RRunG.ret {k : List RT} (H : Q (some .ret) E h) : RRunG P ro n (.code .ret :: k) E h Q :=
  RRun.code fun md cc kk hc hs hk => by
    obtain rfl := resCode_ret hs hc
    intro ds a w hst b cs hb
    exact ⟨a, w, _, some .ret, E, h, [], .refl P _, ⟨kk, rfl⟩, H, hst, .refl h w, .nil _ _ _⟩
theorem RRunG.done (H : Q none E h) : RRunG P ro n [] E h Q := by
  intro todo ht
  generalize hl : ([] : List RT) = l at ht
  induction ht with
  | nil => exact fun ds a w hst b cs hb => ⟨a, w, _, none, E, h, [], .refl P _, rfl, H, hst, .refl h w, .nil _ _ _⟩
  | cons hi hk ih => cases hl
  | scope hk ih => exact (ih hl).scope
end
inductive RRes where
  | tmp (t : Tmp)
  | cell (t : Tmp) (agg : Bool) (sz : Nat)
  deriving Inhabited
def resRes (P : Program) : List ResultVar → Option (List RRes)
  | [] => some []
  | .tmp t :: r => (resRes P r).map (.tmp t :: ·)
  | .cell t ty :: r => match aggOf P ty, szOf P ty, resRes P r with | some a, some s, some l => some (.cell t a s :: l) | _, _, _ => none
def resAV (E : AEnv) (h : AHeap) : RRes → Option AV
  | .tmp t => E t
  | .cell t agg sz =>
    match E t with
    | some (.v (.pointer (some ⟨b, off, none⟩))) =>
      match h b with
      | some (.box cs) => if agg then (if off + sz ≤ cs.length then some (.ag ((cs.drop off).take sz)) else none) else cs[off]?
      | _ => none
    | _ => none
def resAVs (E : AEnv) (h : AHeap) : List RRes → Option (List AV)
  | [] => some []
  | r :: rs => match resAV E h r, resAVs E h rs with | some x, some l => some (x :: l) | _, _ => none
def packAV : List AV → AV
  | [x] => x
  | l => .tu l
def FRes (P : Program) (fn : Func) (Q : AV → AHeap → Prop) (j : Option Code) (E : AEnv) (h : AHeap) : Prop :=
  (j = none ∨ j = some .ret) ∧ ∃ rs xs, resRes P fn.results.toList = some rs ∧ resAVs E h rs = some xs ∧ Q (packAV xs) h
abbrev RRun (P : Program) (fn : Func) (n : Nat) (rt : List RT) (E : AEnv) (h : AHeap) (Q : AV → AHeap → Prop) : Prop := RRunG P none n rt E h (FRes P fn Q)
theorem RRun.ret {P : Program} {fn : Func} {n : Nat} {E : AEnv} {h : AHeap} {Q : AV → AHeap → Prop} {rs : List RRes} (hrs : resRes P fn.results.toList = some rs) {xs : List AV} (hx : resAVs E h rs = some xs) (hq : Q (packAV xs) h) {k : List RT} : RRun P fn n (.code .ret :: k) E h Q :=
  RRunG.ret ⟨.inr rfl, rs, xs, hrs, hx, hq⟩
theorem RRun.done {P : Program} {fn : Func} {n : Nat} {E : AEnv} {h : AHeap} {Q : AV → AHeap → Prop} {rs : List RRes} (hrs : resRes P fn.results.toList = some rs) {xs : List AV} (hx : resAVs E h rs = some xs) (hq : Q (packAV xs) h) : RRun P fn n [] E h Q :=
  RRunG.done ⟨.inl rfl, rs, xs, hrs, hx, hq⟩
def ACalls (P : Program) (f : FuncId) (args : List AV) (h : AHeap) (K : AV → AHeap → Prop) : Prop :=
  ∀ vs w, VRels (stab h w) args vs → Rel h w → Calls P f vs.toArray w (fun e w' => ∃ u x h', e = .returned u ∧ K x h' ∧ VRel (stab h' w') x u ∧ Rel h' w' ∧ Evol h w h' w')
theorem ACalls.mono {P : Program} {f : FuncId} {args : List AV} {h : AHeap} {K K' : AV → AHeap → Prop} (hc : ACalls P f args h K) (hk : ∀ x h', K x h' → K' x h') : ACalls P f args h K' :=
  fun vs w h1 h2 => (hc vs w h1 h2).mono fun e w' ⟨u, x, h', e1, e2, e3⟩ => ⟨u, x, h', e1, hk _ _ e2, e3⟩
def envOf (args : List AV) : AEnv := fun t => args[t]?
end Go.Av
