/- An abstract evaluator of the model's code: deep values in the place of memory, no tape, no addresses. Definitions alone; what it says of a run is shown in the texts behind this one. -/
import GoSem.Dispatch
import Derived.Calls
import Derived.Still
set_option linter.unusedVariables false
set_option linter.unusedSimpArgs false
namespace Go.AE

/-- Abstract values. 'dead': nothing is known. 'rptr t v': a pointer to memory that is never written again and holds v. 'slice e l x': a slice that reads as l and is never written (x: its capacity is its length). 'msl': a slice of a row that may be written. 'agg t ps': a struct or an array of type t, part by part. -/
inductive AV where
  | dead
  | bool (b : Bool)
  | int (k : IntKind) (n : Int)
  | str (s : List UInt8)
  | nilp
  | ptr (r : Nat) (path : List Nat) (t : TypeId) (off : Nat)
  | rptr (t : TypeId) (v : AV)
  | slice (e : TypeId) (l : List AV) (x : Bool)
  | msl (r : Nat) (path : List Nat) (e : TypeId) (off coff len : Nat)
  | mapv (r : Option Nat)
  | func (fn : Fn) (first captured : List AV)
  | nilf
  | iface (t : TypeId) (v : AV)
  | nili
  | agg (t : TypeId) (parts : List AV)
  | tuple (vs : List AV)
  deriving Inhabited

/-- Memory that may be written: a variable, the array of a slice that was made, a map. -/
inductive Row where
  | var (t : TypeId) (v : AV)
  | arr (e : TypeId) (l : List AV)
  | map (k e : TypeId) (es : List (AV × AV))
  deriving Inhabited

/-- What is known of a temporary that holds a slice: it alone may append in place; or it is what another temporary, or a row's part, holds that may. -/
inductive TF where
  | own
  | viaT (s : Nat)
  | viaR (r : Nat) (path : List Nat)
  deriving Inhabited

structure Fr where
  tmps : List AV
  tf : List (Nat × TF)
structure Mm where
  rows : List Row
  ro : List (Nat × List Nat)

inductive AX where
  | normal
  | exit (id : Nat)
  | ret
  | panic (v : AV)
inductive Res where
  | ret (v : AV)
  | pan (v : AV)

/-- How a loop ends, where that is known. -/
inductive LT where
  | done (e : AX) (fr : Fr) (M : Mm)
  | br (b : Bool) (x y : LT)
  | fail
def LT.go {R : Type} : LT → (AX → Fr → Mm → Option R) → Option R
  | .done e fr M, K => K e fr M
  | .br b x y, K => cond b (x.go K) (y.go K)
  | .fail, _ => none
structure Ctx where
  P : Program
  /-- rounds that a loop may have -/
  n : Nat
  /-- what a function returns, where it is known: whether it does, and what -/
  spec : FuncId → List AV → Option (Bool × AV)
  /-- functions whose appends make rows that may be written -/
  muta : FuncId → Bool
  /-- the temporaries that are kept from round to round of a loop, and those that are kept behind it, where the others are to be forgotten; a loop is named by its first region -/
  kept : FuncId → Nat → Option (List Nat × List Nat) := fun _ _ => none
  /-- how a loop ends, where it is known; first: how many calls may still be nested in it -/
  ends : Nat → FuncId → Nat → Fr → Mm → Option LT := fun _ _ _ _ _ => none

/-! ### types -/
def tyA (P : Program) (t : TypeId) : Bool :=
  match P.underlying t with
  | some (.struct _) | some (.array _ _) => true
  | _ => false
def AV.isA : AV → Bool
  | .agg _ _ => true
  | _ => false
def uid (P : Program) (t : TypeId) : TypeId :=
  match P.info? t with
  | some { desc := .named _ u, .. } => u
  | _ => t
/-- Two types of one make, as far as loads and stores go. -/
def likeT (P : Program) (t u : TypeId) : Bool := Nat.beq (uid P t) (uid P u) && Nat.beq (P.cellsOf t) (P.cellsOf u)
def elemT (P : Program) (t : TypeId) : TypeId :=
  match P.underlying t with
  | some (.slice e) | some (.array _ e) | some (.pointer e) => e
  | _ => 0

/-- A leaf that a type's cell may hold. -/
def leafOK (P : Program) (t : TypeId) : AV → Bool
  | .bool _ => match P.underlying t with | some .bool => true | _ => false
  | .int k _ => match P.underlying t with | some (.int k') => k == k' | _ => false
  | .str _ => match P.underlying t with | some .string => true | _ => false
  | .slice e _ _ => match P.underlying t with | some (.slice e') => Nat.beq e e' | _ => false
  | .msl _ _ e _ _ _ => match P.underlying t with | some (.slice e') => Nat.beq e e' | _ => false
  | .nilp | .ptr .. | .rptr .. => match P.underlying t with | some (.pointer _) => true | _ => false
  | .mapv _ => match P.underlying t with | some (.map _ _) => true | _ => false
  | .func .. | .nilf => match P.underlying t with | some (.func ..) => true | _ => false
  | .iface .. | .nili => match P.underlying t with | some (.interface _) => true | _ => false
  | _ => false
/-- Does a value fit a type, by its head? -/
def fits (P : Program) (t : TypeId) (v : AV) : Bool :=
  match v with
  | .agg u _ => likeT P u t && tyA P t
  | v => leafOK P t v && !tyA P t

/-! ### constants -/
def ofLeaf (P : Program) (t : TypeId) : Value → AV
  | .bool b => .bool b
  | .int k n => .int k n
  | .string s => .str s.data.toList
  | .pointer none => .nilp
  | .slice none 0 0 => .slice (elemT P t) [] true
  | .map none => .mapv none
  | .nilFunc => .nilf
  | .nilIface => .nili
  | _ => .dead
def unflatL (rec : TypeId → List Value → Option (AV × List Value)) : List TypeId → List Value → Option (List AV × List Value)
  | [], cs => some ([], cs)
  | t :: ts, cs =>
    match rec t cs with
    | some (v, r) =>
      match unflatL rec ts r with
      | some (vs, r') => some (v :: vs, r')
      | none => none
    | none => none
def unflat (P : Program) : Nat → TypeId → List Value → Option (AV × List Value)
  | 0, _, _ => none
  | d + 1, t, cs =>
    match P.underlying t with
    | some (.struct fs) =>
      match unflatL (unflat P d) (fs.toList.map (·.type)) cs with
      | some (ps, r) => if Nat.beq cs.length (P.cellsOf t + r.length) && likeT P (uid P t) t then some (.agg (uid P t) ps, r) else none
      | none => none
    | some (.array n e) =>
      match unflatL (unflat P d) (List.replicate n e) cs with
      | some (ps, r) => if Nat.beq cs.length (P.cellsOf t + r.length) && likeT P (uid P t) t then some (.agg (uid P t) ps, r) else none
      | none => none
    | some _ =>
      match cs with
      | c :: r => let v := ofLeaf P t c; if fits P t v && Nat.beq (P.cellsOf t) 1 then some (v, r) else none
      | [] => none
    | none => none
/-- A constant at a type. -/
def ofVal (P : Program) (t : TypeId) (v : Value) : AV :=
  match v with
  | .agg cs =>
    match unflat P 20 t cs.toList with
    | some (a, []) => match a with | .agg _ _ => a | _ => .dead
    | _ => .dead
  | .tuple a => match a.toList with | [] => .tuple [] | _ => .dead
  | v => ofLeaf P t v
def zero (P : Program) (t : TypeId) : AV :=
  match P.info? t with
  | some i => match i.zero with
    | some z => ofVal P t z
    | none => .dead
  | none => .dead

/-! ### operands -/
def opnd (P : Program) (tm : List AV) (t : TypeId) : Operand → AV
  | .tmp i => tm.getD i .dead
  | .const v => ofVal P t v
  | .global _ => .dead
  | .func f => .func (.func f) [] []
def opnds (P : Program) (tm : List AV) : List TypeId → List Operand → List AV
  | ts, [] => []
  | [], x :: xs => opnd P tm 0 x :: opnds P tm [] xs
  | t :: ts, x :: xs => opnd P tm t x :: opnds P tm ts xs

/-! ### parts of values -/
def getP : List Nat → AV → AV
  | [], v => v
  | i :: p, .agg _ ps => getP p (ps.getD i .dead)
  | _ :: _, _ => .dead
def setP : List Nat → AV → AV → AV
  | [], new, _ => new
  | i :: p, new, .agg t ps => .agg t (ps.set i (setP p new (ps.getD i .dead)))
  | _ :: _, _, v => v
def Row.get : Row → List Nat → AV
  | .var _ v, p => getP p v
  | .arr _ l, i :: p => getP p (l.getD i .dead)
  | _, _ => .dead
def Row.put : Row → List Nat → AV → Row
  | .var t v, p, new => .var t (setP p new v)
  | .arr e l, i :: p, new => .arr e (l.set i (setP p new (l.getD i .dead)))
  | r, _, _ => r
def aggT : AV → TypeId
  | .agg t _ => t
  | _ => 0
def partsOf : AV → List AV
  | .agg _ ps => ps
  | _ => []
/-- The elements of the array at a path. -/
def Row.elems : Row → List Nat → List AV
  | .arr _ l, [] => l
  | r, p => partsOf (r.get p)
def Row.putElems : Row → List Nat → List AV → Row
  | .arr e _, [], l => .arr e l
  | r, p, l => r.put p (.agg (aggT (r.get p)) l)

/-! ### operations on values -/
def ibits (op : BinOp) (k : IntKind) (x y : Int) : Int :=
  let a := BitVec.ofInt k.bits x
  let b := BitVec.ofInt k.bits y
  match op with
  | .and => k.wrap (a &&& b).toNat
  | .or => k.wrap (a ||| b).toNat
  | .xor => k.wrap (a ^^^ b).toNat
  | _ => k.wrap (a &&& ~~~b).toNat
def intB (op : BinOp) (k : IntKind) (x y : Int) : Bool × AV :=
  match op with
  | .add => (true, .int k (k.wrap (x + y)))
  | .sub => (true, .int k (k.wrap (x - y)))
  | .mul => (true, .int k (k.wrap (x * y)))
  | .quo => (!(y == 0), .int k (k.wrap (x.tdiv y)))
  | .rem => (!(y == 0), .int k (x.tmod y))
  | .and => (true, .int k (ibits .and k x y))
  | .or => (true, .int k (ibits .or k x y))
  | .xor => (true, .int k (ibits .xor k x y))
  | .andNot => (true, .int k (ibits .andNot k x y))
  | .eql => (true, .bool (x == y))
  | .neq => (true, .bool (x != y))
  | .lss => (true, .bool (decide (x < y)))
  | .leq => (true, .bool (decide (x ≤ y)))
  | .gtr => (true, .bool (decide (y < x)))
  | .geq => (true, .bool (decide (y ≤ x)))
  | .shl => (decide (0 ≤ y), .int k (k.wrap (x * 2 ^ min y.toNat k.bits)))
  | .shr => (decide (0 ≤ y), .int k (x.fdiv (2 ^ min y.toNat k.bits)))
mutual
def eqV : AV → AV → Bool
  | .bool a, .bool b => a == b
  | .int _ a, .int _ b => a == b
  | .str a, .str b => a == b
  | .agg _ xs, .agg _ ys => eqVs xs ys
  | _, _ => false
def eqVs : List AV → List AV → Bool
  | [], [] => true
  | x :: xs, y :: ys => eqV x y && eqVs xs ys
  | _, _ => false
end
def offsGo (P : Program) : Nat → List Field → Bool
  | _, [] => true
  | o, f :: fs => Nat.beq f.offset o && offsGo P (o + P.cellsOf f.type) fs
def eqAbleL (rec : TypeId → Bool) : List Field → Bool
  | [] => true
  | f :: fs => f.name != "_" && rec f.type && eqAbleL rec fs
/-- A type whose values are compared part by part, whole numbers, bools and strings alone. -/
def eqAble (P : Program) : Nat → TypeId → Bool
  | 0, _ => false
  | d + 1, t =>
    match P.underlying t with
    | some .bool | some (.int _) | some .string => true
    | some (.struct fs) => !P.stoodInHeld t && offsGo P 0 fs.toList && eqAbleL (eqAble P d) fs.toList
    | some (.array _ e) => eqAble P d e
    | _ => false
def intMax64 : Int := 9223372036854775807
def strB (op : BinOp) (a b : List UInt8) : Option (Bool × AV) :=
  match op with
  | .add => some (decide (((a.length + b.length : Nat) : Int) ≤ intMax64), .str (a ++ b))
  | .eql => some (true, .bool (a == b))
  | .neq => some (true, .bool (!(a == b)))
  | _ => none
def neg (op : BinOp) (b : Bool) : Option (Bool × AV) :=
  match op with
  | .eql => some (true, .bool b)
  | .neq => some (true, .bool (!b))
  | _ => none
/-! The constant nil of a slice; of a map. -/
def isNilS : Operand → Bool
  | .const (.slice none 0 0) => true
  | _ => false
def isNilM : Operand → Bool
  | .const (.map none) => true
  | _ => false
/-- A comparison with nil: of a slice that has something, or a map. -/
def nilCmp (P : Program) (op : BinOp) (t : TypeId) (x : AV) (y : Operand) : Option (Bool × AV) :=
  if isNilS y then
    match P.underlying t, x with
    | some (.slice _), .slice _ l _ => match neg op false with | some (_, v) => some (decide (0 < l.length), v) | none => none
    | some (.slice _), .msl _ _ _ _ _ n => match neg op false with | some (_, v) => some (decide (0 < n), v) | none => none
    | _, _ => none
  else if isNilM y then
    match P.underlying t, x with
    | some (.map _ _), .mapv r => neg op r.isNone
    | _, _ => none
  else none
def binV (P : Program) (op : BinOp) (t : TypeId) (x y : AV) : Option (Bool × AV) :=
  match x, y with
  | .int k a, .int k' b =>
    match op with
    | .shl | .shr => some (intB op k a b)
    | _ => if k = k' then some (intB op k a b) else none
  | .str a, .str b => strB op a b
  | .bool a, .bool b => match P.underlying t with | some .bool => neg op (a == b) | _ => none
  | .agg u _, .agg u' _ => if likeT P u t && likeT P u' t && tyA P t && eqAble P 20 t && !P.eqGuardType P.depth t then neg op (eqV x y) else none
  | .nilp, .nilp => match P.underlying t with | some (.pointer _) => neg op true | _ => none
  | .ptr .., .nilp | .nilp, .ptr .. | .rptr .., .nilp | .nilp, .rptr .. => match P.underlying t with | some (.pointer _) => neg op false | _ => none
  | .nilf, .func .. | .func .., .nilf => match P.underlying t with | some (.func ..) => neg op false | _ => none
  | .nilf, .nilf => match P.underlying t with | some (.func ..) => neg op true | _ => none
  | .iface .., .nili | .nili, .iface .. => match P.underlying t with | some (.interface _) => neg op false | _ => none
  | _, _ => none
def unV (op : UnOp) (x : AV) : Option AV :=
  match op, x with
  | .neg, .int k n => some (.int k (k.wrap (0 - n)))
  | .xor, .int k n => some (.int k (ibits .xor k (if k.signed then -1 else k.max) n))
  | .not, .bool b => some (.bool (!b))
  | _, _ => none
def sub {α : Type} (l : List α) (a b : Nat) : List α := (l.take b).drop a
def byteOf : AV → UInt8
  | .int _ n => UInt8.ofNat n.toNat
  | _ => 0
def byteAV (b : UInt8) : AV := .int .u8 b.toNat
def isU8 (P : Program) (t : TypeId) : Bool := match P.underlying t with | some (.int .u8) => true | _ => false
/-- A conversion that makes no memory that may be written. -/
def convV (P : Program) (src dst : TypeId) (M : Mm) (x : AV) : Option AV :=
  match P.underlying dst, x with
  | some (.int k), .int _ n => some (.int k (k.wrap n))
  | some .string, .str s => some (.str s)
  | some .string, .slice e' l _ =>
    match P.underlying src with
    | some (.slice e) => if isU8 P e && Nat.beq e e' then some (.str (l.map byteOf)) else none
    | _ => none
  | some .string, .msl r path e' off _ len =>
    match P.underlying src with
    | some (.slice e) => if isU8 P e && Nat.beq e e' then some (.str ((sub ((M.rows.getD r (.arr 0 [])).elems path) off (off + len)).map byteOf)) else none
    | _ => none
  | some (.slice e), .str s => if isU8 P e && Nat.beq (P.cellsOf e) 1 then some (.slice e (s.map byteAV) false) else none
  | _, _ => none

/-! What is read of a value whose type is known, in the form that its type gives it. -/
def boolOf : AV → Bool
  | .bool b => b
  | _ => false
def intOf : AV → Int
  | .int _ n => n
  | _ => 0
def strOf : AV → List UInt8
  | .str s => s
  | _ => []
def listOf : AV → List AV
  | .slice _ l _ => l
  | _ => []
def etaFs (rec : TypeId → AV → AV) : Nat → List Field → List AV → List AV
  | _, [], _ => []
  | k, f :: fs, ps => rec f.type (ps.getD k .dead) :: etaFs rec (k + 1) fs ps
/-- 'im': it lies in memory that is never written. -/
def etaA (P : Program) (im : Bool) : Nat → TypeId → AV → AV
  | 0, _, v => v
  | d + 1, t, v =>
    match P.underlying t with
    | some .bool => .bool (boolOf v)
    | some (.int k) => .int k (intOf v)
    | some .string => .str (strOf v)
    | some (.struct fs) => if likeT P (uid P t) t then .agg (uid P t) (etaFs (etaA P im d) 0 fs.toList (partsOf v)) else v
    | some (.array _ _) => if likeT P (uid P t) t then .agg (uid P t) (partsOf v) else v
    | some (.slice e) => if im then .slice e (listOf v) false else v
    | _ => v
/-- The place of a field: its type and offset. -/
def fieldOf (P : Program) (s : TypeId) (k : Nat) : Option (TypeId × Nat) :=
  match P.underlying s with
  | some (.struct fs) => match fs[k]? with
    | some f => some (f.type, f.offset)
    | none => none
  | _ => none
/-- The sum of the sizes of the fields before one. -/
def sizesTo (P : Program) (s : TypeId) (k : Nat) : Nat :=
  match P.underlying s with
  | some (.struct fs) => ((fs.toList.take k).map fun f => P.cellsOf f.type).sum
  | _ => 0

def fieldV (P : Program) (s : TypeId) (x : AV) (k : Nat) : Option AV :=
  match x, fieldOf P s k with
  | .agg t ps, some (ft, off) => if likeT P t s && Nat.beq (sizesTo P s k) off then some (etaA P false 8 ft (ps.getD k .dead)) else none
  | _, _ => none
def fieldAddrV (P : Program) (s : TypeId) (x : AV) (k : Nat) : Option AV :=
  match x, fieldOf P s k with
  | .ptr r p t off, some (ft, fo) => if likeT P t s && Nat.beq (sizesTo P s k) fo && Nat.blt 0 (P.cellsOf ft) then some (.ptr r (p ++ [k]) ft (off + fo)) else none
  | .rptr t (.agg u ps), some (ft, fo) => if likeT P t s && likeT P u s && Nat.beq (sizesTo P s k) fo && Nat.blt 0 (P.cellsOf ft) then some (.rptr ft (etaA P true 8 ft (ps.getD k .dead))) else none
  | _, _ => none
def inB (i : Int) (n : Nat) : Bool := decide (0 ≤ i) && decide (i < (n : Int))
def indexAddrV (P : Program) (t : TypeId) (x : AV) (i : Int) : Option (Bool × AV) :=
  match P.underlying t, x with
  | some (.slice e), .slice e' l _ => if Nat.beq e e' then some (inB i l.length, .rptr e (etaA P true 8 e (l.getD i.toNat .dead))) else none
  | some (.slice e), .msl r p e' off coff len => if Nat.beq e e' then some (inB i len, .ptr r (p ++ [off + i.toNat]) e (coff + i.toNat * P.cellsOf e)) else none
  | some (.array n e), .ptr r p t' off => if likeT P t' t then some (inB i n, .ptr r (p ++ [i.toNat]) e (off + i.toNat * P.cellsOf e)) else none
  | some (.array n e), .rptr t' (.agg u ps) => if likeT P t' t && likeT P u t then some (inB i n, .rptr e (etaA P true 8 e (ps.getD i.toNat .dead))) else none
  | _, _ => none
def indexV (P : Program) (t : TypeId) (x : AV) (i : Int) : Option (Bool × AV) :=
  match P.underlying t, x with
  | some (.array n e), .agg u ps => if likeT P u t then some (inB i n, etaA P false 8 e (ps.getD i.toNat .dead)) else none
  | some .string, .str s => some (inB i s.length, .int .u8 ((s.getD i.toNat 0).toNat : Int))
  | _, _ => none
def loadV (P : Program) (M : Mm) (t : TypeId) : AV → Option AV
  | .rptr t' v => if likeT P t' t then some v else none
  | .ptr r p t' _ => if likeT P t' t then some (etaA P false 8 t ((M.rows.getD r (.arr 0 [])).get p)) else none
  | _ => none
/-- The bounds of a slice expression: what holds, and the two numbers. -/
def bnd (lo hi : Option AV) (len : Nat) : Option (Bool × Nat × Nat) :=
  match lo, hi with
  | none, none => some (true, 0, len)
  | some (.int _ a), none => some (decide (0 ≤ a) && decide (a ≤ (len : Int)), a.toNat, len)
  | none, some (.int _ b) => some (decide (0 ≤ b) && decide (b ≤ (len : Int)), 0, b.toNat)
  | some (.int _ a), some (.int _ b) => some (decide (0 ≤ a) && decide (a ≤ b) && decide (b ≤ (len : Int)), a.toNat, b.toNat)
  | _, _ => none
def sliceV (P : Program) (t : TypeId) (x : AV) (lo hi : Option AV) (mx : Option AV) : Option (Bool × AV) :=
  match P.underlying t, x, mx with
  | some .string, .str s, none =>
    match bnd lo hi s.length with
    | some (ok, a, b) => some (ok, .str (sub s a b))
    | none => none
  | some (.slice e), .slice e' l ex, none =>
    if Nat.beq e e' then
      match bnd lo hi l.length with
      | some (ok, a, b) => some (ok, .slice e (sub l a b) (ex && hi.isNone))
      | none => none
    else none
  | some (.slice e), .slice e' l ex, some (.int k c) =>
    if Nat.beq e e' then
      match hi with
      | some (.int k' b) =>
        match bnd lo hi l.length with
        | some (ok, a, b') => some (ok && decide (b = c), .slice e (sub l a b') true)
        | none => none
      | _ => none
    else none
  | some (.slice e), .msl r p e' off coff len, none =>
    if Nat.beq e e' then
      match bnd lo hi len with
      | some (ok, a, b) => some (ok, .msl r p e (off + a) (coff + a * P.cellsOf e) (b - a))
      | none => none
    else none
  | some (.array n e), .ptr r p t' off, none =>
    if likeT P t' t then
      match bnd lo hi n with
      | some (ok, a, b) => some (ok, .msl r p e a (off + a * P.cellsOf e) (b - a))
      | none => none
    else none
  | some (.array n e), .rptr t' (.agg u ps), none =>
    if likeT P t' t && likeT P u t then
      match bnd lo hi n with
      | some (ok, a, b) => some (ok, .slice e (sub ps a b) false)
      | none => none
    else none
  | _, _, _ => none
def lenV (P : Program) (t : TypeId) (M : Mm) : AV → Option AV
  | .str s => match P.underlying t with | some .string => some (.int .i64 s.length) | _ => none
  | .slice _ l _ => match P.underlying t with | some (.slice _) => some (.int .i64 l.length) | _ => none
  | .msl _ _ _ _ _ n => match P.underlying t with | some (.slice _) => some (.int .i64 n) | _ => none
  | .agg _ _ => match P.underlying t with | some (.array n _) => some (.int .i64 n) | _ => none
  | _ => none
def minV : AV → List AV → Option AV
  | x, [] => some x
  | .int k x, .int k' y :: r => if k = k' then minV (.int k (if y < x then y else x)) r else none
  | _, _ => none
def maxV : AV → List AV → Option AV
  | x, [] => some x
  | .int k x, .int k' y :: r => if k = k' then maxV (.int k (if y > x then y else x)) r else none
  | _, _ => none
def fillAt : List (Nat × AV) → List AV → Option (List AV)
  | [], ps => some ps
  | (i, v) :: r, ps => if Nat.blt i ps.length then fillAt r (ps.set i v) else none
def partsT (P : Program) (t : TypeId) (i : Nat) : TypeId :=
  match P.underlying t with
  | some (.struct fs) => match fs[i]? with | some f => f.type | none => 0
  | some (.array _ e) | some (.slice e) => e
  | _ => 0
/-- The fields lie one behind the other. -/
def offsOK (P : Program) (t : TypeId) : Bool :=
  match P.underlying t with
  | some (.struct fs) => offsGo P 0 fs.toList
  | _ => true
def buildV (P : Program) (t : TypeId) (parts : List (Nat × AV)) : Option AV :=
  match zero P t with
  | .agg u ps => if offsOK P t && likeT P u t && (P.info? (elemT P t)).isSome then (fillAt parts ps).map (.agg u ·) else none
  | _ => none
def sliceLit (P : Program) (t : TypeId) (n : Nat) (parts : List (Nat × AV)) : Option AV :=
  match P.underlying t with
  | some (.slice e) =>
    if Nat.ble (n * P.cellsOf e) (2 ^ 24) && fits P e (zero P e) && (tyA P e || Nat.beq (P.cellsOf e) 1) then
      (fillAt parts (List.replicate n (zero P e))).map (.slice e · true)
    else none
  | _ => none
def assertV (P : Program) (x : AV) (t : TypeId) (ok : Bool) : Option AV :=
  match P.underlying t, x with
  | some (.interface _), _ => none
  | some _, .iface u v =>
    if Nat.beq u t then some (if ok then .tuple [v, .bool true] else v)
    else if ok && fits P t (zero P t) then some (.tuple [zero P t, .bool false]) else none
  | some _, .nili => if ok && fits P t (zero P t) then some (.tuple [zero P t, .bool false]) else none
  | _, _ => none
def keyEq : AV → AV → Option Bool
  | .int k a, .int k' b => if k = k' then some (a == b) else none
  | .str a, .str b => some (a == b)
  | .bool a, .bool b => some (a == b)
  | _, _ => none
def isInt : AV → Bool | .int _ _ => true | _ => false
/-- The entry of a key: a chain of choices. -/
def findV {R : Type} (k : AV) : List (AV × AV) → (Option AV → Option R) → Option R
  | [], K => K none
  | (k', v) :: r, K =>
    match keyEq k k' with
    | some b => cond b (K (some v)) (findV k r K)
    | none => none
end Go.AE
