/- The abstract evaluator: what it says of the model, part 1. -/
import GoSem.Dispatch
import Derived.Calls
import Derived.Still
import Derived.Below
import Derived.Laws.Cells
import Derived.Laws.Rows
import Derived.Laws.CopyRow
import Derived.Laws.Strings
import Derived.ChangeKeysEq
import Derived.Laws.StructEq
import Derived.Laws.BytesArg
import Derived.Lib.ConvBytes
import Derived.Laws.Slices
import Derived.Laws.MakeOwn
import Derived.Laws.Build
set_option linter.unusedVariables false
set_option linter.unusedSimpArgs false
namespace Go.AE
inductive AV where
 | dead
 | bool (b : Bool)
 | int (k : IntKind) (n : Int)
 | str (s : List UInt8)
 | nilp
 | ptr (r : Nat) (path : List Nat) (t : TypeId) (off : Nat)
 | rptr (t : TypeId) (v : AV)
 | slice (e : TypeId) (l : List AV) (x : Bool)
 | msl (r : Nat) (path : List Nat) (e : TypeId) (off coff len : Nat)
 | mapv (r : Option Nat)
 | func (fn : Fn) (first captured : List AV)
 | nilf
 | iface (t : TypeId) (v : AV)
 | nili
 | agg (t : TypeId) (parts : List AV)
 | tuple (vs : List AV)
 | yld (r : Nat)
 deriving Inhabited
inductive Row where
 | var (t : TypeId) (v : AV)
 | arr (e : TypeId) (l : List AV)
 | map (k e : TypeId) (es : List (AV × AV))
 | bg (e : TypeId) (l : List AV)
 | loop (fn : FuncId) (id : Nat) (tmps : List AV) (st pd : Nat)
 deriving Inhabited
inductive TF where
 | own
 | viaT (s : Nat)
 | viaR (r : Nat) (path : List Nat)
 deriving Inhabited
structure Fr where
 tmps : List AV
 tf : List (Nat × TF)
structure Mm where
 rows : List Row
 ro : List (Nat × List Nat)
inductive AX where
 | normal
 | exit (id : Nat)
 | ret
 | panic (v : AV)
inductive Res where
 | ret (v : AV)
 | retO (v : AV)
 | pan (v : AV)
inductive LT where
 | done (e : AX) (fr : Fr) (M : Mm)
 | br (b : Bool) (x y : LT)
 | fail
def LT.go {R : Type} : LT -> (AX -> Fr -> Mm -> Option R) -> Option R
 | .done e fr M, K => K e fr M
 | .br b x y, K => cond b (x.go K) (y.go K)
 | .fail, _ => none
structure Ctx where
 P : Program
 n : Nat
 spec : FuncId -> List AV -> Option (Bool × AV)
 muta : FuncId -> Bool
 kept : FuncId -> Nat -> Option (List Nat × List Nat) := fun _ _ => none
 lose : FuncId -> Nat -> List (Nat × List Nat) := fun _ _ => []
 ends : Nat -> FuncId -> Nat -> Fr -> Mm -> Option LT := fun _ _ _ _ _ => none
 acts : Nat -> FuncId -> List AV -> Mm -> Option LT := fun _ _ _ _ => none
 news : Nat -> FuncId -> List AV -> Mm -> Option (AV × List Row) := fun _ _ _ _ => none
 newf : FuncId -> Bool := fun _ => false
 take : FuncId -> Bool := fun _ => false
 actf : FuncId -> Bool := fun _ => false
 frz : FuncId -> Nat -> List Nat := fun _ _ => []
 pln : TypeId -> Bool := fun _ => false
def aQ (P : Program) (t : TypeId) : Bool :=
 match P.underlying t with
 | some (.struct _) | some (.array _ _) => true
 | _ => false
def AV.isA : AV -> Bool
 | .agg _ _ => true
 | _ => false
def uid (P : Program) (t : TypeId) : TypeId :=
 match P.info? t with
 | some { desc := .named _ u, .. } => u
 | _ => t
def bM (P : Program) (t u : TypeId) : Bool := Nat.beq (uid P t) (uid P u) && Nat.beq (P.cellsOf t) (P.cellsOf u)
def cB (P : Program) (t : TypeId) : TypeId :=
 match P.underlying t with
 | some (.slice e) | some (.array _ e) | some (.pointer e) => e
 | _ => 0
def aR (P : Program) (t : TypeId) : AV -> Bool
 | .bool _ => match P.underlying t with | some .bool => true | _ => false
 | .int k _ => match P.underlying t with | some (.int k') => k == k' | _ => false
 | .str _ => match P.underlying t with | some .string => true | _ => false
 | .slice e _ _ => match P.underlying t with | some (.slice e') => Nat.beq e e' | _ => false
 | .msl _ _ e _ _ _ => match P.underlying t with | some (.slice e') => Nat.beq e e' | _ => false
 | .nilp | .ptr .. | .rptr .. => match P.underlying t with | some (.pointer _) => true | _ => false
 | .mapv _ => match P.underlying t with | some (.map _ _) => true | _ => false
 | .func .. | .nilf | .yld _ => match P.underlying t with | some (.func ..) => true | _ => false
 | .iface .. | .nili => match P.underlying t with | some (.interface _) => true | _ => false
 | _ => false
def fits (P : Program) (t : TypeId) (v : AV) : Bool :=
 match v with
 | .agg u _ => bM P u t && aQ P t
 | v => aR P t v && !aQ P t
def uy (P : Program) (t : TypeId) : Value -> AV
 | .bool b => .bool b
 | .int k n => .int k n
 | .string s => .str s.data.toList
 | .pointer none => .nilp
 | .slice none 0 0 => .slice (cB P t) [] true
 | .map none => .mapv none
 | .nilFunc => .nilf
 | .nilIface => .nili
 | _ => .dead
def uH (rec : TypeId -> List Value -> Option (AV × List Value)) : List TypeId -> List Value -> Option (List AV × List Value)
 | [], cs => some ([], cs)
 | t :: ts, cs =>
  match rec t cs with
  | some (v, r) =>
   match uH rec ts r with
   | some (vs, r') => some (v :: vs, r')
   | none => none
  | none => none
def p8 (P : Program) : Nat -> TypeId -> List Value -> Option (AV × List Value)
 | 0, _, _ => none
 | d + 1, t, cs =>
  match P.underlying t with
  | some (.struct fs) =>
   match uH (p8 P d) (fs.toList.map (·.type)) cs with
   | some (ps, r) => if Nat.beq cs.length (P.cellsOf t + r.length) && bM P (uid P t) t then some (.agg (uid P t) ps, r) else none
   | none => none
  | some (.array n e) =>
   match uH (p8 P d) (List.replicate n e) cs with
   | some (ps, r) => if Nat.beq cs.length (P.cellsOf t + r.length) && bM P (uid P t) t then some (.agg (uid P t) ps, r) else none
   | none => none
  | some _ =>
   match cs with
   | c :: r => let v := uy P t c; if fits P t v && Nat.beq (P.cellsOf t) 1 then some (v, r) else none
   | [] => none
  | none => none
def zi (P : Program) (t : TypeId) (v : Value) : AV :=
 match v with
 | .agg cs =>
  match p8 P 20 t cs.toList with
  | some (a, []) => match a with | .agg _ _ => a | _ => .dead
  | _ => .dead
 | .tuple a => match a.toList with | [] => .tuple [] | _ => .dead
 | v => uy P t v
def zero (P : Program) (t : TypeId) : AV :=
 match P.info? t with
 | some i => match i.zero with
  | some z => zi P t z
  | none => .dead
 | none => .dead
def aC (P : Program) (tm : List AV) (t : TypeId) : Operand -> AV
 | .tmp i => tm.getD i .dead
 | .const v => zi P t v
 | .global _ => .dead
 | .func f => .func (.func f) [] []
def bH (P : Program) (tm : List AV) : List TypeId -> List Operand -> List AV
 | ts, [] => []
 | [], x :: xs => aC P tm 0 x :: bH P tm [] xs
 | t :: ts, x :: xs => aC P tm t x :: bH P tm ts xs
def jh : AV -> TypeId
 | .agg t _ => t
 | _ => 0
def au : AV -> List AV
 | .agg _ ps => ps
 | _ => []
def dY : List Nat -> AV -> AV
 | [], v => v
 | i :: p, v => dY p ((au v).getD i .dead)
def iQ : List Nat -> AV -> AV -> AV
 | [], new, _ => new
 | i :: p, new, v => .agg (jh v) ((au v).set i (iQ p new ((au v).getD i .dead)))
def Row.get : Row -> List Nat -> AV
 | .var _ v, p => dY p v
 | .arr _ l, i :: p => dY p (l.getD i .dead)
 | .bg _ l, i :: p => dY p (l.getD i .dead)
 | _, _ => .dead
def Row.put : Row -> List Nat -> AV -> Row
 | .var t v, p, new => .var t (iQ p new v)
 | .arr e l, i :: p, new => .arr e (l.set i (iQ p new (l.getD i .dead)))
 | .bg e l, i :: p, new => .bg e (l.set i (iQ p new (l.getD i .dead)))
 | r, _, _ => r
def Row.elems : Row -> List Nat -> List AV
 | .arr _ l, [] => l
 | .bg _ l, [] => l
 | r, p => au (r.get p)
def Row.jG : Row -> List Nat -> List AV -> Row
 | .arr e _, [], l => .arr e l
 | .bg e _, [], l => .bg e l
 | r, p, l => r.put p (.agg (jh (r.get p)) l)
def aL (op : BinOp) (k : IntKind) (x y : Int) : Int :=
 let a := BitVec.ofInt k.bits x
 let b := BitVec.ofInt k.bits y
 match op with
 | .and => k.wrap (a &&& b).toNat
 | .or => k.wrap (a ||| b).toNat
 | .xor => k.wrap (a ^^^ b).toNat
 | _ => k.wrap (a &&& ~~~b).toNat
def vN (op : BinOp) (k : IntKind) (x y : Int) : Bool × AV :=
 match op with
 | .add => (true, .int k (k.wrap (x + y)))
 | .sub => (true, .int k (k.wrap (x - y)))
 | .mul => (true, .int k (k.wrap (x * y)))
 | .quo => (!(y == 0), .int k (k.wrap (x.tdiv y)))
 | .rem => (!(y == 0), .int k (x.tmod y))
 | .and => (true, .int k (aL .and k x y))
 | .or => (true, .int k (aL .or k x y))
 | .xor => (true, .int k (aL .xor k x y))
 | .andNot => (true, .int k (aL .andNot k x y))
 | .eql => (true, .bool (x == y))
 | .neq => (true, .bool (x != y))
 | .lss => (true, .bool (decide (x < y)))
 | .leq => (true, .bool (decide (x <= y)))
 | .gtr => (true, .bool (decide (y < x)))
 | .geq => (true, .bool (decide (y <= x)))
 | .shl => (decide (0 <= y), .int k (k.wrap (x * 2 ^ min y.toNat k.bits)))
 | .shr => (decide (0 <= y), .int k (x.fdiv (2 ^ min y.toNat k.bits)))
mutual
def oF : AV -> AV -> Bool
 | .bool a, .bool b => a == b
 | .int _ a, .int _ b => a == b
 | .str a, .str b => a == b
 | .agg _ xs, .agg _ ys => jy xs ys
 | _, _ => false
def jy : List AV -> List AV -> Bool
 | [], [] => true
 | x :: xs, y :: ys => oF x y && jy xs ys
 | _, _ => false
end
def kU (P : Program) : Nat -> List Field -> Bool
 | _, [] => true
 | o, f :: fs => Nat.beq f.offset o && kU P (o + P.cellsOf f.type) fs
def Dm (rec : TypeId -> Bool) : List Field -> Bool
 | [] => true
 | f :: fs => f.name != "_" && rec f.type && Dm rec fs
def oo (P : Program) : Nat -> TypeId -> Bool
 | 0, _ => false
 | d + 1, t =>
  match P.underlying t with
  | some .bool | some (.int _) | some .string => true
  | some (.struct fs) => !P.stoodInHeld t && kU P 0 fs.toList && Dm (oo P d) fs.toList
  | some (.array _ e) => oo P d e
  | _ => false
def Iz : Int := 9223372036854775807
def EP (op : BinOp) (a b : List UInt8) : Option (Bool × AV) :=
 match op with
 | .add => some (decide (((a.length + b.length : Nat) : Int) <= Iz), .str (a ++ b))
 | .eql => some (true, .bool (a == b))
 | .neq => some (true, .bool (!(a == b)))
 | _ => none
def neg (op : BinOp) (b : Bool) : Option (Bool × AV) :=
 match op with
 | .eql => some (true, .bool b)
 | .neq => some (true, .bool (!b))
 | _ => none
def Ia : Operand -> Bool
 | .const (.slice none 0 0) => true
 | _ => false
def FX : Operand -> Bool
 | .const (.map none) => true
 | _ => false
def Ob : Operand -> Bool
 | .const .nilIface => true
 | _ => false
def Ih (P : Program) (op : BinOp) (t : TypeId) (x : AV) (y : Operand) : Option (Bool × AV) :=
 if Ia y then
  match P.underlying t, x with
  | some (.slice _), .slice _ l _ => match neg op false with | some (_, v) => some (decide (0 < l.length), v) | none => none
  | some (.slice _), .msl _ _ _ _ _ n => match neg op false with | some (_, v) => some (decide (0 < n), v) | none => none
  | _, _ => none
 else if FX y then
  match P.underlying t, x with
  | some (.map _ _), .mapv r => neg op r.isNone
  | _, _ => none
 else if Ob y then
  match P.underlying t, x with
  | some (.interface _), .nili => neg op true
  | _, _ => none
 else none
def FR (P : Program) (op : BinOp) (t : TypeId) (x y : AV) : Option (Bool × AV) :=
 match x, y with
 | .int k a, .int k' b =>
  match op with
  | .shl | .shr => some (vN op k a b)
  | _ => if k = k' then some (vN op k a b) else none
 | .str a, .str b => EP op a b
 | .bool a, .bool b => match P.underlying t with | some .bool => neg op (a == b) | _ => none
 | .agg u _, .agg u' _ => if bM P u t && bM P u' t && aQ P t && oo P 20 t && !P.eqGuardType P.depth t then neg op (oF x y) else none
 | .nilp, .nilp => match P.underlying t with | some (.pointer _) => neg op true | _ => none
 | .ptr .., .nilp | .nilp, .ptr .. | .rptr .., .nilp | .nilp, .rptr .. => match P.underlying t with | some (.pointer _) => neg op false | _ => none
 | .nilf, .func .. | .func .., .nilf => match P.underlying t with | some (.func ..) => neg op false | _ => none
 | .nilf, .nilf => match P.underlying t with | some (.func ..) => neg op true | _ => none
 | .iface .., .nili | .nili, .iface .. => match P.underlying t with | some (.interface _) => neg op false | _ => none
 | _, _ => none
def Ab (op : UnOp) (x : AV) : Option AV :=
 match op, x with
 | .neg, .int k n => some (.int k (k.wrap (0 - n)))
 | .xor, .int k n => some (.int k (aL .xor k (if k.signed then -1 else k.max) n))
 | .not, .bool b => some (.bool (!b))
 | _, _ => none
def sub {α : Type} (l : List α) (a b : Nat) : List α := (l.take b).drop a
def byteOf : AV -> UInt8
 | .int _ n => UInt8.ofNat n.toNat
 | _ => 0
def CU (b : UInt8) : AV := .int .u8 b.toNat
def nT (P : Program) (t : TypeId) : Bool := match P.underlying t with | some (.int .u8) => true | _ => false
def sW (P : Program) (src dst : TypeId) (M : Mm) (x : AV) : Option AV :=
 match P.underlying dst, x with
 | some (.int k), .int _ n => some (.int k (k.wrap n))
 | some .string, .str s => some (.str s)
 | some .string, .slice e' l _ =>
  match P.underlying src with
  | some (.slice e) => if nT P e && Nat.beq e e' then some (.str (l.map byteOf)) else none
  | _ => none
 | some .string, .msl r path e' off _ len =>
  match P.underlying src with
  | some (.slice e) => if nT P e && Nat.beq e e' then some (.str ((sub ((M.rows.getD r (.arr 0 [])).elems path) off (off + len)).map byteOf)) else none
  | _ => none
 | some (.slice e), .str s => if nT P e && Nat.beq (P.cellsOf e) 1 then some (.slice e (s.map CU) false) else none
 | _, _ => none
def av : AV -> Bool
 | .bool b => b
 | _ => false
def aj : AV -> Int
 | .int _ n => n
 | _ => 0
def wZ : AV -> List UInt8
 | .str s => s
 | _ => []
def ay : AV -> List AV
 | .slice _ l _ => l
 | _ => []
def EU (rec : TypeId -> AV -> AV) : Nat -> List Field -> List AV -> List AV
 | _, [], _ => []
 | k, f :: fs, ps => rec f.type (ps.getD k .dead) :: EU rec (k + 1) fs ps
def iZ (P : Program) (im : Bool) : Nat -> TypeId -> AV -> AV
 | 0, _, v => v
 | d + 1, t, v =>
  match P.underlying t with
  | some .bool => .bool (av v)
  | some (.int k) => .int k (aj v)
  | some .string => .str (wZ v)
  | some (.struct fs) => if bM P (uid P t) t then .agg (uid P t) (EU (iZ P im d) 0 fs.toList (au v)) else v
  | some (.array _ _) => if bM P (uid P t) t then .agg (uid P t) (au v) else v
  | some (.slice e) => if im then .slice e (ay v) false else v
  | _ => v
def Du (P : Program) (s : TypeId) (k : Nat) : Option (TypeId × Nat) :=
 match P.underlying s with
 | some (.struct fs) => match fs[k]? with
  | some f => some (f.type, f.offset)
  | none => none
 | _ => none
def iC (P : Program) (s : TypeId) (k : Nat) : Nat :=
 match P.underlying s with
 | some (.struct fs) => ((fs.toList.take k).map fun f => P.cellsOf f.type).sum
 | _ => 0
def HV (P : Program) (s : TypeId) (x : AV) (k : Nat) : Option AV :=
 match x, Du P s k with
 | .agg t ps, some (ft, off) => if bM P t s && Nat.beq (iC P s k) off then some (iZ P false 8 ft (ps.getD k .dead)) else none
 | _, _ => none
def HY (P : Program) (s : TypeId) (x : AV) (k : Nat) : Option AV :=
 match x, Du P s k with
 | .ptr r p t off, some (ft, fo) => if bM P t s && Nat.beq (iC P s k) fo && Nat.blt 0 (P.cellsOf ft) then some (.ptr r (p ++ [k]) ft (off + fo)) else none
 | .rptr t (.agg u ps), some (ft, fo) => if bM P t s && bM P u s && Nat.beq (iC P s k) fo && Nat.blt 0 (P.cellsOf ft) then some (.rptr ft (iZ P true 8 ft (ps.getD k .dead))) else none
 | _, _ => none
def aN (i : Int) (n : Nat) : Bool := decide (0 <= i) && decide (i < (n : Int))
def Gp (P : Program) (t : TypeId) (x : AV) (i : Int) : Option (Bool × AV) :=
 match P.underlying t, x with
 | some (.slice e), .slice e' l _ => if Nat.beq e e' then some (aN i l.length, .rptr e (iZ P true 8 e (l.getD i.toNat .dead))) else none
 | some (.slice e), .msl r p e' off coff len => if Nat.beq e e' then some (aN i len, .ptr r (p ++ [off + i.toNat]) e (coff + i.toNat * P.cellsOf e)) else none
 | some (.array n e), .ptr r p t' off => if bM P t' t then some (aN i n, .ptr r (p ++ [i.toNat]) e (off + i.toNat * P.cellsOf e)) else none
 | some (.array n e), .rptr t' (.agg u ps) => if bM P t' t && bM P u t then some (aN i n, .rptr e (iZ P true 8 e (ps.getD i.toNat .dead))) else none
 | _, _ => none
def EK (P : Program) (t : TypeId) (x : AV) (i : Int) : Option (Bool × AV) :=
 match P.underlying t, x with
 | some (.array n e), .agg u ps => if bM P u t then some (aN i n, iZ P false 8 e (ps.getD i.toNat .dead)) else none
 | some .string, .str s => some (aN i s.length, .int .u8 ((s.getD i.toNat 0).toNat : Int))
 | _, _ => none
def jq (P : Program) (M : Mm) (t : TypeId) : AV -> Option AV
 | .rptr t' v => if bM P t' t then some v else none
 | .ptr r p t' _ => if bM P t' t then some (iZ P false 8 t ((M.rows.getD r (.arr 0 [])).get p)) else none
 | _ => none
def bnd (lo hi : Option AV) (len : Nat) : Option (Bool × Nat × Nat) :=
 match lo, hi with
 | none, none => some (true, 0, len)
 | some (.int _ a), none => some (decide (0 <= a) && decide (a <= (len : Int)), a.toNat, len)
 | none, some (.int _ b) => some (decide (0 <= b) && decide (b <= (len : Int)), 0, b.toNat)
 | some (.int _ a), some (.int _ b) => some (decide (0 <= a) && decide (a <= b) && decide (b <= (len : Int)), a.toNat, b.toNat)
 | _, _ => none
def A9 (P : Program) (t : TypeId) (x : AV) (lo hi : Option AV) (mx : Option AV) : Option (Bool × AV) :=
 match P.underlying t, x, mx with
 | some .string, .str s, none =>
  match bnd lo hi s.length with
  | some (ok, a, b) => some (ok, .str (sub s a b))
  | none => none
 | some (.slice e), .slice e' l ex, none =>
  if Nat.beq e e' then
   match bnd lo hi l.length with
   | some (ok, a, b) => some (ok, .slice e (sub l a b) (ex && hi.isNone))
   | none => none
  else none
 | some (.slice e), .slice e' l ex, some (.int k c) =>
  if Nat.beq e e' then
   match hi with
   | some (.int k' b) =>
    match bnd lo hi l.length with
    | some (ok, a, b') => some (ok && decide (b = c), .slice e (sub l a b') true)
    | none => none
   | _ => none
  else none
 | some (.slice e), .msl r p e' off coff len, none =>
  if Nat.beq e e' then
   match bnd lo hi len with
   | some (ok, a, b) => some (ok, .msl r p e (off + a) (coff + a * P.cellsOf e) (b - a))
   | none => none
  else none
 | some (.array n e), .ptr r p t' off, none =>
  if bM P t' t then
   match bnd lo hi n with
   | some (ok, a, b) => some (ok, .msl r p e a (off + a * P.cellsOf e) (b - a))
   | none => none
  else none
 | some (.array n e), .rptr t' (.agg u ps), none =>
  if bM P t' t && bM P u t then
   match bnd lo hi n with
   | some (ok, a, b) => some (ok, .slice e (sub ps a b) false)
   | none => none
  else none
 | _, _, _ => none
def zU (P : Program) (t : TypeId) (M : Mm) : AV -> Option AV
 | .str s => match P.underlying t with | some .string => some (.int .i64 s.length) | _ => none
 | .slice _ l _ => match P.underlying t with | some (.slice _) => some (.int .i64 l.length) | _ => none
 | .msl _ _ _ _ _ n => match P.underlying t with | some (.slice _) => some (.int .i64 n) | _ => none
 | .agg _ _ => match P.underlying t with | some (.array n _) => some (.int .i64 n) | _ => none
 | _ => none
def sJ : AV -> List AV -> Option AV
 | x, [] => some x
 | .int k x, .int k' y :: r => if k = k' then sJ (.int k (if y < x then y else x)) r else none
 | _, _ => none
def qP : AV -> List AV -> Option AV
 | x, [] => some x
 | .int k x, .int k' y :: r => if k = k' then qP (.int k (if y > x then y else x)) r else none
 | _, _ => none
def sP : List (Nat × AV) -> List AV -> Option (List AV)
 | [], ps => some ps
 | (i, v) :: r, ps => if Nat.blt i ps.length then sP r (ps.set i v) else none
def kX (P : Program) (t : TypeId) (i : Nat) : TypeId :=
 match P.underlying t with
 | some (.struct fs) => match fs[i]? with | some f => f.type | none => 0
 | some (.array _ e) | some (.slice e) => e
 | _ => 0
def Jq (P : Program) (t : TypeId) : Bool :=
 match P.underlying t with
 | some (.struct fs) => kU P 0 fs.toList
 | _ => true
def EI (P : Program) (t : TypeId) (parts : List (Nat × AV)) : Option AV :=
 match zero P t with
 | .agg u ps => if Jq P t && bM P u t && (P.info? (cB P t)).isSome then (sP parts ps).map (.agg u ·) else none
 | _ => none
def uL (P : Program) (t : TypeId) (n : Nat) (parts : List (Nat × AV)) : Option AV :=
 match P.underlying t with
 | some (.slice e) =>
  if Nat.ble (n * P.cellsOf e) (2 ^ 24) && fits P e (zero P e) && (aQ P e || Nat.beq (P.cellsOf e) 1) then
   (sP parts (List.replicate n (zero P e))).map (.slice e · true)
  else none
 | _ => none
def F7 (P : Program) (x : AV) (t : TypeId) (ok : Bool) : Option AV :=
 match P.underlying t, x with
 | some (.interface _), _ => none
 | some _, .iface u v =>
  if Nat.beq u t then some (if ok then .tuple [v, .bool true] else v)
  else if ok && fits P t (zero P t) then some (.tuple [zero P t, .bool false]) else none
 | some _, .nili => if ok && fits P t (zero P t) then some (.tuple [zero P t, .bool false]) else none
 | _, _ => none
def zO : AV -> AV -> Option Bool
 | .int k a, .int k' b => if k = k' then some (a == b) else none
 | .str a, .str b => some (a == b)
 | .bool a, .bool b => some (a == b)
 | _, _ => none
def nO {R : Type} (k : AV) : List (AV × AV) -> (Option AV -> Option R) -> Option R
 | [], K => K none
 | (k', v) :: r, K =>
  match zO k k' with
  | some b => cond b (K (some v)) (nO k r K)
  | none => none
end Go.AE
namespace Go.AE
def ny (rec : TypeId -> Bool) : List Field -> Bool
 | [] => true
 | f :: fs => rec f.type && ny rec fs
def bJ (P : Program) : Nat -> TypeId -> Bool
 | 0, _ => false
 | d + 1, t =>
  match P.underlying t with
  | some .bool | some (.int _) | some .string => true
  | some (.struct fs) => ny (bJ P d) fs.toList
  | some (.array _ e) | some (.slice e) => bJ P d e
  | _ => false
def Ae (rec : TypeId -> Bool) : List Field -> Bool
 | [] => true
 | f :: fs => rec f.type && Ae rec fs
def fu (P : Program) : Nat -> TypeId -> Bool
 | 0, _ => false
 | d + 1, t =>
  match P.underlying t with
  | some .bool | some (.int _) | some .string => true
  | some (.struct fs) => Ae (fu P d) fs.toList
  | some (.array _ e) => fu P d e
  | _ => false
def fV (p : AV -> Bool) : List AV -> Bool
 | [] => true
 | v :: vs => p v && fV p vs
def jo (P : Program) : Nat -> AV -> Bool
 | 0, _ => false
 | d + 1, v =>
  match v with
  | .msl _ _ _ _ _ _ => false
  | .dead => false
  | .agg t ps =>
   match P.underlying t with
   | some (.struct _) => fV (jo P d) ps
   | some (.array _ e) => fu P 20 e
   | _ => false
  | .func _ f c => fV (jo P d) f && fV (jo P d) c
  | .iface _ v => jo P d v
  | .tuple vs => fV (jo P d) vs
  | _ => true
def yM (P : Program) : List (Nat × AV) -> Bool
 | [] => true
 | (_, v) :: r => jo P 8 v && yM P r
def gW (P : Program) : List TypeId -> List AV -> Bool
 | [], [] => true
 | t :: ts, v :: vs => fits P t v && gW P ts vs
 | _, _ => false
def qK (P : Program) (t : TypeId) : List (Nat × AV) -> Bool
 | [] => true
 | (i, v) :: r => fits P (kX P t i) v && qK P t r
def pR (P : Program) : List TypeId -> Bool
 | [] => true
 | t :: ts => bJ P 20 t && pR P ts
def su (f : AV -> AV -> AV) (b : Bool) : List AV -> List AV -> List AV
 | x :: xs, y :: ys => f x y :: su f b xs ys
 | [], [] => []
 | p, q => cond b p q
def nK (P : Program) : Nat -> Bool -> AV -> AV -> AV
 | 0, b, x, y => cond b x y
 | d + 1, b, x, y =>
  match x, y with
  | .bool p, .bool q => .bool (cond b p q)
  | .int k p, .int k' q => if k = k' then .int k (cond b p q) else cond b x y
  | .str p, .str q => .str (cond b p q)
  | .tuple p, .tuple q => .tuple (su (nK P d b) b p q)
  | .agg t p, .agg u q =>
   if t = u then
    match P.underlying t with
    | some (.struct _) => .agg t (su (nK P d b) b p q)
    | _ => .agg t (cond b p q)
   else cond b x y
  | .slice e p ex, .slice e' q ex' => if e = e' /\ ex = ex' then .slice e (cond b p q) ex else cond b x y
  | .ptr r p t o, .ptr r' p' t' o' => if (Nat.beq r r' && Nat.beq t t' && Nat.beq o o') && p == p' then .ptr r p t o else cond b x y
  | .nilp, .nilp => .nilp
  | .nili, .nili => .nili
  | .nilf, .nilf => .nilf
  | .dead, .dead => .dead
  | _, _ => cond b x y
def okV (o : Option AV) : Option (Bool × AV) :=
 match o with
 | some v => some (true, v)
 | none => none
def Qy (x : AV) : Option (Bool × AV) :=
 match x with
 | .ptr .. | .rptr .. | .iface .. => some (true, x)
 | .func fn _ _ => match fn with | .method _ => none | _ => some (true, x)
 | .yld _ => some (true, x)
 | .nilp | .nilf | .nili => some (false, .dead)
 | _ => none
def nG (P : Program) (tm : List AV) : Option Operand -> Option AV
 | none => none
 | some x => some (aC P tm 0 x)
def uD (P : Program) (tm : List AV) (t : TypeId) (ps : List (Nat × Operand)) : List (Nat × AV) := ps.map fun p => (p.1, aC P tm (kX P t p.1) p.2)
def sH (cx : Ctx) (tm : List AV) (c : Call) : Option (Bool × AV) :=
 match c.callee with
 | .value (.func f) =>
  match cx.P.funcs[f]? with
  | some fn =>
   let args := bH cx.P tm c.argTypes.toList c.args.toList
   if gW cx.P fn.params.toList args && pR cx.P fn.params.toList && fV (jo cx.P 8) args && fn.body.isSome && !(fn.name == "runtime.NumGoroutine") then cx.spec f args else none
  | none => none
 | _ => none
def qI (cx : Ctx) (M : Mm) (tm : List AV) (b : Builtin) (c : Call) : Option (Bool × AV) :=
 match b, c.args.toList, c.argTypes.toList with
 | .len, [x], [t] => okV (zU cx.P t M (aC cx.P tm t x))
 | .min, x :: r, t :: ts => okV (sJ (aC cx.P tm t x) (bH cx.P tm ts r))
 | .max, x :: r, t :: ts => okV (qP (aC cx.P tm t x) (bH cx.P tm ts r))
 | _, _, _ => none
def Av (cx : Ctx) (t : TypeId) (l c : Operand) : Option Nat :=
 match l, c with
 | .const (.int _ x), .const (.int _ y) => if cx.pln t && decide (x = y) && decide (0 <= x) && decide (x * cx.P.bytesOf (cB cx.P t) <= 140737488355328) && decide (x <= 1000000) then some x.toNat else none
 | _, _ => none
def bP (cx : Ctx) (M : Mm) (tm : List AV) (o : Oper) : Option (Bool × AV) :=
 let P := cx.P
 match o.op with
 | .move x | .assign x => some (true, aC P tm o.type x)
 | .pick c a b =>
  match aC P tm 0 c with
  | .bool t => some (true, nK P 8 t (aC P tm o.type a) (aC P tm o.type b))
  | _ => none
 | .build t ps => let l := uD P tm t ps.toList; if qK P t l then okV (EI P t l) else none
 | .buildSlice t n ps => let l := uD P tm t ps.toList; if qK P t l && yM P l then okV (uL P t n l) else none
 | .makeSlice t l c => match Av cx t l c with | some n => okV (uL P t n []) | none => none
 | .load t x => okV (jq P M t (aC P tm 0 x))
 | .nilCheck x => Qy (aC P tm 0 x)
 | .binOp op t x y ty => match Ih P op t (aC P tm t x) y with
  | some r => some r
  | none => FR P op t (aC P tm t x) (aC P tm ty y)
 | .unOp op t x => okV (Ab op (aC P tm t x))
 | .convert src dst x => if (P.underlying src).isSome then okV (sW P src dst M (aC P tm src x)) else none
 | .makeInterface t x => let v := aC P tm t x; if fits P t v then okV (match P.underlying t with | some (.interface _) => none | some _ => some (.iface t v) | none => none) else none
 | .makeFunc fn first cap => some (true, .func fn (bH P tm [] first.toList) (bH P tm [] cap.toList))
 | .slice t x lo hi mx => if (P.info? (cB P t)).isSome then A9 P t (aC P tm t x) (nG P tm lo) (nG P tm hi) (nG P tm mx) else none
 | .fieldAddr t x k => okV (HY P t (aC P tm 0 x) k)
 | .field t x k => okV (HV P t (aC P tm t x) k)
 | .indexAddr t x i => match aC P tm 0 i with | .int _ n => if (P.info? (cB P t)).isSome then Gp P t (aC P tm t x) n else none | _ => none
 | .index t x i => match aC P tm 0 i with | .int _ n => if (P.info? (cB P t)).isSome then EK P t (aC P tm t x) n else none | _ => none
 | .typeAssert x _ t ok => okV (F7 P (aC P tm 0 x) t ok)
 | .extract x i => match aC P tm 0 x with | .tuple vs => if Nat.blt i vs.length then some (true, vs.getD i .dead) else none | _ => none
 | .call c => match c.callee with
  | .builtin b => qI cx M tm b c
  | _ => sH cx tm c
 | _ => none
inductive T where
 | fail
 | leaf (tm : List AV)
 | br (b : Bool) (x y : T)
def bY : AV := .tuple []
def aT (tm : List AV) (d : Option Nat) (v : AV) : List AV :=
 match d with
 | some i => tm.set i v
 | none => tm
def jr (ops : Array Oper) (j : Nat) : Option Nat :=
 match ops[j]? with
 | some o => o.dst
 | none => none
def stepT (cx : Ctx) (M : Mm) (o : Oper) (tm : List AV) (k : List AV -> T) : T :=
 match bP cx M tm o with
 | some (ok, v) => .br ok (k (aT tm o.dst v)) .fail
 | none => .fail
def eU (cx : Ctx) (M : Mm) (ops : Array Oper) : List Oper -> List AV -> (List AV -> T) -> T
 | [], tm, k => k tm
 | o :: rest, tm, k =>
  match o.guard with
  | none => stepT cx M o tm fun tm => eU cx M ops rest tm k
  | some (j, want) =>
   match jr ops j with
   | none => .fail
   | some g =>
    match tm.getD g .dead with
    | .bool b =>
     .br b
      (if want then stepT cx M o (tm.set g (.bool true)) fun tm => eU cx M ops rest tm k else eU cx M ops rest (aT (tm.set g (.bool true)) o.dst bY) k)
      (if want then eU cx M ops rest (aT (tm.set g (.bool false)) o.dst bY) k else stepT cx M o (tm.set g (.bool false)) fun tm => eU cx M ops rest tm k)
    | .tuple [] => eU cx M ops rest (aT tm o.dst bY) k
    | _ => .fail
def mP (cx : Ctx) (M : Mm) : Code -> List AV -> (List AV -> T) -> T
 | .skip, tm, k => k tm
 | .region _ ops _, tm, k => eU cx M ops ops.toList tm k
 | .seq a b, tm, k => mP cx M a tm fun tm => mP cx M b tm k
 | .cond c a b, tm, k =>
  match aC cx.P tm 0 c with
  | .bool t => .br t (mP cx M a tm k) (mP cx M b tm k)
  | _ => .fail
 | _, _, _ => .fail
def bX (b x y : Bool) : Bool := cond x (cond y true b) (cond y (!b) false)
def lN (i : Nat) : List (Nat × Bool) -> Option Bool
 | [] => none
 | (j, b) :: r => if Nat.beq j i then some b else lN i r
def qH (kn : List (Nat × Bool)) : Operand -> Option Bool
 | .tmp i => lN i kn
 | .const (.bool b) => some b
 | _ => none
def rU (kn : List (Nat × Bool)) (o : Oper) : Option Bool :=
 match o.op with
 | .move x | .assign x => qH kn x
 | .pick c a b => match qH kn c with
  | some true => qH kn a
  | some false => qH kn b
  | none => none
 | .unOp .not _ x => match qH kn x with
  | some b => some (!b)
  | none => none
 | _ => none
def mO (d : Nat) (kn : List (Nat × Bool)) : List (Nat × Bool) := kn.filter fun p => !(Nat.beq p.1 d)
def lS (kn : List (Nat × Bool)) (d : Option Nat) (v : Option Bool) (n : Nat) : List (Nat × Bool) :=
 match d with
 | none => kn
 | some d => match v with
  | some b => if Nat.blt d n then (d, b) :: mO d kn else mO d kn
  | none => mO d kn
def fH (cx : Ctx) (M : Mm) (ops : Array Oper) : List Oper -> List (Nat × Bool) -> List AV -> (List AV -> T) -> T
 | [], kn, tm, k => k tm
 | o :: rest, kn, tm, k =>
  match o.guard with
  | none => stepT cx M o tm fun tm' => fH cx M ops rest (lS kn o.dst (rU kn o) tm.length) tm' k
  | some (j, want) =>
   match jr ops j with
   | none => .fail
   | some g =>
    match lN g kn with
    | some b => if b = want then stepT cx M o tm fun tm' => fH cx M ops rest (lS kn o.dst (rU kn o) tm.length) tm' k else fH cx M ops rest (lS kn o.dst none 0) (aT tm o.dst bY) k
    | none =>
     match tm.getD g .dead with
     | .bool b =>
      let kt := (g, true) :: mO g kn
      let kf := (g, false) :: mO g kn
      .br b
       (if want then stepT cx M o (tm.set g (.bool true)) fun tm' => fH cx M ops rest (lS kt o.dst (rU kt o) tm.length) tm' k else fH cx M ops rest (lS kt o.dst none 0) (aT (tm.set g (.bool true)) o.dst bY) k)
       (if want then fH cx M ops rest (lS kf o.dst none 0) (aT (tm.set g (.bool false)) o.dst bY) k else stepT cx M o (tm.set g (.bool false)) fun tm' => fH cx M ops rest (lS kf o.dst (rU kf o) tm.length) tm' k)
     | .tuple [] => fH cx M ops rest (lS kn o.dst none 0) (aT tm o.dst bY) k
     | _ => .fail
def kN (cx : Ctx) (M : Mm) : Code -> List AV -> (List AV -> T) -> T
 | .skip, tm, k => k tm
 | .region _ ops _, tm, k => fH cx M ops ops.toList [] tm k
 | .seq a b, tm, k => kN cx M a tm fun tm => kN cx M b tm k
 | .cond c a b, tm, k =>
  match aC cx.P tm 0 c with
  | .bool t => .br t (kN cx M a tm k) (kN cx M b tm k)
  | _ => .fail
 | _, _, _ => .fail
def mM (P : Program) (b : Bool) (x y : List AV) : List Nat -> List AV -> List AV
 | [], base => base
 | d :: ds, base => mM P b x y ds (base.set d (nK P 8 b (x.getD d .dead) (y.getD d .dead)))
def T.merge (P : Program) (D : List Nat) : T -> Option (Bool × List AV)
 | .fail => none
 | .leaf tm => some (true, tm)
 | .br b x y =>
  match x.merge P D, y.merge P D with
  | none, none => none
  | some (o, tm), none => some (cond b o false, tm)
  | none, some (o, tm) => some (cond b false o, tm)
  | some (o1, t1), some (o2, t2) => some (bX b o1 o2, mM P b t1 t2 D t1)
def FE (cx : Ctx) (o : Oper) : Bool :=
 match o.op with
 | .move _ | .assign _ | .pick .. | .build .. | .buildSlice .. | .load .. | .nilCheck _ | .binOp .. | .unOp .. | .convert .. | .makeInterface .. | .makeFunc .. | .slice .. | .fieldAddr .. | .field ..
 | .indexAddr .. | .index .. | .typeAssert .. | .extract .. => true
 | .call c => match c.callee with
  | .builtin .len | .builtin .min | .builtin .max => true
  | .value (.func f) => (cx.spec f []).isSome
  | _ => false
 | .makeSlice t l c => (Av cx t l c).isSome
 | _ => false
def yZ (cx : Ctx) : List Oper -> Bool
 | [] => true
 | o :: r => FE cx o && yZ cx r
def J2 : List Oper -> Bool
 | [] => false
 | o :: r => o.guard.isSome || J2 r
def gF (cx : Ctx) : Code -> Bool
 | .skip => true
 | .region _ ops draw => !draw && yZ cx ops.toList
 | .seq a b => gF cx a && gF cx b
 | .cond _ a b => gF cx a && gF cx b
 | _ => false
def dstsOf : List Oper -> List Nat
 | [] => []
 | o :: r => match o.dst with | some d => d :: dstsOf r | none => dstsOf r
def iN : Code -> List Nat
 | .region _ ops _ => dstsOf ops.toList
 | .seq a b => iN a ++ iN b
 | .cond _ a b => iN a ++ iN b
 | _ => []
def mU : List Oper -> List Nat
 | [] => []
 | o :: r => if o.guard.isSome then dstsOf (o :: r) ++ [] else mU r
def eZ (ops : Array Oper) : List Oper -> List Nat
 | [] => []
 | o :: r => match o.guard with
  | some (j, _) => match jr ops j with | some g => g :: eZ ops r | none => eZ ops r
  | none => eZ ops r
def aV (t : Nat) (tf : List (Nat × TF)) : List (Nat × TF) :=
 tf.filter fun p => !(Nat.beq p.1 t) && match p.2 with | .viaT s => !(Nat.beq s t) | _ => true
def lZ (ts : List Nat) (tf : List (Nat × TF)) : List (Nat × TF) := ts.foldl (fun tf t => aV t tf) tf
def gM (t : Nat) : List (Nat × TF) -> Option TF
 | [] => none
 | (i, f) :: r => if Nat.beq i t then some f else gM t r
def apart : List Nat -> List Nat -> Bool
 | i :: p, j :: q => if Nat.beq i j then apart p q else true
 | _, _ => false
def iG (r : Nat) (p : List Nat) (ro : List (Nat × List Nat)) : List (Nat × List Nat) := ro.filter fun x => !(Nat.beq x.1 r) || apart x.2 p
def fC (r : Nat) (p : List Nat) (tf : List (Nat × TF)) : List (Nat × TF) :=
 tf.filter fun x => match x.2 with | .viaR r' q => !(Nat.beq r' r) || apart q p | _ => true
def fD (tf : List (Nat × TF)) : List (Nat × TF) := tf.filter fun x => match x.2 with | .viaR _ _ => false | _ => true
def iF (r : Nat) (p : List Nat) : List (Nat × List Nat) -> Bool
 | [] => false
 | (i, q) :: l => (Nat.beq i r && decide (q = p)) || iF r p l
def Fr.set (fr : Fr) (d : Option Nat) (v : AV) : Fr :=
 match d with
 | some t => { tmps := fr.tmps.set t v, tf := aV t fr.tf }
 | none => fr
def oC (s t : Nat) (tf : List (Nat × TF)) : Option TF :=
 match gM s tf with
 | some .own => some (.viaT s)
 | some (.viaT u) => if Nat.beq u t then none else some (.viaT u)
 | f => f
def Fr.gG (fr : Fr) (d : Option Nat) (v : AV) (f : Option TF) : Fr :=
 match d, f with
 | some t, some fl => if Nat.blt t fr.tmps.length then { tmps := fr.tmps.set t v, tf := (t, fl) :: aV t fr.tf } else fr.set d v
 | d, _ => fr.set d v
def Fr.move (P : Program) (fr : Fr) (d : Option Nat) (t : TypeId) (x : Operand) : Fr :=
 let v := aC P fr.tmps t x
 match v, x, d with
 | .slice _ _ _, .tmp s, some d' => if Nat.beq s d' then fr else fr.gG d v (oC s d' fr.tf)
 | _, _, _ => fr.set d v
def Fr.assign (P : Program) (fr : Fr) (d : Option Nat) (t : TypeId) (x : Operand) : Fr :=
 let v := aC P fr.tmps t x
 match v, x, d with
 | .slice e l true, _, some d' => fr.gG d (.slice e l false) (some .own)
 | .slice e l false, .tmp s, some d' =>
  if Nat.beq s d' then fr else if Nat.ble fr.tmps.length d' then fr.set d v else
  match gM s fr.tf with
  | some .own => { tmps := fr.tmps.set d' v, tf := (s, .viaT d') :: (d', .own) :: aV d' (aV s fr.tf) }
  | some (.viaT u) => if Nat.beq u d' || Nat.beq s u then fr.set d v else { tmps := fr.tmps.set d' v, tf := (s, .viaT d') :: (u, .viaT d') :: (d', .own) :: aV d' (aV u (aV s fr.tf)) }
  | some (.viaR r p) => { tmps := fr.tmps.set d' v, tf := (d', .viaR r p) :: aV d' fr.tf }
  | none => fr.set d v
 | _, _, _ => fr.set d v
inductive Tg where
 | fn (f : FuncId)
 | yl (r : Nat)
abbrev iV (R : Type) := Tg -> List AV -> Mm -> (Res -> Mm -> Option R) -> Option R
def Row.wr : Row -> Bool
 | .bg _ _ => false
 | _ => true
section
variable {R : Type} (cx : Ctx) (fn : FuncId) (call : iV R)
def appended (P : Program) (M : Mm) (elem : TypeId) : AV -> Option (List AV)
 | .slice e l _ => if Nat.beq e elem then some l else none
 | .str s => if nT P elem && Nat.beq (P.cellsOf elem) 1 then some (s.map CU) else none
 | .msl r p e off _ len => if Nat.beq e elem && fu P 20 elem then some (sub ((M.rows.getD r (.arr 0 [])).elems p) off (off + len)) else none
 | _ => none
def rO (x : Operand) (exact : Bool) (fr : Fr) (M : Mm) : Option (List (Nat × TF) × List (Nat × List Nat)) :=
 if exact then some (fr.tf, M.ro) else
 match x with
 | .tmp s =>
  match gM s fr.tf with
  | some .own => some (aV s fr.tf, M.ro)
  | some (.viaT u) => some (aV u fr.tf, M.ro)
  | some (.viaR r p) => some (fC r p fr.tf, iG r p M.ro)
  | none => none
 | _ => none
def qZ (P : Program) (elem u : TypeId) : Bool :=
 Nat.blt 0 (P.cellsOf elem) && Nat.blt 0 (P.bytesOf elem) && (fits P elem (zero P elem) && (aQ P elem || Nat.beq (P.cellsOf elem) 1)) && match P.underlying u with | some (.slice _) | some .string => true | _ => false
def zY (o : Oper) (c : Call) (fr : Fr) (M : Mm) (next : Fr -> Mm -> Option R) : Option R :=
 match c.args.toList, c.argTypes.toList, o.dst with
 | [x, y], [t, u], some d =>
  match cx.P.underlying t, aC cx.P fr.tmps t x with
  | some (.slice elem), .slice e l ex =>
   if Nat.beq e elem && qZ cx.P elem u && Nat.blt d fr.tmps.length then
    match appended cx.P M elem (aC cx.P fr.tmps u y) with
    | none => none
    | some l2 =>
     cond (decide ((l.length + l2.length) * cx.P.bytesOf elem <= 140737488355328))
      (if cx.muta fn then
       if ex then
        cond (decide (0 < l2.length))
         (next (fr.set (some d) (.msl M.rows.length [] elem 0 0 (l ++ l2).length)) { M with rows := M.rows ++ [.arr elem (l ++ l2)] })
         none
       else none
      else
       match rO x ex fr M with
       | none => none
       | some (tf, ro) => next { tmps := fr.tmps.set d (.slice elem (l ++ l2) false), tf := (d, .own) :: aV d tf } { M with ro := ro })
      none
   else none
  | _, _ => none
 | _, _, _ => none
def Bu (t : TypeId) (a x : Operand) (fr : Fr) (M : Mm) (next : Fr -> Mm -> Option R) : Option R :=
 match aC cx.P fr.tmps 0 a with
 | .ptr r p t' _ =>
  let v := aC cx.P fr.tmps t x
  if bM cx.P t' t && fits cx.P t v && (M.rows.getD r (.arr 0 [])).wr then
   let row := M.rows.getD r (.arr 0 [])
   let tf := fC r p fr.tf
   let ro := iG r p M.ro
   match v with
   | .slice e l true => next { fr with tf := tf } { rows := M.rows.set r (row.put p (.slice e l false)), ro := (r, p) :: ro }
   | .slice e l false =>
    match x with
    | .tmp s =>
     match gM s tf with
     | some .own => next { fr with tf := (s, .viaR r p) :: fC r p (aV s fr.tf) } { rows := M.rows.set r (row.put p v), ro := (r, p) :: ro }
     | some (.viaT u) => next { fr with tf := (s, .viaR r p) :: fC r p (aV s (aV u fr.tf)) } { rows := M.rows.set r (row.put p v), ro := (r, p) :: ro }
     | _ => next { fr with tf := tf } { rows := M.rows.set r (row.put p v), ro := ro }
    | _ => next { fr with tf := tf } { rows := M.rows.set r (row.put p v), ro := ro }
   | _ => next { fr with tf := tf } { rows := M.rows.set r (row.put p v), ro := ro }
  else none
 | _ => none
def wK : Operand -> Operand -> Bool
 | .tmp a, .tmp b => Nat.beq a b
 | .const (.int k a), .const (.int k' b) => decide (k = k') && decide (a = b)
 | _, _ => false
def y7 : Operand -> Bool
 | .const (.int _ a) => decide (a = 0)
 | _ => false
def Cm (t : TypeId) (l c : Operand) (o : Oper) (fr : Fr) (M : Mm) (next : Fr -> Mm -> Option R) : Option R :=
 match cx.P.underlying t, aC cx.P fr.tmps 0 c, o.dst with
 | some (.slice e), .int k n, some d =>
  if fits cx.P e (zero cx.P e) && (aQ cx.P e || Nat.beq (cx.P.cellsOf e) 1) && Nat.blt d fr.tmps.length then
   cond (decide (0 <= n) && decide (n * cx.P.bytesOf e <= 140737488355328) && decide (n <= 140737488355328))
    (if wK l c then
     if cx.pln t then next { tmps := fr.tmps.set d (.slice e (List.replicate n.toNat (zero cx.P e)) false), tf := (d, .own) :: aV d fr.tf } M else
     next (fr.set (some d) (.msl M.rows.length [] e 0 0 n.toNat)) { M with rows := M.rows ++ [.arr e (List.replicate n.toNat (zero cx.P e))] }
    else if y7 l then next { tmps := fr.tmps.set d (.slice e [] false), tf := (d, .own) :: aV d fr.tf } M
    else none)
    none
  else none
 | _, _, _ => none
def Gf (c : Call) (o : Oper) (fr : Fr) (M : Mm) (next : Fr -> Mm -> Option R) : Option R :=
 match c.args.toList, c.argTypes.toList with
 | [x, y], [t, u] =>
  match cx.P.underlying t, aC cx.P fr.tmps t x with
  | some (.slice elem), .msl r p e off coff len =>
   if Nat.beq e elem && Nat.blt 0 (cx.P.cellsOf elem) && (cx.P.info? elem).isSome && (M.rows.getD r (.arr 0 [])).wr then
    match appended cx.P M elem (aC cx.P fr.tmps u y) with
    | none => none
    | some l2 =>
     let row := M.rows.getD r (.arr 0 [])
     let l := row.elems p
     let n := min l2.length len
     next (({ fr with tf := fC r p fr.tf } : Fr).set o.dst (.int .i64 (n : Nat))) { rows := M.rows.set r (row.jG p (l.take off ++ (l2.take n ++ l.drop (off + n)))), ro := iG r p M.ro }
   else none
  | _, _ => none
 | _, _ => none
def Ad (k v : AV) : List (AV × AV) -> (List (AV × AV) -> Option R) -> Option R
 | [], K => K [(k, v)]
 | (k', v') :: r, K =>
  match zO k k' with
  | some b => cond b (K ((k', v) :: r)) (Ad k v r fun r => K ((k', v') :: r))
  | none => none
def qb (P : Program) (t : TypeId) (k : AV) : Bool :=
 match P.underlying t, k with
 | some (.int _), .int _ _ | some .string, .str _ | some .bool, .bool _ => true
 | _, _ => false
def DY (t : TypeId) (m k v : Operand) (fr : Fr) (M : Mm) (next : Fr -> Mm -> Option R) : Option R :=
 match cx.P.underlying t, aC cx.P fr.tmps t m with
 | some (.map kt et), .mapv (some r) =>
  match M.rows.getD r (.arr 0 []) with
  | .map kt' et' es =>
   let k := aC cx.P fr.tmps kt k
   let v := aC cx.P fr.tmps et v
   if Nat.beq kt kt' && Nat.beq et et' && qb cx.P kt k && fits cx.P kt k && fits cx.P et v then Ad k v es fun es => next fr { M with rows := M.rows.set r (.map kt et es) }
   else none
  | _ => none
 | _, _ => none
def uo (t : TypeId) (m k : Operand) (ok : Bool) (o : Oper) (fr : Fr) (M : Mm) (next : Fr -> Mm -> Option R) : Option R :=
 match cx.P.underlying t with
 | some (.map kt et) =>
  let k := aC cx.P fr.tmps kt k
  let ret (v : Option AV) : Option R :=
   let x := match v with | some v => v | none => zero cx.P et
   next (fr.set o.dst (if ok then .tuple [x, .bool v.isSome] else x)) M
  if qb cx.P kt k && fits cx.P kt k && fits cx.P et (zero cx.P et) then
   match aC cx.P fr.tmps t m with
   | .mapv none => ret none
   | .mapv (some r) =>
    match M.rows.getD r (.arr 0 []) with
    | .map kt' et' es => if Nat.beq kt kt' && Nat.beq et et' then nO k es ret else none
    | _ => none
   | _ => none
  else none
 | _ => none
def AZ (cx : Ctx) (fn : FuncId) (x : Operand) (hi mx : Option Operand) (d : Option Nat) (fr : Fr) (M : Mm) (v : AV) : Fr × Mm :=
 if cx.take fn then
  match x, hi, mx, d, v with
  | .tmp s, none, none, some d', .slice _ _ false =>
   if Nat.ble fr.tmps.length d' then (fr.set d v, M) else
   match gM s fr.tf with
   | none => (fr.set d v, M)
   | some _ =>
    match rO (.tmp s) false fr M with
    | some (tf, ro) => ({ tmps := fr.tmps.set d' v, tf := (d', .own) :: aV d' tf }, { M with ro := ro })
    | none => (fr.set d v, M)
  | _, _, _, _, _ => (fr.set d v, M)
 else (fr.set d v, M)
def target (P : Program) (f : AV) (args : List AV) : Option (Tg × List AV) :=
 match f with
 | .func (.func g) first cap => some (.fn g, (first ++ args) ++ cap)
 | .yld r => some (.yl r, args)
 | _ => none
def dA (o : Oper) (fr : Fr) (M : Mm) (next : Fr -> Mm -> Option R) (pan : AV -> Fr -> Mm -> Option R) : Option R :=
 let P := cx.P
 match o.op with
 | .move x => next (fr.move P o.dst o.type x) M
 | .assign x => next (fr.assign P o.dst o.type x) M
 | .alloc t =>
  let z := zero P t
  if fits P t z && (aQ P t || Nat.beq (P.cellsOf t) 1) then next (fr.set o.dst (.ptr M.rows.length [] t 0)) { M with rows := M.rows ++ [.var t z] } else none
 | .box t x =>
  let v := aC P fr.tmps t x
  if fits P t v && (aQ P t || Nat.beq (P.cellsOf t) 1) then next (fr.set o.dst (.ptr M.rows.length [] t 0)) { M with rows := M.rows ++ [.var t v] } else none
 | .load t x =>
  match okV (jq P M t (aC P fr.tmps 0 x)) with
  | some (_, v) =>
   match v, aC P fr.tmps 0 x with
   | .slice _ _ _, .ptr r p _ _ => next (fr.gG o.dst v (if iF r p M.ro then some (.viaR r p) else none)) M
   | _, _ => next (fr.set o.dst v) M
  | none => none
 | .store t a x => Bu cx t a x fr M fun fr M => next (fr.set o.dst bY) M
 | .makeMap t r =>
  match P.underlying t, r.all (fun x => match aC P fr.tmps 0 x with | .int _ _ => true | _ => false) with
  | some (.map k e), true => next (fr.set o.dst (.mapv (some M.rows.length))) { M with rows := M.rows ++ [.map k e []] }
  | _, _ => none
 | .mapUpdate t m k v => DY cx t m k v fr M fun fr M => next (fr.set o.dst bY) M
 | .insert t m k v => DY cx t m k v fr M fun fr M => next (fr.set o.dst bY) M
 | .lookup t m k ok => uo cx t m k ok o fr M next
 | .panic x => match aC P fr.tmps 0 x with | .iface t v => pan (.iface t v) fr M | _ => none
 | .makeSlice t l c => Cm cx t l c o fr M next
 | .slice _ x _ hi mx => match bP cx M fr.tmps o with
  | some (ok, v) => cond ok (let z := AZ cx fn x hi mx o.dst fr M v; next z.1 z.2) none
  | none => none
 | .call c =>
  match c.callee with
  | .builtin .append => zY cx fn o c fr M next
  | .builtin .copy => Gf cx c o fr M next
  | .builtin b => match qI cx M fr.tmps b c with | some (ok, v) => cond ok (next (fr.set o.dst v) M) none | none => none
  | .value f =>
   match sH cx fr.tmps c with
   | some (ok, v) => cond ok (next (fr.set o.dst v) M) none
   | none =>
    match target P (aC P fr.tmps 0 f) (bH P fr.tmps c.argTypes.toList c.args.toList) with
    | some (g, args) =>
     call g args M fun r M =>
      let fr := { fr with tf := fD fr.tf }
      match r with
      | .ret v => next (fr.set o.dst v) M
      | .retO v => next (fr.gG o.dst v (some .own)) M
      | .pan v => pan v fr M
    | none => none
  | _ => none
 | _ => match bP cx M fr.tmps o with
  | some (ok, v) => cond ok (next (fr.set o.dst v) M) none
  | none => none
def lD (ops : Array Oper) : List Oper -> Fr -> Mm -> (AX -> Fr -> Mm -> Option R) -> Option R
 | [], fr, M, K => K .normal fr M
 | o :: rest, fr, M, K =>
  match o.guard with
  | none => dA cx fn call o fr M (fun fr M => lD ops rest fr M K) (fun v fr M => K (.panic v) fr M)
  | some (j, want) =>
   match jr ops j with
   | none => none
   | some g =>
    match fr.tmps.getD g .dead with
    | .bool b =>
     cond b
      (let fr := { fr with tmps := fr.tmps.set g (.bool true) }
       if want then dA cx fn call o fr M (fun fr M => lD ops rest fr M K) (fun v fr M => K (.panic v) fr M) else lD ops rest (fr.set o.dst bY) M K)
      (let fr := { fr with tmps := fr.tmps.set g (.bool false) }
       if want then lD ops rest (fr.set o.dst bY) M K else dA cx fn call o fr M (fun fr M => lD ops rest fr M K) (fun v fr M => K (.panic v) fr M))
    | .tuple [] => lD ops rest (fr.set o.dst bY) M K
    | _ => none
def xZ (t : T) (D all : List Nat) (fr : Fr) (M : Mm) (K : AX -> Fr -> Mm -> Option R) : Option R :=
 match t.merge cx.P D with
 | some (ok, tm) => cond ok (K .normal { tmps := tm, tf := lZ all fr.tf } M) none
 | none => none
def iter : Nat -> (Fr -> Mm -> (Fr -> Mm -> Option R) -> Option R) -> Fr -> Mm -> Option R
 | 0, _, _, _ => none
 | m + 1, body, fr, M => body fr M (iter m body)
def nP : Code -> Option Nat
 | .region id _ _ => some id
 | .seq a b => match nP a with
  | some i => some i
  | none => nP b
 | .cond _ a b => match nP a with
  | some i => some i
  | none => nP b
 | .block _ c => nP c
 | .loop c => nP c
 | .rangeFunc _ _ a b => match nP a with
  | some i => some i
  | none => nP b
 | _ => none
def jI (c : Code) : Nat := match nP c with | some i => i | none => 0
def loops : Code -> List Code
 | .seq a b => loops a ++ loops b
 | .cond _ a b => loops a ++ loops b
 | .block _ c => loops c
 | .loop c => c :: loops c
 | .rangeFunc _ _ a b => loops a ++ loops b
 | _ => []
def zh (id : Nat) : List Code -> List Code
 | [] => []
 | c :: r => if Nat.beq (jI c) id then c :: zh id r else zh id r
def dD (body : Code) (id : Nat) : Option Code :=
 match zh id (loops body) with
 | [l] => some l
 | _ => none
def jf (i : Nat) : List Nat -> Bool
 | [] => false
 | j :: r => if Nat.beq j i then true else jf i r
def iq (ks : List Nat) : Nat -> List AV -> List AV
 | _, [] => []
 | i, v :: vs => (if jf i ks then v else .dead) :: iq ks (i + 1) vs
def Fr.only (ks : Option (List Nat)) (fr : Fr) : Fr :=
 match ks with
 | none => fr
 | some ks => { tmps := iq ks 0 fr.tmps, tf := fr.tf.filter fun p => jf p.1 ks && match p.2 with | .viaT s => jf s ks | _ => true }
structure RF where
 ps : Array Tmp
 assign : Code
 body : Code
def fZ : Code -> List RF
 | .seq a b => fZ a ++ fZ b
 | .cond _ a b => fZ a ++ fZ b
 | .block _ c => fZ c
 | .loop c => fZ c
 | .rangeFunc _ ps a b => [⟨ps, a, b⟩]
 | _ => []
def dW : Code -> Bool
 | .seq a b => dW a && dW b
 | .cond _ a b => dW a && dW b
 | .block _ c => dW c
 | .loop c => dW c
 | .rangeFunc .. => false
 | _ => true
def kM (x : RF) : Nat := jI (.seq x.assign x.body)
def pQ (id : Nat) : List RF -> List RF
 | [] => []
 | x :: r => if Nat.beq (kM x) id then x :: pQ id r else pQ id r
def vW (body : Code) (id : Nat) : Option RF :=
 match pQ id (fZ body) with
 | [x] => some x
 | _ => none
def ug (P : Program) (fn : FuncId) (id : Nat) : Option RF :=
 match P.funcs[fn]? with
 | some f => match f.body with
  | some c => vW c id
  | none => none
 | none => none
def vV (ks : Option (List Nat × List Nat)) (tm : List AV) : List AV :=
 match ks with
 | none => tm
 | some ks => iq ks.1 0 tm
def Mm.bg (P : Program) (M : Mm) (r : Nat) : Mm :=
 match M.rows.getD r (.arr 0 []) with
 | .arr e l => if fu P 20 e then { M with rows := M.rows.set r (.bg e l) } else M
 | _ => M
def rJ (rec : AV -> Mm -> AV × Mm) : List AV -> Mm -> List AV × Mm
 | [], M => ([], M)
 | v :: vs, M => ((rec v M).1 :: (rJ rec vs (rec v M).2).1, (rJ rec vs (rec v M).2).2)
def iW (P : Program) : Nat -> AV -> Mm -> AV × Mm
 | 0, v, M => (v, M)
 | d + 1, v, M =>
  match v with
  | .msl r [] e off coff len =>
   match (M.bg P r).rows.getD r (.arr 0 []) with
   | .bg e' l => if Nat.beq e e' && fu P 20 e then (.slice e (sub l off (off + len)) false, M.bg P r) else (v, M)
   | _ => (v, M)
  | .agg t ps => match P.underlying t with
   | some (.struct _) => (.agg t (rJ (iW P d) ps M).1, (rJ (iW P d) ps M).2)
   | _ => (v, M)
  | v => (v, M)
def jZ (P : Program) : List Nat -> Fr -> Mm -> Fr × Mm
 | [], fr, M => (fr, M)
 | t :: ts, fr, M =>
  match fr.tmps.getD t .dead with
  | .ptr r _ _ _ =>
   match M.rows.getD r (.arr 0 []) with
   | .var ty x => jZ P ts fr { (iW P 4 x M).2 with rows := (iW P 4 x M).2.rows.set r (.var ty (iW P 4 x M).1) }
   | _ => jZ P ts fr M
  | _ => jZ P ts (fr.set (some t) (iW P 4 (fr.tmps.getD t .dead) M).1) (iW P 4 (fr.tmps.getD t .dead) M).2
def eD (P : Program) : Nat -> Nat -> AV -> Bool
 | 0, _, _ => false
 | d + 1, N, v =>
  match v with
  | .ptr r _ _ _ => Nat.blt r N
  | .rptr t _ => bJ P 20 t
  | .slice e _ _ => bJ P 20 e
  | .msl r _ _ _ _ _ => Nat.blt r N
  | .mapv r => match r with | some r => Nat.blt r N | none => true
  | .yld r => Nat.blt r N
  | .func _ f c => fV (eD P d N) f && fV (eD P d N) c
  | .iface _ v => eD P d N v
  | .agg t ps =>
   match P.underlying t with
   | some (.struct _) => fV (eD P d N) ps
   | some (.array _ e) => fu P 20 e
   | _ => false
  | .tuple vs => fV (eD P d N) vs
  | _ => true
def Da (P : Program) (N : Nat) : List (AV × AV) -> Bool
 | [] => true
 | (k, v) :: r => eD P 8 N k && eD P 8 N v && Da P N r
def xD (P : Program) (N : Nat) : Row -> Bool
 | .var _ v => eD P 8 N v
 | .arr e l => if fu P 20 e then true else fV (eD P 8 N) l
 | .map _ _ es => Da P N es
 | .bg e l => if fu P 20 e then true else fV (eD P 8 N) l
 | .loop _ _ tm _ _ => fV (eD P 8 N) tm
def vG (P : Program) (N : Nat) : List Row -> Bool
 | [] => true
 | r :: rs => xD P N r && vG P N rs
def Mm.cut (M : Mm) (N : Nat) : Mm := { rows := M.rows.take N, ro := M.ro.filter fun x => Nat.blt x.1 N }
def Fr.cut (fr : Fr) (N : Nat) : Fr := { fr with tf := fr.tf.filter fun x => match x.2 with | .viaR r _ => Nat.blt r N | _ => true }
def mG (P : Program) (N : Nat) (k : Fr -> Mm -> Option R) (fr : Fr) (M : Mm) : Option R :=
 if fV (eD P 8 N) fr.tmps && vG P N (M.rows.take N) then k (fr.cut N) (M.cut N) else k fr M
def vH (rec : TypeId -> AV -> List (List Nat)) : Nat -> List Field -> List AV -> List (List Nat)
 | i, f :: fs, v :: vs => (rec f.type v).map (i :: ·) ++ vH rec (i + 1) fs vs
 | _, _, _ => []
def uM (P : Program) : Nat -> TypeId -> AV -> List (List Nat)
 | 0, _, _ => []
 | d + 1, t, v =>
  match v with
  | .slice _ _ _ => [[]]
  | .agg _ ps => match P.underlying t with | some (.struct fs) => vH (uM P d) 0 fs.toList ps | _ => []
  | _ => []
def kT (P : Program) : Nat -> List Row -> List (Nat × List Nat)
 | _, [] => []
 | r, .var t v :: rs => (uM P 8 t v).map (fun p => (r, p)) ++ kT P (r + 1) rs
 | r, _ :: rs => kT P (r + 1) rs
def Mm.uS (M : Mm) (x : Nat × List Nat) : Mm :=
 match (M.rows.getD x.1 (.arr 0 [])).get x.2 with
 | .slice e l true => { rows := M.rows.set x.1 ((M.rows.getD x.1 (.arr 0 [])).put x.2 (.slice e l false)), ro := x :: M.ro }
 | _ => M
def Mm.norm (P : Program) (M : Mm) : Mm :=
 let ps := kT P 0 M.rows
 let M' := ps.foldl Mm.uS M
 { rows := M'.rows, ro := ps.filter (fun x => iF x.1 x.2 M'.ro) ++ M'.ro.filter (fun x => !(iF x.1 x.2 ps)) }
def uR (P : Program) (keep : Option (List Nat × List Nat)) (M : Mm) : Mm :=
 match keep with
 | none => M
 | some _ => M.norm P
def nV (L : List (Nat × List Nat)) (fr : Fr) : Fr := { fr with tf := fr.tf.filter fun x => match x.2 with | .viaR r p => !(iF r p L) | _ => true }
def qB (L : List (Nat × List Nat)) (M : Mm) : Mm := { M with ro := M.ro.filter fun x => !(iF x.1 x.2 L) }
def ou (P : Program) (L : List (Nat × List Nat)) (N : Nat) (keep : Option (List Nat × List Nat)) (K : AX -> Fr -> Mm -> Option R) (k : Fr -> Mm -> Option R) : AX -> Fr -> Mm -> Option R :=
 fun e fr M =>
  match keep with
  | none => match e with | .normal => k fr M | e => K e fr M
  | some ks =>
   match e with
   | .normal => mG P N (fun fr M => k (nV L fr) (qB L (M.norm P))) (fr.only (some ks.1)) M
   | .panic v => K (.panic v) (fr.only (some ks.2)) M
   | e => mG P N (K e) (fr.only (some ks.2)) M
def blocks (ops : Array Oper) : Bool :=
 (List.range (ops.size - 1)).all fun j => (List.range ops.size).any fun k => Nat.blt j k && match ops[k]? with
  | some o => o.after.toList.any fun e => Region.binds .any e && Nat.beq e.on j
  | none => false
def QI (ops : Array Oper) : Option Oper := ops[ops.size - 1]?
def bQ (ops : Array Oper) (i j : Nat) : Bool :=
 match ops[i]? with
 | some o => o.after.toList.any fun e => Region.binds .any e && Nat.beq e.on j
 | none => false
def appArg (o : Oper) : Option Nat :=
 match o.op with
 | .call c => match c.callee with
  | .builtin .append => match c.args.toList with | .tmp t :: _ => some t | _ => none
  | _ => none
 | _ => none
def feeds (ops : Array Oper) (d : Nat) : Bool := (List.range ops.size).any fun j => match ops[j]? with | some o => (match appArg o with | some t => Nat.beq t d | none => false) | none => false
def VG (ops : Array Oper) (s : Nat) : Bool := (List.range ops.size).any fun j => match ops[j]? with | some o => (appArg o).isSome && (match o.dst with | some t => Nat.beq t s | none => false) | none => false
def Aq (o : Oper) : Bool := match o.op with | .alloc _ => true | _ => false
def multi (ops : Array Oper) : Bool := decide (2 <= (ops.toList.filter Aq).length)
def mQ (cx : Ctx) (fn : FuncId) (ops : Array Oper) (o : Oper) : Bool :=
 match o.op, o.dst with
 | .move (.tmp s), some d => !(Nat.beq s d) && !(cx.muta fn) && feeds ops d
 | .assign (.tmp s), some d => !(Nat.beq s d) && !(cx.muta fn) && VG ops s
 | _, _ => false
def aY (cx : Ctx) (fn : FuncId) (ops : Array Oper) (o : Oper) : Bool :=
 match o.op with
 | .store .. | .box .. => true
 | .makeSlice t l c => (Av cx t l c).isNone
 | .alloc _ => !(multi ops)
 | .move _ | .assign _ => mQ cx fn ops o
 | .call c => match c.callee with
  | .builtin .append => !(cx.muta fn)
  | .value (.func f) => cx.newf f || cx.actf f
  | _ => false
 | _ => false
def bB (ops : Array Oper) (o : Oper) : Bool := Aq o && multi ops
def gL (o : Oper) : Bool := match o.op with | .load .. | .convert .. | .lookup .. => true | _ => false
def pJ (o : Oper) : Bool := match o.op with | .load .. | .store .. | .convert .. | .lookup .. => false | _ => true
def gq (o : Oper) : Bool := match o.op with | .lookup .. => true | _ => false
def looks (o : Oper) : List Nat := o.op.operands.toList.filterMap fun x => match x with | .tmp t => some t | _ => none
def mo (cx : Ctx) (fn : FuncId) (ops : Array Oper) (j : Nat) : Bool := match ops[j]? with | some o => aY cx fn ops o | none => false
def nQ (ops : Array Oper) (j : Nat) : Bool := match ops[j]? with | some o => bB ops o | none => false
def kS (ops : Array Oper) (j : Nat) : Option Nat := match ops[j]? with | some o => o.dst | none => none
def qJ (cx : Ctx) (fn : FuncId) (ops : Array Oper) (i : Nat) (o : Oper) (j : Nat) : Bool :=
 Nat.blt i j && bQ ops j i && ((!(aY cx fn ops o) && pJ o) || (mQ cx fn ops o && mo cx fn ops j))
def D7 (cx : Ctx) (fn : FuncId) (ops : Array Oper) (i : Nat) (o : Oper) : Bool :=
 o.guard.isNone && (aY cx fn ops o || bB ops o || gq o || (FE cx o && (gL o || pJ o))) &&
 (o.after.toList.all fun e => !(Region.binds .any e) || Nat.blt e.on i) &&
 ((List.range ops.size).all fun j => match kS ops j with
  | none => true
  | some t => (!(jf t (looks o)) || ((Nat.blt j i && bQ ops i j) || qJ cx fn ops i o j)) && (Nat.beq j i || match o.dst with | some u => !(Nat.beq t u) | none => true)) &&
 (!(aY cx fn ops o) || (List.range i).all fun j => !(mo cx fn ops j) || bQ ops i j || (List.range i).any fun k => Nat.blt j k && mo cx fn ops k) &&
 (if bB ops o then (o.after.toList.all fun e => !(Region.binds .any e)) && o.dst.isSome
  else ((List.range ops.size).all fun j => !(nQ ops j) || bQ ops i j) || (!(aY cx fn ops o) && (List.range ops.size).all fun j => !(nQ ops j) || !(bQ ops i j)))
def Dr (cx : Ctx) (fn : FuncId) (ops : Array Oper) : Bool := (List.range ops.size).all fun i => match ops[i]? with | some o => D7 cx fn ops i o | none => false
def noT (tf : List (Nat × TF)) : List (Nat × TF) := tf.filter fun x => match x.2 with | .viaT _ => false | _ => true
def lq (P : Program) (o : Oper) (tm : List AV) (M : Mm) (v : AV) : Option (Nat × TF) :=
 match o.op, o.dst, v with
 | .load _ a, some t, .slice _ _ _ =>
  match aC P tm 0 a with
  | .ptr r p _ _ => if iF r p M.ro && Nat.blt t tm.length then some (t, .viaR r p) else none
  | _ => none
 | _, _, _ => none
def Bq (N : Nat) (v : AV) (rs : List Row) : Bool :=
 match rs with
 | [] => true
 | [_] => match v with
  | .mapv (some r) => Nat.beq r N
  | .ptr r [] _ _ => Nat.beq r N
  | _ => false
 | _ => false
def ji (dep : Nat) : iV R := fun t args M K =>
 match t with
 | .fn f => match cx.news dep f args M with
  | some (v, rs) => if Bq M.rows.length v rs then K (.ret v) { M with rows := M.rows ++ rs } else none
  | none => none
 | .yl _ => none
def BQ (fr : Fr) : Bool := match gM 0 fr.tf with | some .own => true | _ => false
def oD {R : Type} (K : Res -> Mm -> Option R) : AX -> Fr -> Mm -> Option R
 | .ret, fr, M => K (if BQ fr then .retO (fr.tmps.getD 0 .dead) else .ret (fr.tmps.getD 0 .dead)) M
 | .panic v, _, M => K (.pan v) M
 | _, _, _ => none
def iI (dep : Nat) : iV R := fun t args M K =>
 match dep, t with
 | d + 1, .fn f => match cx.acts d f args M with
  | some t => t.go (oD K)
  | none => none
 | _, _ => none
def qx (cx : Ctx) (o : Oper) : Option (Call × Operand) :=
 match o.op with
 | .call c => match c.callee with
  | .value (.func f) => if cx.newf f then some (c, .func f) else none
  | _ => none
 | _ => none
def y9 (dep : Nat) (o : Oper) (c : Call) (f : Operand) (fr : Fr) (M : Mm) (next : Fr -> Mm -> Option R) : Option R :=
 match target cx.P (aC cx.P fr.tmps 0 f) (bH cx.P fr.tmps c.argTypes.toList c.args.toList) with
 | some (g, args) => ji cx dep g args M fun r M => match r with | .ret v => next (({ fr with tf := fD fr.tf } : Fr).set o.dst v) M | _ => none
 | none => none
def mJ (cx : Ctx) (o : Oper) : Option (Call × Operand) :=
 match o.op with
 | .call c => match c.callee with
  | .value (.func f) => if cx.actf f then some (c, .func f) else none
  | _ => none
 | _ => none
def sD (cx : Ctx) (o : Oper) : Bool := (mJ cx o).isSome
def pX (cx : Ctx) (ops : Array Oper) (j : Nat) : Bool := match ops[j]? with | some o => sD cx o | none => false
def reach (ops : Array Oper) : Nat -> Nat -> Nat -> Bool
 | 0, _, _ => false
 | f + 1, i, j => bQ ops i j || (List.range ops.size).any fun k => bQ ops i k && reach ops f k j
def Au (cx : Ctx) (ops : Array Oper) : List Nat := (List.range ops.size).filter (pX cx ops)
def Mi (p : Nat -> Bool) : List Nat -> Nat -> Nat -> Nat
 | [], _, m => m
 | c :: r, k, m => Mi p r (k + 1) (if p c then k else m)
def keyOf (cx : Ctx) (ops : Array Oper) (i : Nat) : Nat := Mi (fun c => Nat.beq c i || reach ops 3 i c) (Au cx ops) 1 0
def Dw (cx : Ctx) (ops : Array Oper) : List Nat := (List.range ((Au cx ops).length + 1)).flatMap fun k =>
 ((List.range ops.size).filter fun i => pX cx ops i && Nat.beq (keyOf cx ops i) k) ++ ((List.range ops.size).filter fun i => !(pX cx ops i) && Nat.beq (keyOf cx ops i) k)
def gy (i : Nat) : List Nat -> Nat
 | [] => 0
 | j :: r => if Nat.beq i j then 0 else gy i r + 1
def lG (σ : List Nat) (o : Oper) : Oper := { o with after := o.after.map fun e => { e with on := gy e.on σ } }
def lX (σ : List Nat) (ops : Array Oper) : Array Oper := (σ.filterMap fun i => ops[i]?.map (lG σ)).toArray
def uP (σ : List Nat) (n : Nat) : Bool := Nat.beq σ.length n && (List.range n).all fun i => Nat.blt (gy i σ) n && (match σ[gy i σ]? with | some j => Nat.beq i j | none => false) && (match σ[i]? with | some j => Nat.blt j n && Nat.beq (gy j σ) i | none => false)
def fJ (cx : Ctx) (ops : Array Oper) : Array Oper := if (Au cx ops).isEmpty then ops else lX (Dw cx ops) ops
def Es (cx : Ctx) (ops : Array Oper) : Bool := (Au cx ops).isEmpty || (uP (Dw cx ops) ops.size && ops.toList.all fun o => o.after.toList.all fun e => Nat.blt e.on ops.size)
def oU (cx : Ctx) (ops : Array Oper) : Bool := (List.range ops.size).all fun i => !(pX cx ops i) || (List.range ops.size).all fun j => Nat.ble j i || reach ops 3 j i
noncomputable def pU (x y : AV) : Bool := @decide (x = y) (Classical.propDecidable _)
noncomputable def zJ (x y : Row) : Bool := @decide (x = y) (Classical.propDecidable _)
noncomputable def H6 (A : AV) (M M1 : Mm) : Bool :=
 match A with
 | .ptr r p _ _ => pU ((M1.rows.getD r (.arr 0 [])).get p) ((M.rows.getD r (.arr 0 [])).get p)
 | .msl r _ _ _ _ _ => zJ (M1.rows.getD r (.arr 0 [])) (M.rows.getD r (.arr 0 []))
 | .mapv (some r) => zJ (M1.rows.getD r (.arr 0 [])) (M.rows.getD r (.arr 0 []))
 | _ => true
def gJ (ops : Array Oper) (i : Nat) : Nat := ((ops.toList.take i).filter (bB ops)).length
def AA (P : Program) (o : Oper) : Row := match o.op with | .alloc t => .var t (zero P t) | _ => .arr 0 []
def gT (P : Program) (ops : Array Oper) : List Row := (ops.toList.filter (bB ops)).map (AA P)
def sN (P : Program) (ops : Array Oper) (n : Nat) : Bool := (ops.toList.filter (bB ops)).all fun o => match o.op, o.dst with
 | .alloc t, some d => (fits P t (zero P t) && (aQ P t || Nat.beq (P.cellsOf t) 1)) && Nat.blt d n
 | _, _ => false
def Cx (N0 : Nat) (ops : Array Oper) (i : Nat) (o : Oper) : AV := match o.op with | .alloc t => .ptr (N0 + gJ ops i) [] t 0 | _ => .dead
def vo (cx : Ctx) (fn : FuncId) (ops : Array Oper) : List Nat := dstsOf (ops.toList.filter fun o => !(aY cx fn ops o))
def dV (P : Program) (tm : List AV) (o : Oper) : AV :=
 match o.op with
 | .load _ a => aC P tm 0 a
 | .convert s _ x => aC P tm s x
 | .lookup t m _ _ => aC P tm t m
 | .store _ a _ => aC P tm 0 a
 | .alloc _ | .box .. | .makeSlice .. => match o.dst with | some t => tm.getD t .dead | none => .dead
 | .call c => match c.callee with
  | .builtin _ => .nili
  | _ => match o.dst with | some t => tm.getD t .dead | none => .dead
 | _ => .nili
def jK : AV -> Option Nat
 | .ptr r _ _ _ => some r
 | .msl r _ _ _ _ _ => some r
 | .mapv (some r) => some r
 | _ => none
def kr : AV -> AV -> Bool
 | .dead, _ => false
 | _, .dead => false
 | .ptr r p _ _, .ptr r' p' _ _ => !(Nat.beq r r') || apart p p'
 | x, y => match jK x, jK y with
  | some r, some r' => !(Nat.beq r r')
  | _, _ => true
def qg (ops : Array Oper) (n : Nat) (tm : List AV) : Bool :=
 (List.range n).all fun i => match ops[i]? with
  | some o => !(gL o && !(aY cx fn ops o)) || (List.range n).all fun j => match ops[j]? with
   | some o' => !((aY cx fn ops o' && !(sD cx o')) || bB ops o') || bQ ops i j || bQ ops j i || kr (dV cx.P tm o) (dV cx.P tm o')
   | none => true
  | none => true
noncomputable def Fa (ops : Array Oper) (i : Nat) (tm : List AV) (M M1 : Mm) : Bool :=
 (List.range i).all fun k => match ops[k]? with
  | some o => !(gL o && !(aY cx fn ops o)) || reach ops 3 i k || H6 (dV cx.P tm o) M M1
  | none => true
noncomputable def kW (dep : Nat) (N0 : Nat) (ops : Array Oper) (kp : AV -> Mm -> Option R) : List Oper -> Nat -> Bool -> List AV -> List (Nat × TF) -> List (Nat × (Nat × TF)) -> Mm -> (List AV -> List (Nat × TF) -> Mm -> Option R) -> Option R
 | [], _, _, tm, tf, _, M, k => k tm tf M
 | o :: l, i, first, tm, tf, tl, M, k =>
  if aY cx fn ops o then
   match mJ cx o with
   | some (c, f) =>
    match target cx.P (aC cx.P tm 0 f) (bH cx.P tm c.argTypes.toList c.args.toList), dep with
    | some (.fn g, args), d + 1 =>
     match cx.acts d g args M with
     | some t => t.go fun e fr M1 => match e with
      | .ret => if BQ fr then none else cond (Fa cx fn ops i tm M M1) (kW dep N0 ops kp l (i + 1) false (aT tm o.dst (fr.tmps.getD 0 .dead)) ((({ tmps := tm, tf := fD (if first then (tl.filter fun x => bQ ops i x.1).map (·.2) ++ tf else tf) } : Fr).set o.dst .dead).tf) [] M1 k) none
      | .panic v => if qg cx fn ops i tm then kp v M1 else none
      | _ => none
     | none => none
    | _, _ => none
   | none =>
   match qx cx o with
   | some (c, f) => y9 cx dep o c f { tmps := tm, tf := if first then (tl.filter fun x => bQ ops i x.1).map (·.2) ++ tf else tf } M (fun fr M => kW dep N0 ops kp l (i + 1) false fr.tmps fr.tf [] M k)
   | none => dA cx fn (fun _ _ _ _ => none) o { tmps := tm, tf := if first then (tl.filter fun x => bQ ops i x.1).map (·.2) ++ tf else tf } M (fun fr M => kW dep N0 ops kp l (i + 1) false fr.tmps fr.tf [] M k) (fun _ _ _ => none)
  else if bB ops o then kW dep N0 ops kp l (i + 1) first (aT tm o.dst (Cx N0 ops i o)) tf (if first then tl else []) M k
  else
   match o.op with
   | .lookup t m x ok => uo cx t m x ok o { tmps := tm, tf := [] } M (fun fr _ => kW dep N0 ops kp l (i + 1) first fr.tmps tf (if first then tl else []) M k)
   | _ =>
   match bP cx M tm o with
   | some (ok, v) => cond ok (kW dep N0 ops kp l (i + 1) first (aT tm o.dst v) tf (if first then (match lq cx.P o tm M v with | some x => (i, x) :: tl | none => tl) else []) M k) none
   | none => none
variable (dep : Nat)
noncomputable def Gg (ops : Array Oper) (draw : Bool) (fr : Fr) (M : Mm) (K : AX -> Fr -> Mm -> Option R) : Option R :=
    if draw || (yZ cx ops.toList && J2 ops.toList) then
     if draw && !(Region.lexB .any ops && cx.P.follows .mixedOrders) then none
     else if draw && !(yZ cx ops.toList) then
      match QI ops with
      | some last =>
       if last.guard.isNone && blocks ops && yZ cx (ops.toList.take (ops.size - 1)) then
        xZ cx (fH cx M ops (ops.toList.take (ops.size - 1)) [] fr.tmps .leaf) (eZ ops ops.toList ++ mU ops.toList) (eZ ops ops.toList ++ dstsOf ops.toList) fr M
         fun _ fr M => dA cx fn call last fr M (fun fr M => K .normal fr M) (fun v fr M => K (.panic v) fr M)
       else if Es cx ops && Dr cx fn (fJ cx ops) && oU cx (fJ cx ops) && sN cx.P (fJ cx ops) fr.tmps.length then
        kW cx fn dep M.rows.length (fJ cx ops) (fun v M => K (.panic v) { tmps := (dstsOf (fJ cx ops).toList).foldl (fun tm t => tm.set t .dead) fr.tmps, tf := [] } M) (fJ cx ops).toList 0 true fr.tmps (noT (lZ (vo cx fn (fJ cx ops)) fr.tf)) [] { M with rows := M.rows ++ gT cx.P (fJ cx ops) } fun tm tf M => if qg cx fn (fJ cx ops) (fJ cx ops).size tm then K .normal { tmps := tm, tf := tf } M else none
       else none
      | none => none
     else xZ cx (fH cx M ops ops.toList [] fr.tmps .leaf) (eZ ops ops.toList ++ mU ops.toList) (eZ ops ops.toList ++ dstsOf ops.toList) fr M K
    else lD cx fn call ops ops.toList fr M K
def GJ (N : Nat) (fr : Fr) (M : Mm) (K : AX -> Fr -> Mm -> Option R) : Option R :=
 match M.rows.getD N (.arr 0 []) with
 | .loop f i tm st pd =>
  if Nat.beq st 1 then none else
  (match pd with
   | 0 => K .normal
   | 1 => K .ret
   | n + 2 => K (.exit n)) { fr with tf := fD fr.tf } { M with rows := M.rows.set N (.loop f i tm 3 pd) }
 | _ => none
noncomputable def dB : Code -> Fr -> Mm -> (AX -> Fr -> Mm -> Option R) -> Option R
 | .skip, fr, M, K => K .normal fr M
 | .label _, fr, M, K => K .normal fr M
 | .region id ops draw, fr, M, K => Gg cx fn call dep ops draw (jZ cx.P (cx.frz fn id) fr M).1 (jZ cx.P (cx.frz fn id) fr M).2 K
 | .seq a b, fr, M, K => dB a fr M fun e fr M => match e with | .normal => dB b fr M K | e => K e fr M
 | .cond c a b, fr, M, K =>
  match aC cx.P fr.tmps 0 c with
  | .bool t =>
   if cx.take fn then cond t (dB a fr M K) (dB b fr M K)
   else if gF cx a && gF cx b then
    xZ cx (.br t (kN cx M a fr.tmps .leaf) (kN cx M b fr.tmps .leaf)) (iN a ++ iN b) (iN a ++ iN b) fr M K
   else cond t (dB a fr M K) (dB b fr M K)
  | _ => none
 | .block id c, fr, M, K => dB c fr M fun e fr M => match e with | .exit i => if Nat.beq i id then K .normal fr M else K (.exit i) fr M | e => K e fr M
 | .loop c, fr, M, K =>
  let L := cx.lose fn (jI c)
  match cx.ends dep fn (jI c) (nV L (fr.only ((cx.kept fn (jI c)).map (·.1)))) (qB L (uR cx.P (cx.kept fn (jI c)) M)) with
  | some t => t.go K
  | none => let N := M.rows.length; iter cx.n (fun fr M k => dB c fr M (ou cx.P L N (cx.kept fn (jI c)) K k)) (nV L (fr.only ((cx.kept fn (jI c)).map (·.1)))) (qB L (uR cx.P (cx.kept fn (jI c)) M))
 | .exit id, fr, M, K => K (.exit id) fr M
 | .ret, fr, M, K => K .ret fr M
 | .rangeFunc g ps as bd, fr, M, K =>
  match aC cx.P fr.tmps 0 g with
  | .func (.func gf) first cap =>
   if (ug cx.P fn (kM ⟨ps, as, bd⟩)).isSome then
    call (.fn gf) ((first ++ [.yld M.rows.length]) ++ cap) { M with rows := M.rows ++ [.loop fn (kM ⟨ps, as, bd⟩) (vV (cx.kept fn (kM ⟨ps, as, bd⟩)) fr.tmps) 0 0] } fun r M' =>
     match r with
     | .pan v => K (.panic v) { fr with tf := fD fr.tf } M'
     | _ => GJ M.rows.length fr M' K
   else none
  | _ => none
 | _, _, _, _ => none
end
def uq (P : Program) (M : Mm) (tm : List AV) : List ResultVar -> Option (List AV)
 | [] => some []
 | r :: rs =>
  match uq P M tm rs with
  | none => none
  | some vs =>
   match r with
   | .tmp t => some (tm.getD t .dead :: vs)
   | .cell a t =>
    match tm.getD a .dead with
    | .ptr r p t' o => match jq P M t (.ptr r p t' o) with | some v => some (v :: vs) | none => none
    | _ => none
def oJ (P : Program) (M : Mm) (fn : Func) (tm : List AV) : Option AV :=
 match uq P M tm fn.results.toList with
 | some [v] => some v
 | some vs => some (.tuple vs)
 | none => none
def yu (ops : Array Oper) : Option (Oper × Operand) :=
 match ops.toList with
 | [m, o] =>
  match o.op with
  | .defer c =>
   match c.callee, c.args.toList with
   | .value x, [] => if m.guard.isNone && o.guard.isNone && o.dst.isNone then some (m, x) else none
   | _, _ => none
  | _ => none
 | _ => none
def NT : Code -> Bool
 | .seq (.region _ ops _) b => (yu ops).isSome || NT b
 | _ => false
noncomputable def uO {R : Type} (cx : Ctx) (fn : FuncId) (call : iV R) (dep : Nat) : Code -> Fr -> Mm -> (Oper -> Operand -> Code -> Fr -> Mm -> Option R) -> Option R
 | .seq (.region id ops draw) b, fr, M, Kd =>
  match yu ops with
  | some (m, x) => if draw then none else Kd m x b fr M
  | none => dB cx fn call dep (.region id ops draw) fr M fun e fr M => match e with | .normal => uO cx fn call dep b fr M Kd | _ => none
 | _, _, _, _ => none
def Gj : Code -> Option (Option Nat × Code)
 | .seq (.region _ ops draw) b =>
  match ops.toList with
  | [o] =>
   match o.op with
   | .call c => match c.callee with
    | .builtin .recover => if o.guard.isNone && !draw && c.args.toList.isEmpty then some (o.dst, b) else none
    | _ => none
   | _ => none
  | _ => none
 | _ => none
noncomputable def xP {R : Type} (cx : Ctx) (call : iV R) (dep : Nat) (g : FuncId) (args : List AV) (rv : AV) (M : Mm) (K : Mm -> Option R) : Option R :=
 match cx.P.funcs[g]? with
 | none => none
 | some fn =>
  match fn.body with
  | none => none
  | some c =>
   if fn.name == "runtime.NumGoroutine" || !fn.results.toList.isEmpty then none else
   match Gj c with
   | none => none
   | some (dst, b) =>
    if !(dW b) then none else
    dB cx g call dep b { tmps := aT (args ++ List.replicate (fn.ntmps - args.length) bY) dst rv, tf := [] } M fun e _ M => match e with | .normal | .ret => K M | _ => none
def pE (fn : Func) (fr : Fr) (v : AV) : Res :=
 match fn.results.toList, v with
 | [.tmp t], .slice _ _ _ => (match gM t fr.tf with | some .own => .retO v | _ => .ret v)
 | _, _ => .ret v
noncomputable def uJ {R : Type} (cx : Ctx) (call : iV R) (d : Nat) : FuncId -> List AV -> Mm -> (Res -> Mm -> Option R) -> Option R :=
 fun f args M K =>
  match cx.P.funcs[f]? with
  | none => none
  | some fn =>
   match fn.body with
   | none => none
   | some c =>
    if fn.name == "runtime.NumGoroutine" then none else
    let N := M.rows.length
    let eX : Fr := { tmps := args ++ List.replicate (fn.ntmps - args.length) bY, tf := [] }
    let fin (fr : Fr) (M : Mm) : Option R := match oJ cx.P M fn fr.tmps with | some v => mG cx.P N (fun _ M => K (pE fn fr v) M) { tmps := [v], tf := [] } M | none => none
    if NT c then
     if !(dW c) then none else
     uO cx f call d c eX M fun m x b fr M =>
      match bP cx M fr.tmps m with
      | some (ok, v) =>
       cond ok
        (let fr := fr.set m.dst v
         match aC cx.P fr.tmps 0 x with
         | .func (.func g) first cap =>
          dB cx f call d b fr M fun e fr M =>
           match e with
           | .normal | .ret => xP cx call d g (first ++ cap) .nili M (fin { fr with tf := [] })
           | .panic v => xP cx call d g (first ++ cap) v M (fin { fr with tf := [] })
           | _ => none
         | _ => none)
        none
      | none => none
    else
    dB cx f call d c eX M fun e fr M =>
     match e with
     | .normal | .ret => fin fr M
     | .panic v => K (.pan v) M
     | _ => none
def uX : List Nat -> List AV -> List AV -> List AV
 | p :: ps, v :: vs, tm => uX ps vs (tm.set p v)
 | _, _, tm => tm
def roundEnd : AX -> Option Nat
 | .normal => some 0
 | .ret => some 1
 | .exit n => some (n + 2)
 | .panic _ => none
noncomputable def Hy {R : Type} (cx : Ctx) (call : iV R) (d : Nat) (r : Nat) (args : List AV) (M : Mm) (K : Res -> Mm -> Option R) : Option R :=
 match M.rows.getD r (.arr 0 []) with
 | .loop fn id tmps 0 pd =>
  match ug cx.P fn id with
  | some rf =>
   if dW rf.assign && dW rf.body && Nat.beq rf.ps.size args.length then
    dB cx fn call d rf.assign { tmps := uX rf.ps.toList args tmps, tf := [] } M fun e fr M1 =>
     match e with
     | .normal =>
      match M1.rows.getD r (.arr 0 []) with
      | .loop fn1 id1 tmps1 0 pd1 =>
       dB cx fn call d rf.body fr { M1 with rows := M1.rows.set r (.loop fn1 id1 tmps1 1 pd1) } fun e fr M2 =>
        match roundEnd e with
        | some p =>
         match M2.rows.getD r (.arr 0 []) with
         | .loop fn2 id2 tmps2 _ _ =>
          mG cx.P M.rows.length (fun _ M => K (.ret (.bool (Nat.beq p 0))) M) { tmps := [], tf := [] } { M2 with rows := M2.rows.set r (.loop fn2 id2 tmps2 (if Nat.beq p 0 then 0 else 2) p) }
         | _ => none
        | none => none
      | _ => none
     | _ => none
   else none
  | none => none
 | _ => none
noncomputable def dH {R : Type} (cx : Ctx) : Nat -> iV R
 | 0 => fun _ _ _ _ => none
 | d + 1 => fun t args M K =>
  match t with
  | .fn f =>
   match cx.acts d f args M with
   | some t => t.go (oD K)
   | none => uJ cx (dH cx d) d f args M K
  | .yl r => Hy cx (dH cx d) d r args M K
def Ctx.KJ (cx : Ctx) : Prop := ∀ (dep : Nat) (f : FuncId) (id : Nat) (fr : Fr) (M : Mm) (t : LT), cx.ends dep f id fr M = some t -> ∀ (fn : Func) (body : Code), cx.P.funcs[f]? = some fn -> fn.body = some body ->
 ∃ l, dD body id = some l /\ ∀ (R : Type) (K : AX -> Fr -> Mm -> Option R) (r : R), t.go K = some r -> iter cx.n (fun fr M' k => dB cx f (dH cx dep) dep l fr M' (ou cx.P (cx.lose f id) M.rows.length (cx.kept f id) K k)) fr M = some r
def Ctx.Qe (cx : Ctx) : Prop := ∀ (d : Nat) (f : FuncId) (args : List AV) (M : Mm) (t : LT), cx.acts d f args M = some t -> ∀ (R : Type) (K : Res -> Mm -> Option R) (r : R), t.go (oD K) = some r -> uJ cx (dH cx d) d f args M K = some r
def Ctx.Oj (cx : Ctx) : Prop := ∀ (d : Nat) (f : FuncId) (args : List AV) (M : Mm) (v : AV) (rs : List Row), cx.news d f args M = some (v, rs) -> ∀ (R : Type) (K : Res -> Mm -> Option R) (r : R), K (.ret v) { M with rows := M.rows ++ rs } = some r -> dH cx d (.fn f) args M K = some r
def Ctx.Loops (cx : Ctx) : Prop := cx.KJ /\ cx.Qe /\ cx.Oj
def freeze (P : Program) (M : Mm) : Nat -> AV -> AV
 | 0, _ => .dead
 | d + 1, v =>
  match v with
  | .msl r p e off _ len => if fu P 20 e then .slice e (sub ((M.rows.getD r (.arr 0 [])).elems p) off (off + len)) false else .dead
  | .slice e l _ => .slice e l false
  | .agg t ps =>
   match P.underlying t with
   | some (.struct fs) => let ps := ps.map (freeze P M d); if gW P (fs.toList.map (·.type)) ps then .agg t ps else .dead
   | some (.array _ e) => if fu P 20 e then .agg t ps else .dead
   | _ => .dead
  | .tuple vs => .tuple (vs.map (freeze P M d))
  | v => v
def p9 (P : Program) (ts : List TypeId) (v : AV) : Bool :=
 pR P ts &&
 match ts, v with
 | [t], v => fits P t v
 | ts, .tuple vs => gW P ts vs
 | _, _ => false
noncomputable def aP (cx : Ctx) (d : Nat) (f : FuncId) (args : List AV) : Option AV :=
 match cx.P.funcs[f]? with
 | none => none
 | some fn =>
  dH cx d (.fn f) args { rows := [], ro := [] } fun r M =>
   match r with
   | .ret v => let v := freeze cx.P M 6 v; if p9 cx.P fn.resultTypes.toList v then some v else none
   | .retO v => let v := freeze cx.P M 6 v; if p9 cx.P fn.resultTypes.toList v then some v else none
   | .pan _ => none
end Go.AE
namespace Go.AE
open Go.RowKit
inductive Root where
 | var (t : TypeId)
 | arr (e : TypeId) (n : Nat)
 | map (k e : TypeId)
 | loop
structure X where
 rows : List (Nat × Root)
 st : Nat -> Nat -> Prop
 w : World
 m : Bool := true
def X.aH (x : X) : X := { x with m := false }
def At (x : X) (b o : Nat) (cs : List Value) : Prop := ∀ i v, cs[i]? = some v -> x.st b (o + i) /\ x.w.cell? ⟨b, o + i, none⟩ = some v
def eO (P : Program) : List Nat -> TypeId -> TypeId -> Nat -> Prop
 | [], t0, t, off => t = t0 /\ off = 0
 | k :: p, t0, t, off =>
  match P.underlying t0 with
  | some (.struct fs) => ∃ f off', fs[k]? = some f /\ off = iC P t0 k + off' /\ eO P p f.type t off'
  | some (.array n e) => k < n /\ ∃ off', off = k * P.cellsOf e + off' /\ eO P p e t off'
  | _ => False
def eT (P : Program) (root : Root) (p : List Nat) (t : TypeId) (off : Nat) : Prop :=
 match root, p with
 | .var t0, p => eO P p t0 t off
 | .arr e n, k :: p => k < n /\ ∃ off', off = k * P.cellsOf e + off' /\ eO P p e t off'
 | _, _ => False
def Bt (P : Program) (root : Root) (p : List Nat) (e : TypeId) (n off : Nat) : Prop :=
 (p = [] /\ off = 0 /\ root = .arr e n) \/ ∃ t, eT P root p t off /\ P.underlying t = some (.array n e)
def mkV (a : Bool) (cs : List Value) : Value := if a then .agg cs.toArray else cs.headD undef
mutual
def rel (P : Program) (x : X) : AV -> List Value -> Prop
 | .dead, cs => True
 | .bool b, cs => cs = [.bool b]
 | .int k n, cs => cs = [.int k n]
 | .str s, cs => cs = [.string ⟨s.toArray⟩]
 | .nilp, cs => cs = [.pointer none]
 | .ptr r p t off, cs => ∃ b root, x.rows[r]? = some (b, root) /\ eT P root p t off /\ cs = [.pointer (some ⟨b, off, none⟩)]
 | .rptr t v, cs => ∃ b o c, cs = [.pointer (some ⟨b, o, none⟩)] /\ rel P x.aH v c /\ c.length = P.cellsOf t /\ fits P t v = true /\ At x b o c
 | .slice e l ex, cs => ∃ base len cap, cs = [.slice base len cap] /\ len = l.length /\ len <= cap /\ (ex = true -> cap = len) /\
     (len = 0 \/ ∃ b o, base = some ⟨b, o, none⟩ /\ dN P x.aH e b o l)
 | .msl r p e off coff len, cs => x.m = true /\ ∃ b root n o0, x.rows[r]? = some (b, root) /\ Bt P root p e n o0 /\ off + len <= n /\ coff = o0 + off * P.cellsOf e /\
     ∃ base cap, len <= cap /\ cs = [.slice base len cap] /\ (0 < len -> base = some ⟨b, coff, none⟩)
 | .mapv none, cs => cs = [.map none]
 | .mapv (some r), cs => ∃ b k e, x.rows[r]? = some (b, .map k e) /\ cs = [.map (some b)]
 | .func fn first captured, cs => ∃ a b, cs = [.func fn a b] /\ bA P x first a.toList /\ bA P x captured b.toList
 | .nilf, cs => cs = [.nilFunc]
 | .yld r, cs => ∃ b, x.rows[r]? = some (b, .loop) /\ cs = [.func (.yield b) #[] #[]]
 | .iface t v, cs => ∃ c, rel P x v c /\ fits P t v = true /\ (v.isA = false -> c.length = 1) /\ cs = [.iface t (mkV v.isA c)]
 | .nili, cs => cs = [.nilIface]
 | .agg t ps, cs => cs.length = P.cellsOf t /\
  match P.underlying t with
  | some (.struct fs) => dh P x (fs.toList.map (·.type)) ps cs
  | some (.array n e) => ps.length = n /\ aX P x e ps cs
  | _ => False
 | .tuple vs, cs => ∃ a, cs = [.tuple a] /\ bA P x vs a.toList
def dN (P : Program) (x : X) (e : TypeId) (b : Nat) : Nat -> List AV -> Prop
 | o, [] => True
 | o, v :: vs => (∃ c, rel P x v c /\ c.length = P.cellsOf e /\ fits P e v = true /\ At x b o c) /\ dN P x e b (o + P.cellsOf e) vs
def dh (P : Program) (x : X) : List TypeId -> List AV -> List Value -> Prop
 | [], [], cs => cs = []
 | t :: ts, v :: vs, cs => ∃ c r, cs = c ++ r /\ rel P x v c /\ c.length = P.cellsOf t /\ fits P t v = true /\ dh P x ts vs r
 | _, _, _ => False
def aX (P : Program) (x : X) (e : TypeId) : List AV -> List Value -> Prop
 | [], cs => cs = []
 | v :: vs, cs => ∃ c r, cs = c ++ r /\ rel P x v c /\ c.length = P.cellsOf e /\ fits P e v = true /\ aX P x e vs r
def bA (P : Program) (x : X) : List AV -> List Value -> Prop
 | [], vs => vs = []
 | a :: as, vs => ∃ c r, vs = mkV a.isA c :: r /\ rel P x a c /\ (a.isA = false -> c.length = 1) /\ bA P x as r
end
def aK (P : Program) (x : X) (a : AV) (v : Value) : Prop := ∃ c, v = mkV a.isA c /\ rel P x a c /\ (a.isA = false -> c.length = 1)
structure Le (x y : X) : Prop where
 rows : ∀ (r : Nat) (z : Nat × Root), x.rows[r]? = some z -> y.rows[r]? = some z
 st : ∀ (b o : Nat) (v : Value), x.st b o -> x.w.cell? ⟨b, o, none⟩ = some v -> y.st b o
 cell : ∀ (b o : Nat) (v : Value), x.st b o -> x.w.cell? ⟨b, o, none⟩ = some v -> y.w.cell? ⟨b, o, none⟩ = some v
 m : x.m = true -> y.m = true
theorem Le.refl (x : X) : Le x x := ⟨fun _ _ h => h, fun _ _ _ h _ => h, fun _ _ _ _ h => h, id⟩
theorem Le.aH {x y : X} (h : Le x y) : Le x.aH y.aH := ⟨h.rows, h.st, h.cell, id⟩
theorem Ca (x : X) : Le x.aH x := ⟨fun _ _ h => h, fun _ _ _ h _ => h, fun _ _ _ _ h => h, fun h => by simp [X.aH] at h⟩
theorem Le.trans {x y z : X} (h : Le x y) (k : Le y z) : Le x z :=
 ⟨fun r a e => k.rows r a (h.rows r a e), fun b o v s c => k.st b o v (h.st b o v s c) (h.cell b o v s c), fun b o v s c => k.cell b o v (h.st b o v s c) (h.cell b o v s c), fun e => k.m (h.m e)⟩
theorem At.le {x y : X} (h : Le x y) {b o : Nat} {cs : List Value} (k : At x b o cs) : At y b o cs :=
 fun i v hv => ⟨h.st _ _ _ (k i v hv).1 (k i v hv).2, h.cell _ _ _ (k i v hv).1 (k i v hv).2⟩
section
variable {P : Program}
mutual
theorem kY {x y : X} (h : Le x y) : ∀ (v : AV) (cs : List Value), rel P x v cs -> rel P y v cs
 | .dead, _, _ => trivial
 | .bool _, _, k => k
 | .int _ _, _, k => k
 | .str _, _, k => k
 | .nilp, _, k => k
 | .ptr _ _ _ _, _, ⟨b, root, h1, h2, h3⟩ => ⟨b, root, h.rows _ _ h1, h2, h3⟩
 | .rptr _ v, _, ⟨b, o, c, h1, h2, h3, h4, h5⟩ => ⟨b, o, c, h1, kY h.aH v c h2, h3, h4, h5.le h⟩
 | .slice e l _, _, ⟨base, len, cap, h1, h2, h3, h4, h5⟩ => ⟨base, len, cap, h1, h2, h3, h4, h5.imp id fun ⟨b, o, h6, h7⟩ => ⟨b, o, h6, Ig h.aH e b o l h7⟩⟩
 | .msl _ _ _ _ _ _, _, ⟨h0, b, root, n, o0, h1, h2⟩ => ⟨h.m h0, b, root, n, o0, h.rows _ _ h1, h2⟩
 | .mapv none, _, k => k
 | .mapv (some _), _, ⟨b, k, e, h1, h2⟩ => ⟨b, k, e, h.rows _ _ h1, h2⟩
 | .func _ first captured, _, ⟨a, b, h1, h2, h3⟩ => ⟨a, b, h1, nZ h first _ h2, nZ h captured _ h3⟩
 | .nilf, _, k => k
 | .yld _, _, ⟨b, h1, h2⟩ => ⟨b, h.rows _ _ h1, h2⟩
 | .iface _ v, _, ⟨c, h1, h2, h3, h4⟩ => ⟨c, kY h v c h1, h2, h3, h4⟩
 | .nili, _, k => k
 | .agg t ps, cs, k => by
  unfold rel at k ⊢
  obtain ⟨k0, k⟩ := k
  refine ⟨k0, ?_⟩
  split at k
  . rename_i fs heq
    exact Gn h _ ps cs k
  . rename_i n e heq
    exact ⟨k.1, kJ h e ps cs k.2⟩
  . exact k.elim
 | .tuple vs, _, ⟨a, h1, h2⟩ => ⟨a, h1, nZ h vs _ h2⟩
theorem Ig {x y : X} (h : Le x y) (e : TypeId) (b : Nat) : ∀ (o : Nat) (l : List AV), dN P x e b o l -> dN P y e b o l
 | _, [], _ => trivial
 | o, v :: vs, ⟨⟨c, h1, h2, h3, h4⟩, h5⟩ => ⟨⟨c, kY h v c h1, h2, h3, h4.le h⟩, Ig h e b _ vs h5⟩
theorem Gn {x y : X} (h : Le x y) : ∀ (ts : List TypeId) (vs : List AV) (cs : List Value), dh P x ts vs cs -> dh P y ts vs cs
 | [], [], _, k => k
 | [], _ :: _, _, k => k.elim
 | _ :: _, [], _, k => k.elim
 | _ :: ts, v :: vs, _, ⟨c, r, h1, h2, h3, h4, h5⟩ => ⟨c, r, h1, kY h v c h2, h3, h4, Gn h ts vs r h5⟩
theorem kJ {x y : X} (h : Le x y) (e : TypeId) : ∀ (vs : List AV) (cs : List Value), aX P x e vs cs -> aX P y e vs cs
 | [], _, k => k
 | v :: vs, _, ⟨c, r, h1, h2, h3, h4, h5⟩ => ⟨c, r, h1, kY h v c h2, h3, h4, kJ h e vs r h5⟩
theorem nZ {x y : X} (h : Le x y) : ∀ (as : List AV) (vs : List Value), bA P x as vs -> bA P y as vs
 | [], _, k => k
 | a :: as, _, ⟨c, r, h1, h2, h3, h4⟩ => ⟨c, r, h1, kY h a c h2, h3, nZ h as r h4⟩
end
theorem fF {x y : X} (h : Le x y) {a : AV} {v : Value} (k : aK P x a v) : aK P y a v :=
 let ⟨c, h1, h2, h3⟩ := k; ⟨c, h1, kY h a c h2, h3⟩
end
section
variable {P : Program} {x : X}
theorem lC {t : TypeId} {ps : List AV} {cs : List Value} {fs : Array Field} (h : rel P x (.agg t ps) cs) (hu : P.underlying t = some (.struct fs)) : cs.length = P.cellsOf t /\ dh P x (fs.toList.map (·.type)) ps cs := by
 unfold rel at h
 rw [hu] at h
 exact h
theorem mR {t : TypeId} {ps : List AV} {cs : List Value} {n : Nat} {e : TypeId} (h : rel P x (.agg t ps) cs) (hu : P.underlying t = some (.array n e)) : cs.length = P.cellsOf t /\ ps.length = n /\ aX P x e ps cs := by
 unfold rel at h
 rw [hu] at h
 exact h
theorem kV {t : TypeId} {ps : List AV} {cs : List Value} {fs : Array Field} (hu : P.underlying t = some (.struct fs)) (hl : cs.length = P.cellsOf t) (h : dh P x (fs.toList.map (·.type)) ps cs) : rel P x (.agg t ps) cs := by
 unfold rel
 rw [hu]
 exact ⟨hl, h⟩
theorem kR {t : TypeId} {ps : List AV} {cs : List Value} {n : Nat} {e : TypeId} (hu : P.underlying t = some (.array n e)) (hl : cs.length = P.cellsOf t) (hn : ps.length = n) (h : aX P x e ps cs) : rel P x (.agg t ps) cs := by
 unfold rel
 rw [hu]
 exact ⟨hl, hn, h⟩
theorem Ii {t : TypeId} {ps : List AV} {cs : List Value} (h : rel P x (.agg t ps) cs) : cs.length = P.cellsOf t := by
 unfold rel at h
 exact h.1
end
end Go.AE
namespace Go.AE
open Go.RowKit
section
variable {P : Program} {x : X}
theorem iM {t u : TypeId} {ps : List AV} (h : fits P t (.agg u ps) = true) : bM P u t = true /\ aQ P t = true := by
 simpa [fits] using h
theorem ng {t : TypeId} {v : AV} (h : fits P t v = true) : v.isA = aQ P t := by
 cases v <;> simp_all [fits, AV.isA]
theorem Ql (P : Program) (t : TypeId) : P.underlying t = (P.info? (uid P t)).map (·.desc) := by
 unfold Program.underlying uid
 cases h : P.info? t with
 | none => simp [h]
 | some i =>
  obtain ⟨desc, _⟩ := i
  cases desc <;> simp [h]
theorem dK {t u : TypeId} (h : bM P t u = true) : P.underlying t = P.underlying u := by
 simp only [bM, Bool.and_eq_true] at h
 rw [Ql P t, Ql P u, Nat.eq_of_beq_eq_true h.1]
theorem gZ {t u : TypeId} (h : bM P t u = true) : P.cellsOf t = P.cellsOf u := by
 simp only [bM, Bool.and_eq_true] at h
 exact Nat.eq_of_beq_eq_true h.2
theorem OA {t u : TypeId} (h : bM P t u = true) : aQ P t = aQ P u := by
 simp only [aQ, dK h]
theorem gX {e : TypeId} : ∀ {l : List AV} {cs : List Value}, aX P x e l cs -> cs.length = l.length * P.cellsOf e
 | [], cs, h => by simp only [aX] at h; simp [h]
 | v :: vs, cs, h => by
  obtain ⟨c, r, rfl, h1, h2, h3, h4⟩ := h
  have := gX h4
  simp [this, h2, Nat.add_mul, Nat.add_comm]
theorem jC {e : TypeId} : ∀ {l : List AV} {cs : List Value} (i : Nat), aX P x e l cs -> i < l.length ->
    ∃ p c r, cs = p ++ c ++ r /\ p.length = i * P.cellsOf e /\ rel P x (l.getD i .dead) c /\ c.length = P.cellsOf e /\ fits P e (l.getD i .dead) = true /\
     ∀ v' c', rel P x v' c' -> c'.length = P.cellsOf e -> fits P e v' = true -> aX P x e (l.set i v') (p ++ c' ++ r)
 | [], _, i, _, hi => absurd hi (by simp)
 | v :: vs, cs, 0, h, _ => by
  obtain ⟨c, r, rfl, h1, h2, h3, h4⟩ := h
  exact ⟨[], c, r, by simp, by simp, by simpa using h1, h2, by simpa using h3, fun v' c' k1 k2 k3 => by
   simp only [List.set_cons_zero, List.nil_append]
   exact ⟨c', r, rfl, k1, k2, k3, h4⟩⟩
 | v :: vs, cs, i + 1, h, hi => by
  obtain ⟨c, r, rfl, h1, h2, h3, h4⟩ := h
  obtain ⟨p, c1, r1, e1, e2, e3, e4, e5, e6⟩ := jC i h4 (by simpa using hi)
  refine ⟨c ++ p, c1, r1, by rw [e1]; simp, by simp [e2, h2, Nat.add_mul, Nat.add_comm], by simpa using e3, e4, by simpa using e5, fun v' c' k1 k2 k3 => ?_⟩
  simp only [List.set_cons_succ]
  exact ⟨c, p ++ c' ++ r1, by simp, h1, h2, h3, e6 v' c' k1 k2 k3⟩
theorem wQ {e : TypeId} : ∀ {l m : List AV} {cs ds : List Value}, aX P x e l cs -> aX P x e m ds -> aX P x e (l ++ m) (cs ++ ds)
 | [], m, cs, ds, h, k => by simp only [aX] at h; subst h; simpa using k
 | v :: vs, m, cs, ds, h, k => by
  obtain ⟨c, r, rfl, h1, h2, h3, h4⟩ := h
  exact ⟨c, r ++ ds, by simp, h1, h2, h3, wQ h4 k⟩
theorem qp {e : TypeId} : ∀ {l : List AV} {cs : List Value} (n : Nat), aX P x e l cs -> aX P x e (l.take n) (cs.take (n * P.cellsOf e))
 | l, cs, 0, h => by simp [aX]
 | [], cs, n + 1, h => by simp only [aX] at h; subst h; simp [aX]
 | v :: vs, cs, n + 1, h => by
  obtain ⟨c, r, rfl, h1, h2, h3, h4⟩ := h
  simp only [List.take_succ_cons]
  refine ⟨c, r.take (n * P.cellsOf e), ?_, h1, h2, h3, qp n h4⟩
  rw [List.take_append, h2, List.take_of_length_le (by rw [h2, Nat.add_mul]; omega)]
  congr 2
  rw [Nat.add_mul]; omega
theorem tV {e : TypeId} : ∀ {l : List AV} {cs : List Value} (n : Nat), aX P x e l cs -> aX P x e (l.drop n) (cs.drop (n * P.cellsOf e))
 | l, cs, 0, h => by simpa using h
 | [], cs, n + 1, h => by simp only [aX] at h; subst h; simp [aX]
 | v :: vs, cs, n + 1, h => by
  obtain ⟨c, r, rfl, h1, h2, h3, h4⟩ := h
  simp only [List.drop_succ_cons]
  have := tV n h4
  have e1 : (n + 1) * P.cellsOf e - P.cellsOf e = n * P.cellsOf e := by rw [Nat.add_mul]; omega
  have e2 : List.drop ((n + 1) * P.cellsOf e) c = [] := List.drop_of_length_le (by rw [h2, Nat.add_mul]; omega)
  rw [List.drop_append, h2, e2, List.nil_append, e1]
  exact this
theorem sG : ∀ {ts : List TypeId} {ps : List AV} {cs : List Value} (i : Nat) (t : TypeId), dh P x ts ps cs -> ts[i]? = some t ->
    ∃ p c r, cs = p ++ c ++ r /\ p.length = ((ts.take i).map P.cellsOf).sum /\ rel P x (ps.getD i .dead) c /\ c.length = P.cellsOf t /\ fits P t (ps.getD i .dead) = true /\
     ∀ v' c', rel P x v' c' -> c'.length = P.cellsOf t -> fits P t v' = true -> dh P x ts (ps.set i v') (p ++ c' ++ r)
 | [], ps, cs, i, t, _, hi => by simp at hi
 | t0 :: ts, [], cs, i, t, h, hi => h.elim
 | t0 :: ts, v :: vs, cs, 0, t, h, hi => by
  obtain ⟨c, r, rfl, h1, h2, h3, h4⟩ := h
  simp only [List.getElem?_cons_zero, Option.some.injEq] at hi
  subst hi
  exact ⟨[], c, r, by simp, by simp, by simpa using h1, h2, by simpa using h3, fun v' c' k1 k2 k3 => by
   simp only [List.set_cons_zero, List.nil_append]
   exact ⟨c', r, rfl, k1, k2, k3, h4⟩⟩
 | t0 :: ts, v :: vs, cs, i + 1, t, h, hi => by
  obtain ⟨c, r, rfl, h1, h2, h3, h4⟩ := h
  obtain ⟨p, c1, r1, e1, e2, e3, e4, e5, e6⟩ := sG i t h4 (by simpa using hi)
  refine ⟨c ++ p, c1, r1, by rw [e1]; simp, by simp [e2, h2], by simpa using e3, e4, by simpa using e5, fun v' c' k1 k2 k3 => ?_⟩
  simp only [List.set_cons_succ]
  exact ⟨c, p ++ c' ++ r1, by simp, h1, h2, h3, e6 v' c' k1 k2 k3⟩
theorem Qp {e : TypeId} {b : Nat} : ∀ {l : List AV} {o : Nat} (i : Nat), dN P x e b o l -> i < l.length ->
    ∃ c, rel P x (l.getD i .dead) c /\ c.length = P.cellsOf e /\ fits P e (l.getD i .dead) = true /\ At x b (o + i * P.cellsOf e) c
 | [], _, i, _, hi => absurd hi (by simp)
 | v :: vs, o, 0, h, _ => by
  obtain ⟨⟨c, h1, h2, h3, h4⟩, _⟩ := h
  exact ⟨c, by simpa using h1, h2, by simpa using h3, by simpa using h4⟩
 | v :: vs, o, i + 1, h, hi => by
  obtain ⟨_, h5⟩ := h
  obtain ⟨c, e1, e2, e3, e4⟩ := Qp i h5 (by simpa using hi)
  refine ⟨c, by simpa using e1, e2, by simpa using e3, ?_⟩
  have : o + P.cellsOf e + i * P.cellsOf e = o + (i + 1) * P.cellsOf e := by rw [Nat.add_mul]; omega
  rwa [this] at e4
theorem Mc {e : TypeId} {b : Nat} : ∀ {l : List AV} {o : Nat} (n : Nat), dN P x e b o l -> dN P x e b o (l.take n)
 | l, o, 0, h => by simp [dN]
 | [], o, n + 1, h => by simp [dN]
 | v :: vs, o, n + 1, h => by
  simp only [List.take_succ_cons]
  exact ⟨h.1, Mc n h.2⟩
theorem Ot {e : TypeId} {b : Nat} : ∀ {l : List AV} {o : Nat} (n : Nat), dN P x e b o l -> dN P x e b (o + n * P.cellsOf e) (l.drop n)
 | l, o, 0, h => by simpa using h
 | [], o, n + 1, h => by simp [dN]
 | v :: vs, o, n + 1, h => by
  simp only [List.drop_succ_cons]
  have := Ot n h.2
  have e1 : o + P.cellsOf e + n * P.cellsOf e = o + (n + 1) * P.cellsOf e := by rw [Nat.add_mul]; omega
  rwa [e1] at this
theorem Ce {e : TypeId} {b : Nat} : ∀ {l : List AV} {o : Nat}, dN P x e b o l -> ∃ cs, aX P x e l cs /\ At x b o cs
 | [], o, _ => ⟨[], by simp [aX], fun i v h => by simp at h⟩
 | v :: vs, o, h => by
  obtain ⟨⟨c, h1, h2, h3, h4⟩, h5⟩ := h
  obtain ⟨cs, k1, k2⟩ := Ce h5
  refine ⟨c ++ cs, ⟨c, cs, rfl, h1, h2, h3, k1⟩, fun i v hv => ?_⟩
  by_cases hi : i < c.length
  . rw [List.getElem?_append_left hi] at hv
    exact h4 i v hv
  . rw [List.getElem?_append_right (by omega)] at hv
    have := k2 _ _ hv
    have e1 : o + P.cellsOf e + (i - c.length) = o + i := by omega
    rwa [e1] at this
theorem nL {e : TypeId} {b : Nat} : ∀ {l : List AV} {o : Nat} {cs : List Value}, aX P x e l cs -> At x b o cs -> dN P x e b o l
 | [], o, cs, _, _ => trivial
 | v :: vs, o, cs, h, k => by
  obtain ⟨c, r, rfl, h1, h2, h3, h4⟩ := h
  refine ⟨⟨c, h1, h2, h3, fun i v hv => k i v ?_⟩, nL h4 fun i v hv => ?_⟩
  . rw [List.getElem?_append_left (by have := (List.getElem?_eq_some_iff.1 hv).1; exact this)]; exact hv
  . have := k (c.length + i) v (by rw [List.getElem?_append_right (by omega)]; simpa using hv)
    rwa [h2, <- Nat.add_assoc] at this
end
end Go.AE
namespace Go.AE
open Go.RowKit
section
variable {P : Program} {x : X}
theorem kI (i : Nat) (p : List Nat) (t : TypeId) (ps : List AV) : dY (i :: p) (.agg t ps) = dY p (ps.getD i .dead) := rfl
theorem vJ (i : Nat) (p : List Nat) (new : AV) (t : TypeId) (ps : List AV) : iQ (i :: p) new (.agg t ps) = .agg t (ps.set i (iQ p new (ps.getD i .dead))) := rfl
theorem gP {l : List AV} {i : Nat} {v d : AV} (h : i < l.length) : (l.set i v).getD i d = v := by
 simp [List.getD, h]
theorem getD_set_ne {l : List AV} {i j : Nat} {v d : AV} (h : i ≠ j) : (l.set i v).getD j d = l.getD j d := by
 simp [List.getD, List.getElem?_set_ne h]
theorem wG {t0 : TypeId} {v : AV} {cs : List Value} {fs : Array Field} (hu : P.underlying t0 = some (.struct fs)) (hf : fits P t0 v = true) (hr : rel P x v cs) :
    ∃ u ps, v = .agg u ps /\ bM P u t0 = true /\ P.underlying u = some (.struct fs) /\ dh P x (fs.toList.map (·.type)) ps cs := by
 have hA : aQ P t0 = true := by simp [aQ, hu]
 cases v with
 | agg u ps =>
  have h1 := (iM hf).1
  have h2 : P.underlying u = some (.struct fs) := (dK h1).trans hu
  exact ⟨u, ps, rfl, h1, h2, (lC hr h2).2⟩
 | _ => simp [fits, hA] at hf
theorem pF {t0 : TypeId} {v : AV} {cs : List Value} {n : Nat} {e : TypeId} (hu : P.underlying t0 = some (.array n e)) (hf : fits P t0 v = true) (hr : rel P x v cs) :
    ∃ u ps, v = .agg u ps /\ bM P u t0 = true /\ P.underlying u = some (.array n e) /\ ps.length = n /\ aX P x e ps cs := by
 have hA : aQ P t0 = true := by simp [aQ, hu]
 cases v with
 | agg u ps =>
  have h1 := (iM hf).1
  have h2 : P.underlying u = some (.array n e) := (dK h1).trans hu
  exact ⟨u, ps, rfl, h1, h2, (mR hr h2).2⟩
 | _ => simp [fits, hA] at hf
theorem zN {t0 : TypeId} {fs : Array Field} (hu : P.underlying t0 = some (.struct fs)) (k : Nat) : iC P t0 k = (((fs.toList.map (·.type)).take k).map P.cellsOf).sum := by
 simp [iC, hu, List.map_take, Function.comp_def]
theorem vE {fs : Array Field} {k : Nat} {f : Field} (h : fs[k]? = some f) : (fs.toList.map (·.type))[k]? = some f.type := by
 simp [h]
theorem lu : ∀ (p : List Nat) {t0 t : TypeId} {off : Nat} {v : AV} {cs : List Value}, eO P p t0 t off -> rel P x v cs -> cs.length = P.cellsOf t0 -> fits P t0 v = true ->
    ∃ pre c post, cs = pre ++ c ++ post /\ pre.length = off /\ rel P x (dY p v) c /\ c.length = P.cellsOf t /\ fits P t (dY p v) = true /\
     ∀ v' c', rel P x v' c' -> c'.length = P.cellsOf t -> fits P t v' = true -> rel P x (iQ p v' v) (pre ++ c' ++ post) /\ fits P t0 (iQ p v' v) = true
 | [], t0, t, off, v, cs, hp, hr, hl, hf => by
  obtain ⟨rfl, rfl⟩ := hp
  exact ⟨[], cs, [], by simp, rfl, by simpa [dY] using hr, hl, by simpa [dY] using hf, fun v' c' h1 h2 h3 => by simpa [iQ] using ⟨h1, h3⟩⟩
 | k :: p, t0, t, off, v, cs, hp, hr, hl, hf => by
  unfold eO at hp
  split at hp
  . rename_i fs hu
    obtain ⟨f, off', hk, rfl, hp⟩ := hp
    obtain ⟨u, ps, rfl, hlk, hu', hs⟩ := wG hu hf hr
    obtain ⟨pre, c, post, rfl, h2, h3, h4, h5, h6⟩ := sG k f.type hs (vE hk)
    obtain ⟨pre1, c1, post1, rfl, k2, k3, k4, k5, k6⟩ := lu p hp h3 h4 h5
    refine ⟨pre ++ pre1, c1, post1 ++ post, by simp [List.append_assoc], by rw [List.length_append, h2, k2, zN hu], by rw [kI]; exact k3, k4, by rw [kI]; exact k5, fun v' c' j1 j2 j3 => ?_⟩
    obtain ⟨m1, m2⟩ := k6 v' c' j1 j2 j3
    have hlen : (pre1 ++ c' ++ post1).length = P.cellsOf f.type := by rw [<- h4]; simp [k4, j2]
    have := h6 _ _ m1 hlen m2
    rw [vJ]
    refine ⟨kV hu' ?_ (by simpa [List.append_assoc] using this), by simpa [fits] using hf⟩
    rw [gZ hlk, <- hl]
    simp [k4, j2]
  . rename_i n e hu
    obtain ⟨hk, off', rfl, hp⟩ := hp
    obtain ⟨u, ps, rfl, hlk, hu', hn, hs⟩ := pF hu hf hr
    obtain ⟨pre, c, post, rfl, h2, h3, h4, h5, h6⟩ := jC k hs (by omega)
    obtain ⟨pre1, c1, post1, rfl, k2, k3, k4, k5, k6⟩ := lu p hp h3 h4 h5
    refine ⟨pre ++ pre1, c1, post1 ++ post, by simp [List.append_assoc], by rw [List.length_append, h2, k2], by rw [kI]; exact k3, k4, by rw [kI]; exact k5, fun v' c' j1 j2 j3 => ?_⟩
    obtain ⟨m1, m2⟩ := k6 v' c' j1 j2 j3
    have hlen : (pre1 ++ c' ++ post1).length = P.cellsOf e := by rw [<- h4]; simp [k4, j2]
    have := h6 _ _ m1 hlen m2
    rw [vJ]
    refine ⟨kR hu' ?_ (by simpa using hn) (by simpa [List.append_assoc] using this), by simpa [fits] using hf⟩
    rw [gZ hlk, <- hl]
    simp [k4, j2]
  . exact hp.elim
theorem o9 {p : List Nat} {t0 t : TypeId} {off : Nat} {v : AV} {cs : List Value} (hp : eO P p t0 t off) (hr : rel P x v cs) (hl : cs.length = P.cellsOf t0) (hf : fits P t0 v = true) : off + P.cellsOf t <= cs.length := by
 obtain ⟨pre, c, post, rfl, h2, h3, h4, _⟩ := lu p hp hr hl hf
 simp only [List.length_append, h2, h4]; omega
theorem F8 : ∀ (l : List Nat) (i j : Nat) (a : Nat), i < j -> l[i]? = some a -> (l.take i).sum + a <= (l.take j).sum
 | [], i, j, a, _, h => by simp at h
 | b :: l, 0, j + 1, a, _, h => by
  simp only [List.getElem?_cons_zero, Option.some.injEq] at h
  subst h
  simp
 | b :: l, i + 1, j + 1, a, hij, h => by
  have := F8 l i j a (by omega) (by simpa using h)
  simp only [List.take_succ_cons, List.sum_cons]
  omega
theorem wP : ∀ (p q : List Nat) {t0 t t2 : TypeId} {off off2 : Nat} {v : AV} {pre c post : List Value}, apart q p = true -> eO P p t0 t off -> eO P q t0 t2 off2 ->
    rel P x v (pre ++ c ++ post) -> (pre ++ c ++ post).length = P.cellsOf t0 -> fits P t0 v = true -> pre.length = off -> c.length = P.cellsOf t -> ∀ c' : List Value, c'.length = c.length -> ∀ v', 
    dY q (iQ p v' v) = dY q v /\ (off2 + P.cellsOf t2 <= off \/ off + P.cellsOf t <= off2)
 | [], q, t0, t, t2, off, off2, v, pre, c, post, ha, _, _, _, _, _, _, _, c', _, v' => by cases q <;> simp [apart] at ha
 | k :: p, [], t0, t, t2, off, off2, v, pre, c, post, ha, _, _, _, _, _, _, _, c', _, v' => by simp [apart] at ha
 | k :: p, j :: q, t0, t, t2, off, off2, v, pre, c, post, ha, hp, hq, hr, hl, hf, h1, h2, c', h3, v' => by
  simp only [apart] at ha
  unfold eO at hp hq
  split at hp
  . rename_i fs hu
    rw [hu] at hq
    obtain ⟨f, off', hk, hoff, hp⟩ := hp
    obtain ⟨f2, off2', hk2, hoff2, hq⟩ := hq
    obtain ⟨u, ps, rfl, hlk, hu', hs⟩ := wG hu hf hr
    obtain ⟨pa, ca, ra, ea, la, ra3, ra4, ra5, _⟩ := sG k f.type hs (vE hk)
    obtain ⟨pb, cb, rb, eb, lb, rb3, rb4, rb5, _⟩ := sG j f2.type hs (vE hk2)
    have w1 := o9 hp ra3 ra4 ra5
    have w2 := o9 hq rb3 rb4 rb5
    by_cases hkj : j = k
    . subst hkj
      simp only [Nat.beq_refl, if_true] at ha
      have hff : f = f2 := by rw [hk] at hk2; exact Option.some.inj hk2
      subst hff
      obtain ⟨pre1, c1, post1, e1, l1, m3, m4, m5, _⟩ := lu p hp ra3 ra4 ra5
      subst e1
      obtain ⟨g1, g2⟩ := wP p q ha hp hq ra3 ra4 ra5 l1 m4 c1 rfl v'
      rw [vJ, kI, kI]
      have hlt : j < ps.length := by
       by_cases hj : j < ps.length
       . exact hj
       . exfalso
         rw [show ps.getD j .dead = .dead by simp [List.getD, List.getElem?_eq_none (Nat.le_of_not_lt hj)]] at ra5
         simp [fits, aR] at ra5
      rw [gP hlt]
      exact ⟨g1, by omega⟩
    . rw [vJ, kI, kI, getD_set_ne (fun h => hkj h.symm)]
      refine ⟨rfl, ?_⟩
      have hsz : ∀ k, iC P t0 k = (((fs.toList.map (·.type)).map P.cellsOf).take k).sum := fun k => by rw [zN hu, List.map_take]
      have t1 : ((fs.toList.map (·.type)).map P.cellsOf)[k]? = some (P.cellsOf f.type) := by simp [hk]
      have t2' : ((fs.toList.map (·.type)).map P.cellsOf)[j]? = some (P.cellsOf f2.type) := by simp [hk2]
      rcases Nat.lt_or_ge j k with h | h
      . have := F8 _ j k _ h t2'
        rw [<- hsz, <- hsz] at this
        omega
      . have := F8 _ k j _ (by omega) t1
        rw [<- hsz, <- hsz] at this
        omega
  . rename_i n e hu
    rw [hu] at hq
    obtain ⟨hk, off', hoff, hp⟩ := hp
    obtain ⟨hk2, off2', hoff2, hq⟩ := hq
    obtain ⟨u, ps, rfl, hlk, hu', hn, hs⟩ := pF hu hf hr
    obtain ⟨pa, ca, ra, ea, la, ra3, ra4, ra5, _⟩ := jC k hs (by omega)
    obtain ⟨pb, cb, rb, eb, lb, rb3, rb4, rb5, _⟩ := jC j hs (by omega)
    have w1 := o9 hp ra3 ra4 ra5
    have w2 := o9 hq rb3 rb4 rb5
    by_cases hkj : j = k
    . subst hkj
      simp only [Nat.beq_refl, if_true] at ha
      obtain ⟨pre1, c1, post1, e1, l1, m3, m4, m5, _⟩ := lu p hp ra3 ra4 ra5
      subst e1
      obtain ⟨g1, g2⟩ := wP p q ha hp hq ra3 ra4 ra5 l1 m4 c1 rfl v'
      rw [vJ, kI, kI, gP (by omega)]
      exact ⟨g1, by omega⟩
    . rw [vJ, kI, kI, getD_set_ne (fun h => hkj h.symm)]
      refine ⟨rfl, ?_⟩
      rcases Nat.lt_or_ge j k with h | h
      . have : (j + 1) * P.cellsOf e <= k * P.cellsOf e := Nat.mul_le_mul_right _ h
        rw [Nat.add_mul] at this
        omega
      . have : (k + 1) * P.cellsOf e <= j * P.cellsOf e := Nat.mul_le_mul_right _ (by omega)
        rw [Nat.add_mul] at this
        omega
  . exact hp.elim
def iw (P : Program) (x : X) (root : Root) (row : Row) (cs : List Value) : Prop :=
 match row with
 | .var t v => root = .var t /\ fits P t v = true /\ rel P x v cs /\ cs.length = P.cellsOf t
 | .arr e l => root = .arr e l.length /\ ∃ c r, cs = c ++ r /\ aX P x e l c
 | .bg e l => root = .arr e l.length /\ ∃ c r, cs = c ++ r /\ aX P x e l c
 | .map _ _ _ => False
 | .loop _ _ _ _ _ => False
theorem iw.le {y : X} (h : Le x y) {root : Root} {row : Row} {cs : List Value} (k : iw P x root row cs) : iw P y root row cs := by
 cases row with
 | var t v => exact ⟨k.1, k.2.1, kY h _ _ k.2.2.1, k.2.2.2⟩
 | arr e l => exact ⟨k.1, by obtain ⟨c, r, h1, h2⟩ := k.2; exact ⟨c, r, h1, kJ h e l c h2⟩⟩
 | bg e l => exact ⟨k.1, by obtain ⟨c, r, h1, h2⟩ := k.2; exact ⟨c, r, h1, kJ h e l c h2⟩⟩
 | map => exact k.elim
 | loop => exact k.elim
theorem lV {root : Root} {row : Row} {cs : List Value} {p : List Nat} {t : TypeId} {off : Nat} (h : iw P x root row cs) (hp : eT P root p t off) :
    ∃ pre c post, cs = pre ++ c ++ post /\ pre.length = off /\ rel P x (row.get p) c /\ c.length = P.cellsOf t /\ fits P t (row.get p) = true /\
     ∀ v' c', rel P x v' c' -> c'.length = P.cellsOf t -> fits P t v' = true -> iw P x root (row.put p v') (pre ++ c' ++ post) := by
 cases row with
 | var t0 v =>
  obtain ⟨rfl, h2, h3, h4⟩ := h
  obtain ⟨pre, c, post, rfl, e2, e3, e4, e5, e6⟩ := lu p hp h3 h4 h2
  refine ⟨pre, c, post, rfl, e2, e3, e4, e5, fun v' c' k1 k2 k3 => ?_⟩
  obtain ⟨m1, m2⟩ := e6 v' c' k1 k2 k3
  exact ⟨rfl, m2, m1, by rw [<- h4]; simp [e4, k2]⟩
 | arr e l =>
  obtain ⟨rfl, c0, r0, rfl, h3⟩ := h
  cases p with
  | nil => exact hp.elim
  | cons k p =>
   obtain ⟨hk, off', rfl, hp⟩ := hp
   obtain ⟨pa, ca, ra, rfl, la, ra3, ra4, ra5, ra6⟩ := jC k h3 hk
   obtain ⟨pre, c, post, rfl, e2, e3, e4, e5, e6⟩ := lu p hp ra3 ra4 ra5
   refine ⟨pa ++ pre, c, post ++ ra ++ r0, by simp [List.append_assoc], by simp [la, e2], e3, e4, e5, fun v' c' k1 k2 k3 => ?_⟩
   obtain ⟨m1, m2⟩ := e6 v' c' k1 k2 k3
   have := ra6 _ _ m1 (by rw [<- ra4]; simp [e4, k2]) m2
   exact ⟨by simp, _, r0, by simp [List.append_assoc], this⟩
 | bg e l =>
  obtain ⟨rfl, c0, r0, rfl, h3⟩ := h
  cases p with
  | nil => exact hp.elim
  | cons k p =>
   obtain ⟨hk, off', rfl, hp⟩ := hp
   obtain ⟨pa, ca, ra, rfl, la, ra3, ra4, ra5, ra6⟩ := jC k h3 hk
   obtain ⟨pre, c, post, rfl, e2, e3, e4, e5, e6⟩ := lu p hp ra3 ra4 ra5
   refine ⟨pa ++ pre, c, post ++ ra ++ r0, by simp [List.append_assoc], by simp [la, e2], e3, e4, e5, fun v' c' k1 k2 k3 => ?_⟩
   obtain ⟨m1, m2⟩ := e6 v' c' k1 k2 k3
   have := ra6 _ _ m1 (by rw [<- ra4]; simp [e4, k2]) m2
   exact ⟨by simp, _, r0, by simp [List.append_assoc], this⟩
 | map => exact h.elim
 | loop => exact h.elim
theorem LM {root : Root} {row : Row} {cs : List Value} {p q : List Nat} {t t2 : TypeId} {off off2 : Nat} (h : iw P x root row cs) (hp : eT P root p t off) (hq : eT P root q t2 off2) (ha : apart q p = true) (v' : AV) :
    (row.put p v').get q = row.get q /\ (off2 + P.cellsOf t2 <= off \/ off + P.cellsOf t <= off2) := by
 cases row with
 | var t0 v =>
  obtain ⟨rfl, h2, h3, h4⟩ := h
  obtain ⟨pre, c, post, rfl, e2, e3, e4, e5, e6⟩ := lu p hp h3 h4 h2
  exact wP p q ha hp hq h3 h4 h2 e2 e4 c rfl v'
 | arr e l =>
  obtain ⟨rfl, c0, r0, rfl, h3⟩ := h
  cases p with
  | nil => exact hp.elim
  | cons k p =>
   cases q with
   | nil => exact hq.elim
   | cons j q =>
    obtain ⟨hk, off', rfl, hp⟩ := hp
    obtain ⟨hj, off2', rfl, hq⟩ := hq
    obtain ⟨pa, ca, ra, ea, la, ra3, ra4, ra5, ra6⟩ := jC k h3 hk
    obtain ⟨pb, cb, rb, eb, lb, rb3, rb4, rb5, rb6⟩ := jC j h3 hj
    have w1 := o9 hp ra3 ra4 ra5
    have w2 := o9 hq rb3 rb4 rb5
    simp only [apart] at ha
    by_cases hkj : j = k
    . subst hkj
      simp only [Nat.beq_refl, if_true] at ha
      obtain ⟨pre1, c1, post1, e1, l1, m3, m4, m5, _⟩ := lu p hp ra3 ra4 ra5
      subst e1
      obtain ⟨g1, g2⟩ := wP p q ha hp hq ra3 ra4 ra5 l1 m4 c1 rfl v'
      simp only [Row.put, Row.get]
      rw [gP hj]
      exact ⟨g1, by omega⟩
    . simp only [Row.put, Row.get]
      rw [getD_set_ne (fun h => hkj h.symm)]
      refine ⟨rfl, ?_⟩
      rcases Nat.lt_or_ge j k with h | h
      . have : (j + 1) * P.cellsOf e <= k * P.cellsOf e := Nat.mul_le_mul_right _ h
        rw [Nat.add_mul] at this
        omega
      . have : (k + 1) * P.cellsOf e <= j * P.cellsOf e := Nat.mul_le_mul_right _ (by omega)
        rw [Nat.add_mul] at this
        omega
 | bg e l =>
  obtain ⟨rfl, c0, r0, rfl, h3⟩ := h
  cases p with
  | nil => exact hp.elim
  | cons k p =>
   cases q with
   | nil => exact hq.elim
   | cons j q =>
    obtain ⟨hk, off', rfl, hp⟩ := hp
    obtain ⟨hj, off2', rfl, hq⟩ := hq
    obtain ⟨pa, ca, ra, ea, la, ra3, ra4, ra5, ra6⟩ := jC k h3 hk
    obtain ⟨pb, cb, rb, eb, lb, rb3, rb4, rb5, rb6⟩ := jC j h3 hj
    have w1 := o9 hp ra3 ra4 ra5
    have w2 := o9 hq rb3 rb4 rb5
    simp only [apart] at ha
    by_cases hkj : j = k
    . subst hkj
      simp only [Nat.beq_refl, if_true] at ha
      obtain ⟨pre1, c1, post1, e1, l1, m3, m4, m5, _⟩ := lu p hp ra3 ra4 ra5
      subst e1
      obtain ⟨g1, g2⟩ := wP p q ha hp hq ra3 ra4 ra5 l1 m4 c1 rfl v'
      simp only [Row.put, Row.get]
      rw [gP hj]
      exact ⟨g1, by omega⟩
    . simp only [Row.put, Row.get]
      rw [getD_set_ne (fun h => hkj h.symm)]
      refine ⟨rfl, ?_⟩
      rcases Nat.lt_or_ge j k with h | h
      . have : (j + 1) * P.cellsOf e <= k * P.cellsOf e := Nat.mul_le_mul_right _ h
        rw [Nat.add_mul] at this
        omega
      . have : (k + 1) * P.cellsOf e <= j * P.cellsOf e := Nat.mul_le_mul_right _ (by omega)
        rw [Nat.add_mul] at this
        omega
 | map => exact h.elim
 | loop => exact h.elim
theorem Dj {root : Root} {row : Row} {cs : List Value} {p : List Nat} {e : TypeId} {n o0 : Nat} (h : iw P x root row cs) (hp : Bt P root p e n o0) :
    (row.elems p).length = n /\ ∃ pre c post, cs = pre ++ c ++ post /\ pre.length = o0 /\ aX P x e (row.elems p) c /\
     ∀ l' c', aX P x e l' c' -> l'.length = n -> iw P x root (row.jG p l') (pre ++ c' ++ post) := by
 rcases hp with ⟨rfl, rfl, rfl⟩ | ⟨t, hp, hu⟩
 . cases row with
   | var t v => exact absurd h.1 (by simp)
   | map => exact h.elim
   | loop => exact h.elim
   | arr e' l =>
    obtain ⟨h1, c, r, rfl, h3⟩ := h
    simp only [Root.arr.injEq] at h1
    obtain ⟨rfl, rfl⟩ := h1
    refine ⟨rfl, [], c, r, by simp, rfl, h3, fun l' c' k1 k2 => ⟨by simp [k2], c', r, by simp, k1⟩⟩
   | bg e' l =>
    obtain ⟨h1, c, r, rfl, h3⟩ := h
    simp only [Root.arr.injEq] at h1
    obtain ⟨rfl, rfl⟩ := h1
    refine ⟨rfl, [], c, r, by simp, rfl, h3, fun l' c' k1 k2 => ⟨by simp [k2], c', r, by simp, k1⟩⟩
 . obtain ⟨pre, c, post, rfl, e2, e3, e4, e5, e6⟩ := lV h hp
   obtain ⟨u, ps, hv, hlk, hu', hn, hs⟩ := pF hu e5 e3
   have hne : ∀ e' l, row = .arr e' l -> p ≠ [] := by
    rintro e' l rfl rfl
    obtain ⟨rfl, _⟩ := h
    exact hp.elim
   have hnf : ∀ e' l, row = .bg e' l -> p ≠ [] := by
    rintro e' l rfl rfl
    obtain ⟨rfl, _⟩ := h
    exact hp.elim
   have hel : row.elems p = ps := by
    cases row with
    | arr e' l =>
     cases p with
     | nil => exact absurd rfl (hne e' l rfl)
     | cons k p => simp only [Row.elems, hv, au]
    | bg e' l =>
     cases p with
     | nil => exact absurd rfl (hnf e' l rfl)
     | cons k p => simp only [Row.elems, hv, au]
    | var t v => simp only [Row.elems, hv, au]
    | map k e es => simp only [Row.elems, hv, au]
    | loop f i tm st pd => simp only [Row.elems, hv, au]
   rw [hel]
   refine ⟨hn, pre, c, post, rfl, e2, hs, fun l' c' k1 k2 => ?_⟩
   have hpe : row.jG p l' = row.put p (.agg u l') := by
    cases row with
    | arr e' l =>
     cases p with
     | nil => exact absurd rfl (hne e' l rfl)
     | cons k p => simp only [Row.jG, hv, jh]
    | bg e' l =>
     cases p with
     | nil => exact absurd rfl (hnf e' l rfl)
     | cons k p => simp only [Row.jG, hv, jh]
    | var t v => simp only [Row.jG, hv, jh]
    | map k e es => simp only [Row.jG, hv, jh]
    | loop f i tm st pd => simp only [Row.jG, hv, jh]
   rw [hpe]
   refine e6 (.agg u l') c' ?_ ?_ ?_
   . exact kR hu' (by rw [gX k1, k2, <- hn, <- gX hs, e4, gZ hlk]) k2 k1
   . rw [gX k1, k2, <- hn, <- gX hs, e4]
   . simp only [fits, hlk, Bool.true_and]; simp [aQ, hu]
theorem NY {rec : TypeId -> AV -> AV} {x : X} (hrec : ∀ (t : TypeId) (v : AV) (cs : List Value), fits P t v = true -> rel P x v cs -> fits P t (rec t v) = true /\ rel P x (rec t v) cs) :
    ∀ (fs : List Field) (k : Nat) (ps qs : List AV) (cs : List Value), (∀ j, qs.getD j .dead = ps.getD (k + j) .dead) -> dh P x (fs.map (·.type)) qs cs -> dh P x (fs.map (·.type)) (EU rec k fs ps) cs
 | [], k, ps, [], cs, _, h => h
 | [], k, ps, _ :: _, cs, _, h => h.elim
 | f :: fs, k, ps, [], cs, _, h => h.elim
 | f :: fs, k, ps, q :: qs, cs, hq, h => by
  obtain ⟨c, r, rfl, h1, h2, h3, h4⟩ := h
  have h0 : q = ps.getD k .dead := by simpa using hq 0
  obtain ⟨e1, e2⟩ := hrec f.type q c h3 h1
  rw [h0] at e1 e2
  exact ⟨c, r, rfl, e2, h2, e1, NY hrec fs (k + 1) ps qs r (fun j => by rw [show k + 1 + j = k + (j + 1) from by omega, <- hq]; rfl) h4⟩
theorem pz {im : Bool} {x : X} (him : im = true -> x.m = false) : ∀ (d : Nat) (t : TypeId) (v : AV) (cs : List Value), fits P t v = true -> rel P x v cs -> fits P t (iZ P im d t v) = true /\ rel P x (iZ P im d t v) cs
 | 0, t, v, cs, hf, hr => ⟨hf, hr⟩
 | d + 1, t, v, cs, hf, hr => by
  unfold iZ
  split
  . rename_i hu
    cases v <;> simp_all [fits, aR, av]
    rename_i u ps; simp [aQ, hu] at hf
  . rename_i k hu
    cases v <;> simp_all [fits, aR, aj]
    rename_i u ps; simp [aQ, hu] at hf
  . rename_i hu
    cases v <;> simp_all [fits, aR, wZ]
    rename_i u ps; simp [aQ, hu] at hf
  . rename_i fs hu
    split
    . rename_i hl
      obtain ⟨u, ps, rfl, h1, h2, h3⟩ := wG hu hf hr
      have hlen := Ii hr
      refine ⟨by simp [fits, hl, aQ, hu], kV ((dK hl).trans hu) (by rw [hlen, gZ h1, gZ hl]) ?_⟩
      exact NY (fun t v cs a b => pz him d t v cs a b) fs.toList 0 ps ps cs (fun j => by rw [Nat.zero_add]) h3
    . exact ⟨hf, hr⟩
  . rename_i n e hu
    split
    . rename_i hl
      obtain ⟨u, ps, rfl, h1, h2, h3, h4⟩ := pF hu hf hr
      have hlen := Ii hr
      exact ⟨by simp [fits, hl, aQ, hu], kR ((dK hl).trans hu) (by rw [hlen, gZ h1, gZ hl]) h3 h4⟩
    . exact ⟨hf, hr⟩
  . rename_i e hu
    split
    . rename_i hi
      cases v with
      | slice e' l ex =>
       have he : e' = e := by
        simp only [fits, aR, hu, Bool.and_eq_true] at hf
        exact Nat.eq_of_beq_eq_true hf.1
       subst he
       obtain ⟨base, len, cap, h1, h2, h3, h4, h5⟩ := hr
       exact ⟨hf, base, len, cap, h1, h2, h3, fun k => absurd k (by simp), h5⟩
      | msl r p e' off coff len =>
       have := hr.1
       rw [him hi] at this
       exact absurd this (by simp)
      | agg u ps => simp [fits, aQ, hu] at hf
      | _ => simp [fits, aR, hu] at hf
    . exact ⟨hf, hr⟩
  . exact ⟨hf, hr⟩
theorem vP {im : Bool} {x : X} (him : im = true -> x.m = false) {d : Nat} {t : TypeId} {v : AV} {c : Value} (hf : fits P t v = true) (h : aK P x v c) : aK P x (iZ P im d t v) c := by
 obtain ⟨cs, rfl, hr, h1⟩ := h
 obtain ⟨e1, e2⟩ := pz him d t v cs hf hr
 have ha : (iZ P im d t v).isA = v.isA := by rw [ng e1, ng hf]
 exact ⟨cs, by rw [ha], e2, by rw [ha]; exact h1⟩
theorem Md {d : Nat} {t : TypeId} {v : AV} {e : TypeId} {l : List AV} {ex : Bool} (h : iZ P false d t v = .slice e l ex) : v = .slice e l ex := by
 cases d with
 | zero => exact h
 | succ d =>
  unfold iZ at h
  split at h
  . exact absurd h (by simp)
  . exact absurd h (by simp)
  . exact absurd h (by simp)
  . split at h
    . exact absurd h (by simp)
    . exact h
  . split at h
    . exact absurd h (by simp)
    . exact h
  . simpa using h
  . exact h
end
end Go.AE
namespace Go.AE
open Go.RowKit
inductive Onr where
 | t (d i : Nat)
 | r (r : Nat) (p : List Nat)
inductive Cls where
 | froz
 | row
 | grow (o : Onr) (used : Nat)
structure G where
 rows : List (Nat × Root)
 cls : Nat -> Cls
structure Env where
 P : Program
 N : Nat
 S : Nat -> Nat -> Prop
 w0 : World
def cK (E : Env) (cls : Nat -> Cls) (b o : Nat) : Prop :=
 if b < E.N then E.S b o else
 match cls b with
 | .froz => True
 | .row => False
 | .grow _ u => o < u
def aI (E : Env) (g : G) (w : World) : X := ⟨g.rows, cK E g.cls, w, true⟩
def kP (P : Program) (x : X) (k e : TypeId) : List (AV × AV) -> List MapEntry -> Prop
 | [], [] => True
 | (a, v) :: es, c :: cs => (aK P x a c.key /\ fits P k a = true /\ qb P k a = true /\ aK P x v c.val /\ fits P e v = true) /\ kP P x k e es cs
 | _, _ => False
def stN : LoopState -> Nat
 | .ready => 0
 | .busy => 1
 | .done => 2
 | .exhausted => 3
def nM : Nat -> Option Code
 | 0 => none
 | 1 => some .ret
 | n + 2 => some (.exit n)
structure LoopOK (P : Program) (x : X) (fn : FuncId) (id : Nat) (tm : List AV) (st pd : Nat) (rc : Loop) : Prop where
 hrf : ug P fn id = some ⟨rc.params, rc.assign, rc.body⟩
 hst : stN rc.state = st
 hpd : rc.pending = nM pd
 size : rc.tmps.size = tm.length
 tmps : ∀ i : Nat, aK P x (tm.getD i .dead) (rc.tmps.getD i undef)
theorem LoopOK.le {P : Program} {x y : X} (h : Le x y) {fn : FuncId} {id : Nat} {tm : List AV} {st pd : Nat} {rc : Loop} (k : LoopOK P x fn id tm st pd rc) : LoopOK P y fn id tm st pd rc :=
 ⟨k.hrf, k.hst, k.hpd, k.size, fun i => fF h (k.tmps i)⟩
def jU : Row -> Cls
 | .bg _ _ => .froz
 | _ => .row
theorem DI (row : Row) (o : Onr) (u : Nat) : jU row ≠ .grow o u := by cases row <;> simp [jU]
theorem AJ {row : Row} (h : row.wr = true) : jU row = .row := by cases row <;> first | rfl | exact absurd h (by simp [Row.wr])
theorem ac6 (row : Row) (p : List Nat) (v : AV) : jU (row.put p v) = jU row := by cases row <;> cases p <;> rfl
theorem Un (row : Row) (p : List Nat) (v : AV) : (row.put p v).wr = row.wr := by cases row <;> cases p <;> rfl
theorem Ye (row : Row) (p : List Nat) (l : List AV) : (row.jG p l).wr = row.wr := by cases row <;> cases p <;> rfl
def gH (P : Program) (x : X) (b : Nat) (root : Root) (row : Row) : Prop :=
 match row with
 | .map k e es => root = .map k e /\ ∃ ces clock, x.w.heap[b]? = some (.map ces clock) /\ kP P x k e es ces.toList
 | .loop fn id tm st pd => root = .loop /\ ∃ rc, x.w.heap[b]? = some (.loop rc) /\ LoopOK P x fn id tm st pd rc
 | row => ∃ cs ty, x.w.heap[b]? = some (.cells cs ty (0, 0)) /\ iw P x root row cs.toList
def bK (E : Env) (g : G) (w : World) (o : Onr) (e : TypeId) (v : Value) : Prop :=
 ∃ base len cap, v = .slice base len cap /\
  (cap = len \/ ∃ b off cs ty, base = some ⟨b, off, none⟩ /\ E.N <= b /\ g.cls b = .grow o (off + len * E.P.cellsOf e) /\ w.heap[b]? = some (.cells cs ty (0, 0)) /\ off + cap * E.P.cellsOf e <= cs.size)
structure Rel (E : Env) (d : Nat) (g : G) (fr : Fr) (M : Mm) (a : Act) (w : World) : Prop where
 below : Below E.N E.w0 w
 hN : E.N <= w.heap.size
 fresh : ∀ b, w.heap.size <= b -> g.cls b = .froz
 size : a.tmps.size = fr.tmps.length
 tmps : ∀ i : Nat, aK E.P (aI E g w) (fr.tmps.getD i .dead) (a.tmps.getD i undef)
 lenr : g.rows.length = M.rows.length
 rows : ∀ (r b : Nat) (root : Root), g.rows[r]? = some (b, root) -> E.N <= b /\ b < w.heap.size /\ g.cls b = jU (M.rows.getD r (.arr 0 [])) /\ gH E.P (aI E g w) b root (M.rows.getD r (.arr 0 []))
 inj : ∀ (r r' b : Nat) (root root' : Root), g.rows[r]? = some (b, root) -> g.rows[r']? = some (b, root') -> r = r'
 own : ∀ t : Nat, (t, TF.own) ∈ fr.tf -> ∃ e l ex, fr.tmps.getD t .dead = .slice e l ex /\ bK E g w (.t d t) e (a.tmps.getD t undef)
 viaT : ∀ t s : Nat, (t, TF.viaT s) ∈ fr.tf -> (s, TF.own) ∈ fr.tf /\ a.tmps.getD t undef = a.tmps.getD s undef /\
  ∃ e l ex l' ex', fr.tmps.getD t .dead = .slice e l ex /\ fr.tmps.getD s .dead = .slice e l' ex'
 viaR : ∀ (t r : Nat) (p : List Nat), (t, TF.viaR r p) ∈ fr.tf -> (r, p) ∈ M.ro /\ ∃ e l ex, fr.tmps.getD t .dead = .slice e l ex /\
  ∃ b root ty off, g.rows[r]? = some (b, root) /\ eT E.P root p ty off /\ E.P.underlying ty = some (.slice e) /\ w.cell? ⟨b, off, none⟩ = some (a.tmps.getD t undef)
 ro : ∀ (r : Nat) (p : List Nat), (r, p) ∈ M.ro -> ∃ b root ty off e v, g.rows[r]? = some (b, root) /\ eT E.P root p ty off /\ E.P.underlying ty = some (.slice e) /\
  w.cell? ⟨b, off, none⟩ = some v /\ bK E g w (.r r p) e v
structure Ext (E : Env) (d : Nat) (g : G) (w : World) (g' : G) (w' : World) : Prop where
 rows : ∀ (r : Nat) (z : Nat × Root), g.rows[r]? = some z -> g'.rows[r]? = some z
 st : ∀ (b o : Nat) (v : Value), cK E g.cls b o -> w.cell? ⟨b, o, none⟩ = some v -> cK E g'.cls b o
 cell : ∀ (b o : Nat) (v : Value), cK E g.cls b o -> w.cell? ⟨b, o, none⟩ = some v -> w'.cell? ⟨b, o, none⟩ = some v
 grow : ∀ b d' i u : Nat, d' < d -> b < w.heap.size -> g.cls b = .grow (.t d' i) u -> g'.cls b = g.cls b /\ w'.heap[b]? = w.heap[b]?
 size : w.heap.size <= w'.heap.size
 df : ∀ b : Nat, w.heap[b]? = some (.deferred (some [])) -> w'.heap[b]? = some (.deferred (some []))
section
variable {E : Env} {d : Nat} {g g' : G} {fr : Fr} {M : Mm} {a : Act} {w w' : World}
theorem Ext.refl (E : Env) (d : Nat) (g : G) (w : World) : Ext E d g w g w := ⟨fun _ _ h => h, fun _ _ _ h _ => h, fun _ _ _ _ h => h, fun _ _ _ _ _ _ _ => ⟨rfl, rfl⟩, Nat.le_refl _, fun _ h => h⟩
theorem Ext.trans {g'' : G} {w'' : World} (h : Ext E d g w g' w') (k : Ext E d g' w' g'' w'') : Ext E d g w g'' w'' :=
 ⟨fun r z e => k.rows r z (h.rows r z e), fun b o v s c => k.st b o v (h.st b o v s c) (h.cell b o v s c), fun b o v s c => k.cell b o v (h.st b o v s c) (h.cell b o v s c),
  fun b d' i u hd hb hc => by
   obtain ⟨h1, h2⟩ := h.grow b d' i u hd hb hc
   obtain ⟨k1, k2⟩ := k.grow b d' i u hd (Nat.lt_of_lt_of_le hb h.size) (h1.trans hc)
   exact ⟨k1.trans h1, k2.trans h2⟩, Nat.le_trans h.size k.size, fun b hb => k.df b (h.df b hb)⟩
theorem Ext.le (h : Ext E d g w g' w') : Le (aI E g w) (aI E g' w') := ⟨h.rows, h.st, h.cell, id⟩
theorem Ext.down {d' : Nat} (h : Ext E d g w g' w') (hd : d' <= d) : Ext E d' g w g' w' := ⟨h.rows, h.st, h.cell, fun b e i u he hb hc => h.grow b e i u (by omega) hb hc, h.size, h.df⟩
theorem jl {w : World} {b o : Nat} {v : Value} (h : w.cell? ⟨b, o, none⟩ = some v) : b < w.heap.size := World.block_lt_of_cell? w ⟨b, o, none⟩ h
theorem Pe (h : Below w.heap.size w w') (g : G) : Le (aI E g w) (aI E g w') :=
 ⟨fun _ _ e => e, fun _ _ _ e _ => e, fun b o v _ hc => (h.cell (p := ⟨b, o, none⟩) (jl hc)).trans hc, id⟩
theorem Ext.of_below (h : Below w.heap.size w w') : Ext E d g w g w' :=
 ⟨fun _ _ e => e, fun _ _ _ e _ => e, fun b o v _ hc => (h.cell (p := ⟨b, o, none⟩) (jl hc)).trans hc, fun b d' i u _ hb _ => ⟨rfl, h.block b hb⟩, h.size, fun b hb => (h.block b (Array.getElem?_eq_some_iff.1 hb).1).trans hb⟩
theorem pW {b : Nat} {o : Obj} (h : w.heap[b]? = some o) : b < w.heap.size := (Array.getElem?_eq_some_iff.1 h).1
theorem Gu {P : Program} {x y : X} (h : Le x y) {k e : TypeId} : ∀ {es : List (AV × AV)} {cs : List MapEntry}, kP P x k e es cs -> kP P y k e es cs
 | [], [], _ => trivial
 | [], _ :: _, r => r.elim
 | _ :: _, [], r => r.elim
 | (a, v) :: es, c :: cs, ⟨⟨h1, h2, h3, h4, h5⟩, r⟩ => ⟨⟨fF h h1, h2, h3, fF h h4, h5⟩, Gu h r⟩
theorem gH.le {P : Program} {x y : X} (h : Le x y) {b : Nat} {root : Root} {row : Row} (hb : y.w.heap[b]? = x.w.heap[b]?) (k : gH P x b root row) : gH P y b root row := by
 cases row with
 | map kt et es =>
  obtain ⟨k1, ces, clock, k2, k3⟩ := k
  exact ⟨k1, ces, clock, hb.trans k2, Gu h k3⟩
 | loop f i tm st pd =>
  obtain ⟨k1, rc, k2, k3⟩ := k
  exact ⟨k1, rc, hb.trans k2, k3.le h⟩
 | var t v =>
  obtain ⟨cs, ty, k2, k3⟩ := k
  exact ⟨cs, ty, hb.trans k2, k3.le h⟩
 | arr e l =>
  obtain ⟨cs, ty, k2, k3⟩ := k
  exact ⟨cs, ty, hb.trans k2, k3.le h⟩
 | bg e l =>
  obtain ⟨cs, ty, k2, k3⟩ := k
  exact ⟨cs, ty, hb.trans k2, k3.le h⟩
theorem bK.le {o : Onr} {e : TypeId} {v : Value} (h : bK E g w o e v) (hk : ∀ b u : Nat, E.N <= b -> b < w.heap.size -> g.cls b = .grow o u -> g'.cls b = g.cls b /\ w'.heap[b]? = w.heap[b]?) : bK E g' w' o e v := by
 obtain ⟨base, len, cap, rfl, h⟩ := h
 refine ⟨base, len, cap, rfl, h.imp id ?_⟩
 rintro ⟨b, off, cs, ty, rfl, hN, hc, hh, hs⟩
 obtain ⟨k1, k2⟩ := hk b _ hN (pW hh) hc
 exact ⟨b, off, cs, ty, rfl, hN, k1.trans hc, k2.trans hh, hs⟩
theorem Rel.grown (h : Rel E d g fr M a w) (hb : Below w.heap.size w w') : Rel E d g fr M a w' := by
 have hle := Pe (E := E) hb g
 have hcell : ∀ b o v, w.cell? ⟨b, o, none⟩ = some v -> w'.cell? ⟨b, o, none⟩ = some v := fun b o v hc => (hb.cell (p := ⟨b, o, none⟩) (jl hc)).trans hc
 have hown : ∀ {o : Onr} {e : TypeId} {v : Value}, bK E g w o e v -> bK E g w' o e v := fun k => k.le fun b u _ hlt _ => ⟨rfl, hb.block b hlt⟩
 refine ⟨h.below.trans (hb.mono h.hN), Nat.le_trans h.hN hb.size, fun b hlt => h.fresh b (Nat.le_trans hb.size hlt), h.size, fun i => fF hle (h.tmps i), h.lenr, ?_, h.inj, ?_, h.viaT, ?_, ?_⟩
 . intro r b root hr
   obtain ⟨k1, k2, k3, k4⟩ := h.rows r b root hr
   exact ⟨k1, Nat.lt_of_lt_of_le k2 hb.size, k3, k4.le hle (hb.block b k2)⟩
 . intro t ht
   obtain ⟨e, l, ex, k1, k2⟩ := h.own t ht
   exact ⟨e, l, ex, k1, hown k2⟩
 . intro t r p ht
   obtain ⟨k1, e, l, ex, k2, b, root, ty, off, k3, k4, k5, k6⟩ := h.viaR t r p ht
   exact ⟨k1, e, l, ex, k2, b, root, ty, off, k3, k4, k5, hcell _ _ _ k6⟩
 . intro r p ht
   obtain ⟨b, root, ty, off, e, v, k1, k2, k3, k4, k5⟩ := h.ro r p ht
   exact ⟨b, root, ty, off, e, v, k1, k2, k3, hcell _ _ _ k4, hown k5⟩
theorem uQ (l : List AV) (i j : Nat) (v : AV) : (l.set i v).getD j .dead = if i = j /\ i < l.length then v else l.getD j .dead := by
 by_cases hij : i = j
 . subst hij
   by_cases hl : i < l.length
   . simp [List.getD, hl]
   . simp [List.getD, hl]
 . simp [List.getD, List.getElem?_set_ne hij, hij]
theorem yw (l : Array Value) (i j : Nat) (v : Value) : (l.setIfInBounds i v).getD j undef = if i = j /\ i < l.size then v else l.getD j undef := by
 by_cases hij : i = j
 . subst hij
   by_cases hl : i < l.size
   . simp [hl]
   . simp [hl]
 . simp [Array.getElem?_setIfInBounds_ne hij, hij]
theorem oH {t i : Nat} {f : TF} {tf : List (Nat × TF)} (h : (i, f) ∈ aV t tf) : (i, f) ∈ tf /\ i ≠ t /\ f ≠ .viaT t := by
 simp only [aV, List.mem_filter, Bool.and_eq_true, Bool.not_eq_true'] at h
 obtain ⟨h1, h2, h3⟩ := h
 refine ⟨h1, fun e => ?_, fun e => ?_⟩
 . subst e; simp at h2
 . subst e; simp at h3
theorem vS {t i : Nat} {f : TF} {tf : List (Nat × TF)} (h : (i, f) ∈ tf) (h1 : i ≠ t) (h2 : f ≠ .viaT t) : (i, f) ∈ aV t tf := by
 simp only [aV, List.mem_filter, Bool.and_eq_true, Bool.not_eq_true']
 refine ⟨h, ?_, ?_⟩
 . cases hb : Nat.beq i t with
   | false => rfl
   | true => exact absurd (Nat.eq_of_beq_eq_true hb) h1
 . cases f with
   | viaT s =>
    show (!Nat.beq s t) = true
    cases hb : Nat.beq s t with
    | false => rfl
    | true => exact absurd (by rw [Nat.eq_of_beq_eq_true hb]) h2
   | _ => rfl
theorem Rel.set (h : Rel E d g fr M a w) (dst : Option Nat) {v : AV} {c : Value} (hv : aK E.P (aI E g w) v c) : Rel E d g (fr.set dst v) M (a.put dst c) w := by
 cases dst with
 | none => exact h
 | some t =>
  have hg : ∀ i, i ≠ t -> (fr.tmps.set t v).getD i .dead = fr.tmps.getD i .dead := fun i hi => by rw [uQ, if_neg (fun k => hi k.1.symm)]
  have ha : ∀ i, i ≠ t -> (a.tmps.setIfInBounds t c).getD i undef = a.tmps.getD i undef := fun i hi => by rw [yw, if_neg (fun k => hi k.1.symm)]
  refine ⟨h.below, h.hN, h.fresh, by simp [Fr.set, Act.put, h.size], fun i => ?_, h.lenr, h.rows, h.inj, ?_, ?_, ?_, h.ro⟩
  . show aK E.P (aI E g w) ((fr.tmps.set t v).getD i .dead) ((a.tmps.setIfInBounds t c).getD i undef)
    rw [uQ, yw, h.size]
    split
    . exact hv
    . exact h.tmps i
  . intro i hi
    obtain ⟨k1, k2, k3⟩ := oH hi
    obtain ⟨e, l, ex, m1, m2⟩ := h.own i k1
    exact ⟨e, l, ex, (hg i k2).trans m1, by show bK E g w _ e ((a.tmps.setIfInBounds t c).getD i undef); rw [ha i k2]; exact m2⟩
  . intro i s hi
    obtain ⟨k1, k2, k3⟩ := oH hi
    obtain ⟨m1, m2, e, l, ex, l', ex', m3, m4⟩ := h.viaT i s k1
    have hs : s ≠ t := fun e => k3 (by rw [e])
    refine ⟨vS m1 hs (by simp), ?_, e, l, ex, l', ex', (hg i k2).trans m3, (hg s hs).trans m4⟩
    show (a.tmps.setIfInBounds t c).getD i undef = (a.tmps.setIfInBounds t c).getD s undef
    rw [ha i k2, ha s hs, m2]
  . intro i r p hi
    obtain ⟨k1, k2, k3⟩ := oH hi
    obtain ⟨m1, e, l, ex, m2, b, root, ty, off, m3, m4, m5, m6⟩ := h.viaR i r p k1
    refine ⟨m1, e, l, ex, (hg i k2).trans m2, b, root, ty, off, m3, m4, m5, ?_⟩
    show w.cell? _ = some ((a.tmps.setIfInBounds t c).getD i undef)
    rw [ha i k2]; exact m6
end
section
variable {P : Program} {x : X}
theorem bR {v : AV} {c : Value} (h : rel P x v [c]) (hA : v.isA = false) : aK P x v c := ⟨[c], by rw [hA]; rfl, h, fun _ => rfl⟩
theorem ku (c : Value) : aK P x .dead c := bR trivial rfl
theorem xG : aK P x bY undef := bR ⟨#[], rfl, by simp [bA]⟩ rfl
theorem NH (t : TypeId) (c : Value) : rel P x (uy P t c) [c] := by
 unfold uy
 split <;> first | trivial | (exact ⟨none, 0, 0, rfl, rfl, Nat.le_refl _, fun _ => rfl, .inl rfl⟩) | (simp [rel]; done)
theorem SN (t : TypeId) (c : Value) : (uy P t c).isA = false := by
 unfold uy
 split <;> rfl
theorem Eh (rec : TypeId -> List Value -> Option (AV × List Value))
    (hrec : ∀ t cs v r, rec t cs = some (v, r) -> ∃ c, cs = c ++ r /\ rel P x v c /\ c.length = P.cellsOf t /\ fits P t v = true) :
    ∀ (ts : List TypeId) (cs : List Value) (vs : List AV) (r : List Value), uH rec ts cs = some (vs, r) -> ∃ c, cs = c ++ r /\ dh P x ts vs c
 | [], cs, vs, r, h => by
  simp only [uH, Option.some.injEq, Prod.mk.injEq] at h
  obtain ⟨rfl, rfl⟩ := h
  exact ⟨[], by simp, rfl⟩
 | t :: ts, cs, vs, r, h => by
  simp only [uH] at h
  split at h
  . rename_i v r1 h1
    split at h
    . rename_i vs' r' h2
      simp only [Option.some.injEq, Prod.mk.injEq] at h
      obtain ⟨rfl, rfl⟩ := h
      obtain ⟨c, rfl, k1, k2, k3⟩ := hrec t cs v r1 h1
      obtain ⟨c', rfl, k4⟩ := Eh rec hrec ts r1 vs' r' h2
      exact ⟨c ++ c', by simp, c, c', rfl, k1, k2, k3, k4⟩
    . exact absurd h (by simp)
  . exact absurd h (by simp)
theorem GI {e : TypeId} : ∀ {n : Nat} {vs : List AV} {cs : List Value}, dh P x (List.replicate n e) vs cs -> vs.length = n /\ aX P x e vs cs
 | 0, [], cs, h => ⟨rfl, h⟩
 | 0, _ :: _, cs, h => h.elim
 | n + 1, [], cs, h => h.elim
 | n + 1, v :: vs, cs, h => by
  obtain ⟨c, r, rfl, h1, h2, h3, h4⟩ := h
  obtain ⟨k1, k2⟩ := GI h4
  exact ⟨by simp [k1], c, r, rfl, h1, h2, h3, k2⟩
theorem Hw : ∀ (n : Nat) (t : TypeId) (cs : List Value) (v : AV) (r : List Value), p8 P n t cs = some (v, r) -> ∃ c, cs = c ++ r /\ rel P x v c /\ c.length = P.cellsOf t /\ fits P t v = true
 | 0, _, _, _, _, h => by simp [p8] at h
 | n + 1, t, cs, v, r, h => by
  simp only [p8] at h
  split at h
  . rename_i fs hu
    split at h
    . rename_i ps r' h1
      split at h
      . rename_i hc
        simp only [Option.some.injEq, Prod.mk.injEq] at h
        obtain ⟨rfl, rfl⟩ := h
        simp only [Bool.and_eq_true] at hc
        obtain ⟨c, rfl, k1⟩ := Eh (p8 P n) (fun t cs v r => Hw n t cs v r) _ _ _ _ h1
        have hlen : c.length = P.cellsOf t := by have := Nat.eq_of_beq_eq_true hc.1; simp at this; omega
        refine ⟨c, rfl, kV ((dK hc.2).trans hu) (hlen.trans (gZ hc.2).symm) k1, hlen, ?_⟩
        simp [fits, hc.2, aQ, hu]
      . exact absurd h (by simp)
    . exact absurd h (by simp)
  . rename_i m e hu
    split at h
    . rename_i ps r' h1
      split at h
      . rename_i hc
        simp only [Option.some.injEq, Prod.mk.injEq] at h
        obtain ⟨rfl, rfl⟩ := h
        simp only [Bool.and_eq_true] at hc
        obtain ⟨c, rfl, k1⟩ := Eh (p8 P n) (fun t cs v r => Hw n t cs v r) _ _ _ _ h1
        have hlen : c.length = P.cellsOf t := by have := Nat.eq_of_beq_eq_true hc.1; simp at this; omega
        refine ⟨c, rfl, kR ((dK hc.2).trans hu) (hlen.trans (gZ hc.2).symm) (GI k1).1 (GI k1).2, hlen, ?_⟩
        simp [fits, hc.2, aQ, hu]
      . exact absurd h (by simp)
    . exact absurd h (by simp)
  . rename_i u hu1 hu2 hu
    split at h
    . rename_i c r'
      split at h
      . rename_i hc
        simp only [Option.some.injEq, Prod.mk.injEq] at h
        obtain ⟨rfl, rfl⟩ := h
        simp only [Bool.and_eq_true] at hc
        exact ⟨[c], by simp, NH t c, by simpa using (Nat.eq_of_beq_eq_true hc.2).symm, hc.1⟩
      . exact absurd h (by simp)
    . exact absurd h (by simp)
  . exact absurd h (by simp)
theorem xQ (t : TypeId) (v : Value) : aK P x (zi P t v) v := by
 unfold zi
 split
 . rename_i cs
   split
   . rename_i a h
     obtain ⟨c, k1, k2, k3, k4⟩ := Hw 20 t _ _ _ h
     simp only [List.append_nil] at k1
     split
     . subst k1
       exact ⟨cs.toList, by simp [mkV, AV.isA], k2, by simp [AV.isA]⟩
     . exact ku _
   . exact ku _
 . rename_i b
   split
   . rename_i hb
     have : b = #[] := by simpa using hb
     subst this
     exact xG
   . exact ku _
 . exact bR (NH t v) (SN t v)
end
section
variable {E : Env} {d : Nat} {g : G} {fr : Fr} {M : Mm} {a : Act} {w : World}
theorem Rel.aC (h : Rel E d g fr M a w) (t : TypeId) (x : Operand) : aK E.P (aI E g w) (aC E.P fr.tmps t x) (a.eval x) := by
 cases x with
 | tmp i => exact h.tmps i
 | const v => exact xQ t v
 | global i => exact ku _
 | func f => exact bR ⟨#[], #[], rfl, by simp [bA], by simp [bA]⟩ rfl
theorem Rel.bH (h : Rel E d g fr M a w) : ∀ (ts : List TypeId) (xs : List Operand), bA E.P (aI E g w) (bH E.P fr.tmps ts xs) (xs.map a.eval)
 | ts, [] => by simp [AE.bH, bA]
 | [], x :: xs => by
  obtain ⟨c, h1, h2, h3⟩ := h.aC 0 x
  simp only [AE.bH, List.map_cons, bA]
  exact ⟨c, xs.map a.eval, by rw [h1], h2, h3, h.bH [] xs⟩
 | t :: ts, x :: xs => by
  obtain ⟨c, h1, h2, h3⟩ := h.aC t x
  simp only [AE.bH, List.map_cons, bA]
  exact ⟨c, xs.map a.eval, by rw [h1], h2, h3, h.bH ts xs⟩
end
end Go.AE
namespace Go.AE
open Go.RowKit
section
variable {P : Program} {x : X} {w : World}
theorem rz {t : TypeId} {v : AV} (h : fits P t v = true) : ∃ d, P.underlying t = some d := by
 cases hu : P.underlying t with
 | some d => exact ⟨d, rfl⟩
 | none => cases v <;> simp [fits, aR, aQ, hu] at h
theorem r9 {t : TypeId} {v : AV} {c : List Value} (h : fits P t v = true) (hr : rel P x v c) (hA : v.isA = false) : c.length = 1 := by
 cases v with
 | agg u ps => simp [AV.isA] at hA
 | dead => simp [fits, aR] at h
 | tuple vs => simp [fits, aR] at h
 | bool b => simp only [rel] at hr; subst hr; rfl
 | int k n => simp only [rel] at hr; subst hr; rfl
 | str s => simp only [rel] at hr; subst hr; rfl
 | nilp => simp only [rel] at hr; subst hr; rfl
 | nilf => simp only [rel] at hr; subst hr; rfl
 | yld r => obtain ⟨b, h1, rfl⟩ := hr; rfl
 | nili => simp only [rel] at hr; subst hr; rfl
 | ptr r p t off => obtain ⟨b, root, h1, h2, rfl⟩ := hr; rfl
 | rptr t v => obtain ⟨b, o, c, rfl, _⟩ := hr; rfl
 | slice e l ex => obtain ⟨base, len, cap, rfl, _⟩ := hr; rfl
 | msl r p e off coff len => obtain ⟨_, b, root, n, o0, h1, h2, h3, h4, base, cap, h5, rfl, _⟩ := hr; rfl
 | mapv r =>
  cases r with
  | none => simp only [rel] at hr; subst hr; rfl
  | some r => obtain ⟨b, k, e, h1, rfl⟩ := hr; rfl
 | func fn a b => obtain ⟨a, b, rfl, _⟩ := hr; rfl
 | iface t v => obtain ⟨c, h1, h2, h3, rfl⟩ := hr; rfl
theorem xC {t : TypeId} {v : AV} {c : List Value} (h : fits P t v = true) (hr : rel P x v c) : aK P x v (mkV v.isA c) :=
 ⟨c, rfl, hr, r9 h hr⟩
theorem eG {b : Bool} {v : Value} : aK P x (.bool b) v ↔ v = .bool b := by
 constructor
 . rintro ⟨c, rfl, h, _⟩
   simp only [rel] at h; subst h; rfl
 . rintro rfl; exact bR rfl rfl
theorem bL {k : IntKind} {n : Int} {v : Value} : aK P x (.int k n) v ↔ v = .int k n := by
 constructor
 . rintro ⟨c, rfl, h, _⟩
   simp only [rel] at h; subst h; rfl
 . rintro rfl; exact bR rfl rfl
theorem gV {s : List UInt8} {v : Value} : aK P x (.str s) v ↔ v = .string ⟨s.toArray⟩ := by
 constructor
 . rintro ⟨c, rfl, h, _⟩
   simp only [rel] at h; subst h; rfl
 . rintro rfl; exact bR rfl rfl
theorem tY {t : TypeId} {ps : List AV} {v : Value} (h : aK P x (.agg t ps) v) : ∃ c : List Value, v = .agg c.toArray /\ rel P x (.agg t ps) c := by
 obtain ⟨c, rfl, h, _⟩ := h
 exact ⟨c, rfl, h⟩
theorem iH {a : AV} {v : Value} (hA : a.isA = false) (h : aK P x a v) : rel P x a [v] := by
 obtain ⟨c, rfl, h1, h2⟩ := h
 have hl := h2 hA
 rw [hA]
 match c, hl with
 | [u], _ => exact h1
theorem oI : ∀ {as : List AV} {vs : List Value}, bA P x as vs -> as.length = vs.length /\ ∀ i, aK P x (as.getD i .dead) (vs.getD i undef)
 | [], vs, h => by simp only [bA] at h; subst h; exact ⟨rfl, fun i => ku _⟩
 | a :: as, vs, h => by
  obtain ⟨c, r, rfl, h1, h2, h3⟩ := h
  obtain ⟨k1, k2⟩ := oI h3
  refine ⟨by simp [k1], fun i => ?_⟩
  cases i with
  | zero => exact ⟨c, rfl, h1, h2⟩
  | succ i => simpa using k2 i
theorem qj : ∀ {as bs : List AV} {vs us : List Value}, bA P x as vs -> bA P x bs us -> bA P x (as ++ bs) (vs ++ us)
 | [], bs, vs, us, h, k => by simp only [bA] at h; subst h; simpa using k
 | a :: as, bs, vs, us, h, k => by
  obtain ⟨c, r, rfl, h1, h2, h3⟩ := h
  exact ⟨c, r ++ us, by simp, h1, h2, qj h3 k⟩
theorem jX {a : AV} {as : List AV} {v : Value} {vs : List Value} (h : aK P x a v) (k : bA P x as vs) : bA P x (a :: as) (v :: vs) := by
 obtain ⟨c, rfl, h1, h2⟩ := h
 exact ⟨c, vs, rfl, h1, h2, k⟩
theorem Mr (f : AV -> AV -> AV) (b : Bool) (hf : ∀ u v, f u v = cond b u v) : ∀ p q : List AV, su f b p q = cond b p q
 | x :: xs, y :: ys => by
  rw [su, hf, Mr f b hf xs ys]; cases b <;> rfl
 | [], [] => by cases b <;> rfl
 | [], y :: ys => by rw [su]; all_goals simp
 | x :: xs, [] => by rw [su]; all_goals simp
theorem vD : ∀ (d : Nat) (b : Bool) (u v : AV), nK P d b u v = cond b u v
 | 0, b, u, v => rfl
 | d + 1, b, u, v => by
  have hL := Mr (nK P d b) b (vD d b)
  unfold nK
  split
  . cases b <;> rfl
  . split
    . rename_i h; subst h; cases b <;> rfl
    . rfl
  . cases b <;> rfl
  . rw [hL]; cases b <;> rfl
  . split
    . rename_i h; subst h
      split
      . rw [hL]; cases b <;> rfl
      . cases b <;> rfl
    . rfl
  . split
    . rename_i h; obtain ⟨rfl, rfl⟩ := h; cases b <;> rfl
    . rfl
  . split
    . rename_i h
      simp only [Bool.and_eq_true, Nat.beq_eq, beq_iff_eq] at h
      obtain ⟨⟨⟨rfl, rfl⟩, rfl⟩, rfl⟩ := h; cases b <;> rfl
    . rfl
  . cases b <;> rfl
  . cases b <;> rfl
  . cases b <;> rfl
  . cases b <;> rfl
  . rfl
def fE (P : Program) (rows : List (Nat × Root)) (st : Nat -> Nat -> Prop) (w : World) (s : Sem Value) (v : AV) : Prop :=
 ∃ c w', s.run P w = .ok c w' /\ Below w.heap.size w w' /\ aK P ⟨rows, st, w', true⟩ v c
end
section
variable {P : Program} {rows : List (Nat × Root)} {st : Nat -> Nat -> Prop} {w : World}
theorem fE.of {s : Sem Value} {v : AV} {c : Value} (h : s.run P w = .ok c w) (k : aK P (X.mk rows st w true) v c) : fE P rows st w s v := ⟨c, w, h, Below.refl _ _, k⟩
theorem Gd {op : BinOp} {t : TypeId} {k k' : IntKind} {a b : Int} {v : AV} (hk : (op = .shl \/ op = .shr) \/ k = k') (h : vN op k a b = (true, v)) :
    fE P rows st w (binOp op t (.int k a) (.int k' b)) v := by
 rcases hk with hk | rfl
 . rcases hk with rfl | rfl
   . simp only [vN, Prod.mk.injEq, decide_eq_true_eq] at h
     obtain ⟨h0, rfl⟩ := h
     exact .of (by simp [binOp, Op.shift, show ¬ b < 0 by omega]) (bL.2 rfl)
   . simp only [vN, Prod.mk.injEq, decide_eq_true_eq] at h
     obtain ⟨h0, rfl⟩ := h
     exact .of (by simp [binOp, Op.shift, show ¬ b < 0 by omega]) (bL.2 rfl)
 . cases op <;> simp only [vN, Prod.mk.injEq, true_and, decide_eq_true_eq, Bool.not_eq_true', beq_eq_false_iff_ne] at h
   case add => subst h; exact .of (by simp [binOp, Op.intArith]) (bL.2 rfl)
   case sub => subst h; exact .of (by simp [binOp, Op.intArith]) (bL.2 rfl)
   case mul => subst h; exact .of (by simp [binOp, Op.intArith]) (bL.2 rfl)
   case quo => obtain ⟨h0, rfl⟩ := h; exact .of (by simp [binOp, Op.intDiv, h0]) (bL.2 rfl)
   case rem => obtain ⟨h0, rfl⟩ := h; exact .of (by simp [binOp, Op.intDiv, h0]) (bL.2 rfl)
   case and => subst h; exact .of (by simp [binOp, Op.intBits]; rfl) (bL.2 rfl)
   case or => subst h; exact .of (by simp [binOp, Op.intBits]; rfl) (bL.2 rfl)
   case xor => subst h; exact .of (by simp [binOp, Op.intBits]; rfl) (bL.2 rfl)
   case andNot => subst h; exact .of (by rw [binOp_andNot]; rfl) (bL.2 rfl)
   case eql => subst h; exact .of (by simp [binOp, Op.intCmp]) (eG.2 rfl)
   case neq => subst h; exact .of (by simp [binOp, Op.intCmp]) (eG.2 rfl)
   case lss => subst h; exact .of (by simp [binOp, Op.intCmp]) (eG.2 rfl)
   case leq => subst h; exact .of (by simp [binOp, Op.intCmp]) (eG.2 rfl)
   case gtr => subst h; exact .of (by simp [binOp, Op.intCmp]) (eG.2 rfl)
   case geq => subst h; exact .of (by simp [binOp, Op.intCmp]) (eG.2 rfl)
   case shl =>
    obtain ⟨h0, rfl⟩ := h
    exact .of (by simp [binOp, Op.shift, show ¬ b < 0 by omega]) (bL.2 rfl)
   case shr =>
    obtain ⟨h0, rfl⟩ := h
    exact .of (by simp [binOp, Op.shift, show ¬ b < 0 by omega]) (bL.2 rfl)
theorem FN (s : List UInt8) : (ByteArray.mk s.toArray).toList = s := by rw [ByteArray.toList_eq]
theorem V4 {op : BinOp} {t : TypeId} {a b : List UInt8} {v : AV} (h : EP op a b = some (true, v)) :
    fE P rows st w (binOp op t (.string ⟨a.toArray⟩) (.string ⟨b.toArray⟩)) v := by
 cases op <;> simp only [EP, Option.some.injEq, Prod.mk.injEq, true_and, decide_eq_true_eq, reduceCtorEq] at h
 case add =>
  obtain ⟨h0, rfl⟩ := h
  have h1 : ¬ (9223372036854775807 : Int) < (a.length : Int) + (b.length : Int) := by simp only [Iz] at h0; omega
  refine .of (c := .string ⟨(a ++ b).toArray⟩) ?_ (gV.2 rfl)
  have e : (ByteArray.mk a.toArray ++ ByteArray.mk b.toArray) = ByteArray.mk (a ++ b).toArray := by
   apply ByteArray.ext
   simp
  simp [binOp, Op.stringOp, ByteArray.size, h1, e]
 case eql => subst h; exact .of (by simp [binOp, Op.stringOp, FN]) (eG.2 rfl)
 case neq => subst h; exact .of (by simp [binOp, Op.stringOp, FN]) (eG.2 rfl)
theorem uV {x : X} {t : TypeId} {v : AV} {cs : Array Value} {pre c post : List Value} {off : Nat} (he : cs.toList = pre ++ c ++ post) (ho : pre.length = off) (hf : fits P t v = true) (hr : rel P x v c) (hl : c.length = P.cellsOf t) :
    (part t cs off).run P w = .ok (mkV v.isA c) w := by
 obtain ⟨d, hu⟩ := rz hf
 obtain ⟨i, hi⟩ := info_of_underlying hu
 have hA := ng hf
 have hagg : (isAgg t).run P w = .ok (aQ P t) w := by
  unfold isAgg aQ
  rw [Sem.run_bind, run_underlying hu w, hu]
  cases d <;> rfl
 subst ho
 unfold part
 rw [Sem.run_bind, hagg, Result.andThen_ok]
 cases hA' : aQ P t with
 | true =>
  simp only [if_true, Sem.run_bind, run_sizeOf w hi, Result.andThen_ok, Sem.run_pure]
  rw [hA, hA']
  simp only [mkV, if_true]
  congr 2
  apply Array.ext'
  rw [Array.toList_extract, he, <- hl]
  simp [List.extract]
 | false =>
  have h1 := r9 hf hr (by rw [hA, hA'])
  match c, h1 with
  | [u], _ =>
   have : cs[pre.length]? = some u := by
    rw [<- Array.getElem?_toList, he]
    simp
   simp only [Bool.false_eq_true, if_false, this, Sem.run_pure]
   rw [hA, hA']
   rfl
theorem run_eq {x : X} : ∀ (n : Nat) (d : Nat) {t : TypeId} {a b : AV} {ca cb : List Value}, n <= d -> oo P n t = true -> fits P t a = true -> fits P t b = true -> rel P x a ca -> rel P x b cb ->
    (Op.equalIn d t (mkV a.isA ca) (mkV b.isA cb)).run P w = .ok (oF a b) w
 | 0, _, t, a, b, ca, cb, _, h, _, _, _, _ => by simp [oo] at h
 | n + 1, 0, t, a, b, ca, cb, hd, _, _, _, _, _ => by omega
 | n + 1, d + 1, t, a, b, ca, cb, hd, h, fa, fb, ra, rb => by
  simp only [oo] at h
  split at h
  . rename_i hu
    have ha : ∃ p, a = .bool p := by cases a <;> simp_all [fits, aR, aQ]
    have hb : ∃ p, b = .bool p := by cases b <;> simp_all [fits, aR, aQ]
    obtain ⟨p, rfl⟩ := ha; obtain ⟨q, rfl⟩ := hb
    simp only [rel] at ra rb; subst ra; subst rb
    exact run_equalIn_bool w d t p q hu
  . rename_i k hu
    have ha : ∃ p, a = .int k p := by cases a <;> simp_all [fits, aR, aQ]
    have hb : ∃ p, b = .int k p := by cases b <;> simp_all [fits, aR, aQ]
    obtain ⟨p, rfl⟩ := ha; obtain ⟨q, rfl⟩ := hb
    simp only [rel] at ra rb; subst ra; subst rb
    exact run_equalIn_int w d t k k p q hu
  . rename_i hu
    have ha : ∃ p, a = .str p := by cases a <;> simp_all [fits, aR, aQ]
    have hb : ∃ p, b = .str p := by cases b <;> simp_all [fits, aR, aQ]
    obtain ⟨p, rfl⟩ := ha; obtain ⟨q, rfl⟩ := hb
    simp only [rel] at ra rb; subst ra; subst rb
    have := run_equalIn_string (P := P) w d t ⟨p.toArray⟩ ⟨q.toArray⟩ hu
    simpa [mkV, AV.isA, oF, FN] using this
  . rename_i fs hu
    simp only [Bool.and_eq_true, Bool.not_eq_true'] at h
    obtain ⟨⟨hp, hoff⟩, hall⟩ := h
    obtain ⟨u, ps, rfl, _, _, hsa⟩ := wG hu fa ra
    obtain ⟨u', qs, rfl, _, _, hsb⟩ := wG hu fb rb
    have hfo : P.fieldsOf t = fs := by simp [Program.fieldsOf, hu]
    simp only [AV.isA, mkV, if_true]
    rw [run_equalIn_struct w d t ca.toArray cb.toArray (by rw [hfo]; exact hu) hp, hfo]
    simp only [oF]
    have key : ∀ (fl : List Field) (ps qs : List AV) (pa pb cra crb : List Value) (o : Nat), pa.length = o -> pb.length = o -> ca = pa ++ cra -> cb = pb ++ crb -> kU P o fl = true -> Dm (oo P n) fl = true ->
        dh P x (fl.map (·.type)) ps cra -> dh P x (fl.map (·.type)) qs crb -> (Op.eqFields d ca.toArray cb.toArray fl).run P w = .ok (jy ps qs) w := by
     intro fl
     induction fl with
     | nil =>
      intro ps qs pa pb cra crb o _ _ _ _ _ _ h1 h2
      cases ps with
      | cons => exact h1.elim
      | nil => cases qs with
       | cons => exact h2.elim
       | nil => simp [Op.eqFields, jy]
     | cons f fl ih =>
      intro ps qs pa pb cra crb o ho1 ho2 hca hcb hoff hall h1 h2
      cases ps with
      | nil => exact h1.elim
      | cons p ps => cases qs with
       | nil => exact h2.elim
       | cons q qs =>
        obtain ⟨c1, r1, rfl, m1, m2, m3, m4⟩ := h1
        obtain ⟨c2, r2, rfl, k1, k2, k3, k4⟩ := h2
        simp only [kU, Bool.and_eq_true] at hoff
        have hfo := Nat.eq_of_beq_eq_true hoff.1
        simp only [Dm, Bool.and_eq_true, bne_iff_ne, ne_eq] at hall
        have e1 := uV (w := w) (cs := ca.toArray) (pre := pa) (c := c1) (post := r1) (off := f.offset) (by simp [hca]) (by omega) m3 m1 m2
        have e2 := uV (w := w) (cs := cb.toArray) (pre := pb) (c := c2) (post := r2) (off := f.offset) (by simp [hcb]) (by omega) k3 k1 k2
        have e3 := run_eq n d (by omega) hall.1.2 m3 k3 m1 k1
        simp only [Op.eqFields, hall.1.1, ne_eq, not_false_eq_true, if_true, Sem.run_bind, e1, e2, e3, Result.andThen_ok, jy]
        cases hq : oF p q with
        | false => simp
        | true =>
         simp only [Bool.not_true, Bool.false_eq_true, if_false, Bool.true_and]
         exact ih ps qs (pa ++ c1) (pb ++ c2) r1 r2 (o + P.cellsOf f.type) (by simp [ho1, m2]) (by simp [ho2, k2]) (by simp [hca]) (by simp [hcb]) hoff.2 hall.2 m4 k4
    exact key fs.toList ps qs [] [] ca cb 0 rfl rfl rfl rfl hoff hall hsa hsb
  . rename_i m e hu
    obtain ⟨u, ps, rfl, _, _, hna, hsa⟩ := pF hu fa ra
    obtain ⟨u', qs, rfl, _, _, hnb, hsb⟩ := pF hu fb rb
    simp only [AV.isA, mkV, if_true, oF]
    have hie : ∃ i, P.info? e = some i := by
     cases n with
     | zero => simp [oo] at h
     | succ n =>
      have : ∃ d, P.underlying e = some d := by
       cases hq : P.underlying e with
       | some d => exact ⟨d, rfl⟩
       | none => simp [oo, hq] at h
      exact info_of_underlying this.choose_spec
    obtain ⟨i, hi⟩ := hie
    rw [run_equalIn_array w d ca.toArray cb.toArray hu hi, List.range_eq_range']
    have key : ∀ (j k : Nat) (ps qs : List AV) (pa pb cra crb : List Value), ps.length = k -> qs.length = k -> pa.length = j * P.cellsOf e -> pb.length = j * P.cellsOf e -> ca = pa ++ cra -> cb = pb ++ crb ->
        aX P x e ps cra -> aX P x e qs crb -> (Op.eqItems d e (P.cellsOf e) ca.toArray cb.toArray (List.range' j k)).run P w = .ok (jy ps qs) w := by
     intro j k
     induction k generalizing j with
     | zero =>
      intro ps qs pa pb cra crb h1 h2 _ _ _ _ _ _
      have : ps = [] := List.eq_nil_of_length_eq_zero h1
      have : qs = [] := List.eq_nil_of_length_eq_zero h2
      subst ps; subst qs
      simp [Op.eqItems, jy]
     | succ k ih =>
      intro ps qs pa pb cra crb hp hq0 ho1 ho2 hca hcb h1 h2
      cases ps with
      | nil => simp at hp
      | cons p ps => cases qs with
       | nil => simp at hq0
       | cons q qs =>
        obtain ⟨c1, r1, rfl, m1, m2, m3, m4⟩ := h1
        obtain ⟨c2, r2, rfl, k1, k2, k3, k4⟩ := h2
        have e1 := uV (w := w) (cs := ca.toArray) (pre := pa) (c := c1) (post := r1) (off := j * P.cellsOf e) (by simp [hca]) ho1 m3 m1 m2
        have e2 := uV (w := w) (cs := cb.toArray) (pre := pb) (c := c2) (post := r2) (off := j * P.cellsOf e) (by simp [hcb]) ho2 k3 k1 k2
        have e3 := run_eq n d (by omega) h m3 k3 m1 k1
        simp only [List.range'_succ, Op.eqItems, Sem.run_bind, e1, e2, e3, Result.andThen_ok, jy]
        cases hq : oF p q with
        | false => simp
        | true =>
         simp only [Bool.not_true, Bool.false_eq_true, if_false, Bool.true_and]
         exact ih (j + 1) ps qs (pa ++ c1) (pb ++ c2) r1 r2 (by simpa using hp) (by simpa using hq0) (by simp [ho1, m2, Nat.add_mul]) (by simp [ho2, k2, Nat.add_mul]) (by simp [hca]) (by simp [hcb]) m4 k4
    exact key 0 m ps qs [] [] ca cb hna hnb (by simp) (by simp) rfl rfl hsa hsb
  . exact absurd h (by simp)
end
end Go.AE
namespace Go.AE
open Go.RowKit
section
variable {P : Program} {rows : List (Nat × Root)} {st : Nat -> Nat -> Prop} {w : World}
theorem Q9 {op : BinOp} {b : Bool} {v : AV} (h : neg op b = some (true, v)) : (op = .eql /\ v = .bool b) \/ (op = .neq /\ v = .bool (!b)) := by
 cases op <;> simp [neg] at h
 . exact .inl ⟨rfl, h.symm⟩
 . exact .inr ⟨rfl, h.symm⟩
theorem iy {op : BinOp} {b : Bool} {v : AV} {t : TypeId} {ox oy : Operand} {cx cy : Value} (h : neg op b = some (true, v))
    (hg : (eqGuard op t ox oy cx cy).run P w = .ok () w) (he : (Op.equal t cx cy).run P w = .ok b w)
    (h1 : binOp .eql t cx cy = (do pure (.bool (<- Op.equal t cx cy)))) (h2 : binOp .neq t cx cy = (do pure (.bool (!(<- Op.equal t cx cy))))) :
    fE P rows st w (do eqGuard op t ox oy cx cy; binOp op t cx cy) v := by
 rcases Q9 h with ⟨rfl, rfl⟩ | ⟨rfl, rfl⟩
 . exact .of (c := .bool b) (by simp only [Sem.run_bind, hg, Result.andThen_ok, h1, he, Sem.run_pure]) (eG.2 rfl)
 . exact .of (c := .bool (!b)) (by simp only [Sem.run_bind, hg, Result.andThen_ok, h2, he, Sem.run_pure]) (eG.2 rfl)
theorem vO {v : Value} (h : aK P (X.mk rows st w true) .nilp v) : v = .pointer none := by
 have := iH rfl h; simp only [rel, List.cons.injEq, and_true] at this; exact this
theorem Nz {P : Program} {x : X} {r : Nat} {v : Value} (h : aK P x (.yld r) v) : ∃ b, x.rows[r]? = some (b, .loop) /\ v = .func (.yield b) #[] #[] := by
 obtain ⟨c, rfl, ⟨b, h1, rfl⟩, _⟩ := h
 exact ⟨b, h1, rfl⟩
theorem CQ {v : Value} (h : aK P (X.mk rows st w true) .nilf v) : v = .nilFunc := by
 have := iH rfl h; simp only [rel, List.cons.injEq, and_true] at this; exact this
theorem Af {v : Value} (h : aK P (X.mk rows st w true) .nili v) : v = .nilIface := by
 have := iH rfl h; simp only [rel, List.cons.injEq, and_true] at this; exact this
theorem lY {r : Nat} {p : List Nat} {t : TypeId} {o : Nat} {v : Value} (h : aK P (X.mk rows st w true) (.ptr r p t o) v) : ∃ b root, rows[r]? = some (b, root) /\ eT P root p t o /\ v = .pointer (some ⟨b, o, none⟩) := by
 obtain ⟨b, root, h1, h2, h3⟩ := iH rfl h
 exact ⟨b, root, h1, h2, by simpa using h3⟩
theorem qC {t : TypeId} {u : AV} {v : Value} (h : aK P (X.mk rows st w true) (.rptr t u) v) : ∃ b o c, v = .pointer (some ⟨b, o, none⟩) /\ rel P (X.aH (X.mk rows st w true)) u c /\ c.length = P.cellsOf t /\ fits P t u = true /\ At (X.mk rows st w true) b o c := by
 obtain ⟨b, o, c, h1, h2⟩ := iH rfl h
 exact ⟨b, o, c, by simpa using h1, h2⟩
theorem tT {fn : Fn} {f c : List AV} {v : Value} (h : aK P (X.mk rows st w true) (.func fn f c) v) : ∃ a b, v = .func fn a b /\ bA P (X.mk rows st w true) f a.toList /\ bA P (X.mk rows st w true) c b.toList := by
 obtain ⟨a, b, h1, h2⟩ := iH rfl h
 exact ⟨a, b, by simpa using h1, h2⟩
theorem xw {t : TypeId} {u : AV} {v : Value} (h : aK P (X.mk rows st w true) (.iface t u) v) : ∃ c, v = .iface t c /\ aK P (X.mk rows st w true) u c /\ fits P t u = true := by
 obtain ⟨c, h1, h2, h3, h4⟩ := iH rfl h
 simp only [List.cons.injEq, and_true] at h4
 exact ⟨_, h4, ⟨c, rfl, h1, h3⟩, h2⟩
theorem kD {e : TypeId} {l : List AV} {ex : Bool} {v : Value} (h : aK P (X.mk rows st w true) (.slice e l ex) v) : ∃ base len cap, v = .slice base len cap /\ len = l.length /\ len <= cap /\ (ex = true -> cap = len) /\
      (len = 0 \/ ∃ b o, base = some ⟨b, o, none⟩ /\ dN P (X.aH (X.mk rows st w true)) e b o l) := by
 obtain ⟨base, len, cap, h1, h2⟩ := iH rfl h
 exact ⟨base, len, cap, by simpa using h1, h2⟩
theorem rQ {r : Nat} {p : List Nat} {e : TypeId} {off coff len : Nat} {v : Value} (h : aK P (X.mk rows st w true) (.msl r p e off coff len) v) :
    ∃ b root n o0, rows[r]? = some (b, root) /\ Bt P root p e n o0 /\ off + len <= n /\ coff = o0 + off * P.cellsOf e /\ ∃ base cap, len <= cap /\ v = .slice base len cap /\ (0 < len -> base = some ⟨b, coff, none⟩) := by
 obtain ⟨_, b, root, n, o0, h1, h2, h3, h4, base, cap, h5, h6, h7⟩ := iH rfl h
 exact ⟨b, root, n, o0, h1, h2, h3, h4, base, cap, h5, by simpa using h6, h7⟩
theorem Fq {vs : List AV} {v : Value} (h : aK P (X.mk rows st w true) (.tuple vs) v) : ∃ a, v = .tuple a /\ bA P (X.mk rows st w true) vs a.toList := by
 obtain ⟨a, h1, h2⟩ := iH rfl h
 exact ⟨a, by simpa using h1, h2⟩
theorem mH {t : TypeId} {d : TypeDesc} {cx cy : Value} {b : Bool} (hu : P.underlying t = some d)
    (h : ∀ n, ((do match d, cx, cy with
     | .pointer _, .pointer none, .pointer b => pure b.isNone
     | .pointer _, .pointer _, .pointer none => pure false
     | .func _ _ _, .nilFunc, .nilFunc => pure true
     | .func _ _ _, .nilFunc, .func _ _ _ | .func _ _ _, .func _ _ _, .nilFunc => pure false
     | .interface _, .nilIface, .iface _ _ | .interface _, .iface _ _, .nilIface => pure false
     | _, _, _ => stuck "" : Sem Bool)).run P n = .ok b n) : (Op.equal t cx cy).run P w = .ok b w := by
 have h := h w
 show (Op.equalIn (9999 + 1) t cx cy).run P w = _
 rw [Op.equalIn, Sem.run_bind, run_underlying hu, Result.andThen_ok]
 split at h
 case h_2 =>
  rename_i e p hx _
  cases p with
  | none => exact absurd rfl hx
  | some a => exact h w
 all_goals first | exact h | (simp at h; done)
theorem Z5 {op : BinOp} {t : TypeId} {x y v : AV} {ox oy : Operand} {cx cy : Value} (h : FR P op t x y = some (true, v)) (hx : aK P (X.mk rows st w true) x cx) (hy : aK P (X.mk rows st w true) y cy) :
    fE P rows st w (do eqGuard op t ox oy cx cy; binOp op t cx cy) v := by
 have drop : ∀ {s : Sem Value}, eqGuard op t ox oy cx cy = pure () -> fE P rows st w s v -> fE P rows st w (do eqGuard op t ox oy cx cy; s) v := by
  rintro s he ⟨c, w', h1, h2, h3⟩
  exact ⟨c, w', by simp only [Sem.run_bind, he, Sem.run_pure, Result.andThen_ok, h1], h2, h3⟩
 unfold FR at h
 split at h
 . rename_i k a k' b
   obtain rfl := bL.1 hx
   obtain rfl := bL.1 hy
   refine drop (eqGuard_at_int ..) ?_
   split at h
   . exact Gd (.inl (.inl rfl)) (Option.some.inj h)
   . exact Gd (.inl (.inr rfl)) (Option.some.inj h)
   . split at h
     . rename_i hk; exact Gd (.inr hk) (Option.some.inj h)
     . exact absurd h (by simp)
 . obtain rfl := gV.1 hx
   obtain rfl := gV.1 hy
   exact drop (eqGuard_at_string ..) (V4 h)
 . rename_i a b
   obtain rfl := eG.1 hx
   obtain rfl := eG.1 hy
   split at h
   . rename_i hu
     exact iy h (by rw [eqGuard_at_bool]; rfl) (run_equalIn_bool w 9999 t a b hu) rfl rfl
   . exact absurd h (by simp)
 . rename_i u ps u' qs
   split at h
   . rename_i hc
     simp only [Bool.and_eq_true, Bool.not_eq_true'] at hc
     obtain ⟨⟨⟨⟨h1, h2⟩, h3⟩, h4⟩, h5⟩ := hc
     obtain ⟨ca, rfl, ra⟩ := tY hx
     obtain ⟨cb, rfl, rb⟩ := tY hy
     refine iy h (run_eqGuard_agg w op t ox oy _ _ h5) ?_ rfl rfl
     exact run_eq 20 10000 (by omega) h4 (by simp [fits, h1, h3]) (by simp [fits, h2, h3]) ra rb
   . exact absurd h (by simp)
 . obtain rfl := vO hx
   obtain rfl := vO hy
   split at h
   . rename_i hu
     exact iy h (by rw [eqGuard_at_pointer]; rfl) (mH hu (fun n => rfl)) rfl rfl
   . exact absurd h (by simp)
 . obtain ⟨b, root, _, _, rfl⟩ := lY hx
   obtain rfl := vO hy
   split at h
   . rename_i hu
     exact iy h (by rw [eqGuard_at_pointer]; rfl) (mH hu (fun n => rfl)) rfl rfl
   . exact absurd h (by simp)
 . obtain rfl := vO hx
   obtain ⟨b, root, _, _, rfl⟩ := lY hy
   split at h
   . rename_i hu
     exact iy h (by rw [eqGuard_at_pointer]; rfl) (mH hu (fun n => rfl)) rfl rfl
   . exact absurd h (by simp)
 . obtain ⟨b, o, c, rfl, _⟩ := qC hx
   obtain rfl := vO hy
   split at h
   . rename_i hu
     exact iy h (by rw [eqGuard_at_pointer]; rfl) (mH hu (fun n => rfl)) rfl rfl
   . exact absurd h (by simp)
 . obtain rfl := vO hx
   obtain ⟨b, o, c, rfl, _⟩ := qC hy
   split at h
   . rename_i hu
     exact iy h (by rw [eqGuard_at_pointer]; rfl) (mH hu (fun n => rfl)) rfl rfl
   . exact absurd h (by simp)
 . obtain rfl := CQ hx
   obtain ⟨a, b, rfl, _⟩ := tT hy
   split at h
   . rename_i hu
     exact iy h (by rw [eqGuard_at_nilFunc]; rfl) (mH hu (fun n => rfl)) rfl rfl
   . exact absurd h (by simp)
 . obtain rfl := CQ hy
   obtain ⟨a, b, rfl, _⟩ := tT hx
   split at h
   . rename_i hu
     exact iy h (by rw [eqGuard_at_func]; rfl) (mH hu (fun n => rfl)) rfl rfl
   . exact absurd h (by simp)
 . obtain rfl := CQ hx
   obtain rfl := CQ hy
   split at h
   . rename_i hu
     exact iy h (by rw [eqGuard_at_nilFunc]; rfl) (mH hu (fun n => rfl)) rfl rfl
   . exact absurd h (by simp)
 . obtain ⟨c, rfl, _⟩ := xw hx
   obtain rfl := Af hy
   split at h
   . rename_i hu
     exact iy h (by rw [eqGuard_at_iface]; rfl) (mH hu (fun n => rfl)) rfl rfl
   . exact absurd h (by simp)
 . obtain ⟨c, rfl, _⟩ := xw hy
   obtain rfl := Af hx
   split at h
   . rename_i hu
     exact iy h (by rw [eqGuard_nil_iface]; rfl) (mH hu (fun n => rfl)) rfl rfl
   . exact absurd h (by simp)
 . exact absurd h (by simp)
theorem R8 {op : UnOp} {x v : AV} {cx : Value} (h : Ab op x = some v) (hx : aK P (X.mk rows st w true) x cx) : fE P rows st w (Op.unary op cx) v := by
 unfold Ab at h
 split at h
 . obtain rfl := bL.1 hx
   obtain rfl := Option.some.inj h
   exact .of (by simp [Op.unary, Op.intArith]) (bL.2 rfl)
 . obtain rfl := bL.1 hx
   obtain rfl := Option.some.inj h
   exact .of (by simp only [Op.unary, Op.intBits]; rfl) (bL.2 rfl)
 . obtain rfl := eG.1 hx
   obtain rfl := Option.some.inj h
   exact .of (by simp [Op.unary]) (eG.2 rfl)
 . exact absurd h (by simp)
theorem GX {s : TypeId} {k : Nat} {ft : TypeId} {fo : Nat} (h : Du P s k = some (ft, fo)) : ∃ fs f, P.underlying s = some (.struct fs) /\ fs[k]? = some f /\ f.type = ft /\ f.offset = fo := by
 unfold Du at h
 split at h
 . rename_i fs hu
   split at h
   . rename_i f hf
     simp only [Option.some.injEq, Prod.mk.injEq] at h
     exact ⟨fs, f, hu, hf, h.1, h.2⟩
   . exact absurd h (by simp)
 . exact absurd h (by simp)
theorem Vm {y : Operand} (h : Ia y = true) (a : Act) : a.eval y = .slice none 0 0 := by
 unfold Ia at h
 split at h
 . rfl
 . exact absurd h (by simp)
theorem acJ {y : Operand} (h : FX y = true) (a : Act) : a.eval y = .map none := by
 unfold FX at h
 split at h
 . rfl
 . exact absurd h (by simp)
theorem LA {op : BinOp} {b c : Bool} {v : AV} (h : neg op b = some (c, v)) : c = true := by
 unfold neg at h
 split at h <;> simp_all
theorem K5 (d : Nat) {t e : TypeId} {a : Option Addr} {n c : Nat} (hu : P.underlying t = some (.slice e)) : (Op.equalIn (d + 1) t (.slice a n c) (.slice none 0 0)).run P w = .ok a.isNone w := by
 cases a <;> simp [Op.equalIn, run_underlying hu]
theorem Jy (d : Nat) {t k e : TypeId} {r : Option Nat} (hu : P.underlying t = some (.map k e)) : (Op.equalIn (d + 1) t (.map r) (.map none)).run P w = .ok r.isNone w := by
 cases r <;> simp [Op.equalIn, run_underlying hu]
theorem VQ (d : Nat) {t : TypeId} {d0} (hu : P.underlying t = some (.interface d0)) : (Op.equalIn (d + 1) t .nilIface .nilIface).run P w = .ok true w := by
 simp [Op.equalIn, run_underlying hu]
theorem ac2 {op : BinOp} {t : TypeId} {x v : AV} {y ox : Operand} {cx : Value} {a : Act} (h : Ih P op t x y = some (true, v)) (hx : aK P (X.mk rows st w true) x cx) :
    fE P rows st w (do eqGuard op t ox y cx (a.eval y); binOp op t cx (a.eval y)) v := by
 unfold Ih at h
 split at h
 . rename_i hy
   rw [Vm hy]
   split at h
   . rename_i e e' l ex hu
     split at h
     . rename_i c v' hn
       simp only [Option.some.injEq, Prod.mk.injEq, decide_eq_true_eq] at h
       obtain ⟨hpos, rfl⟩ := h
       obtain rfl := LA hn
       obtain ⟨base, len, cap, rfl, rfl, _, _, h5⟩ := kD hx
       rcases h5 with h5 | ⟨b, o, rfl, h5⟩
       . omega
       . exact iy hn (by rw [eqGuard_at_slice]; rfl) (K5 9999 hu) rfl rfl
     . exact absurd h (by simp)
   . rename_i e r p e' off coff n hu
     split at h
     . rename_i c v' hn
       simp only [Option.some.injEq, Prod.mk.injEq, decide_eq_true_eq] at h
       obtain ⟨hpos, rfl⟩ := h
       obtain rfl := LA hn
       obtain ⟨b, root, n0, o0, m1, m2, m3, m4, base, cap, m5, rfl, m6⟩ := rQ hx
       obtain rfl := m6 hpos
       exact iy hn (by rw [eqGuard_at_slice]; rfl) (K5 9999 hu) rfl rfl
     . exact absurd h (by simp)
   . exact absurd h (by simp)
 . split at h
   . rename_i hy
     rw [acJ hy]
     split at h
     . rename_i k e r hu
       cases r with
       | none =>
        have := iH rfl hx
        simp only [rel, List.cons.injEq, and_true] at this
        subst this
        exact iy h (by rw [eqGuard_at_map]; rfl) (Jy 9999 hu) rfl rfl
       | some r =>
        obtain ⟨b, k', e', _, h2⟩ := iH rfl hx
        simp only [List.cons.injEq, and_true] at h2
        subst h2
        exact iy h (by rw [eqGuard_at_map]; rfl) (Jy 9999 hu) rfl rfl
     . exact absurd h (by simp)
   . split at h
     . rename_i hy
       obtain rfl : y = .const .nilIface := by
        unfold Ob at hy
        split at hy
        . rfl
        . exact absurd hy (by simp)
       split at h
       . rename_i hu
         obtain rfl := Af hx
         exact iy h (by rw [show a.eval (.const .nilIface) = .nilIface from rfl, eqGuard_nil_constR]; rfl) (VQ 9999 hu) rfl rfl
       . exact absurd h (by simp)
     . exact absurd h (by simp)
theorem WA {s : TypeId} {x v : AV} {k : Nat} {cx : Value} (h : HV P s x k = some v) (hx : aK P (X.mk rows st w true) x cx) : fE P rows st w (Instr.field s cx k) v := by
 unfold HV at h
 split at h
 . rename_i t ps ft fo hf
   obtain ⟨fs, f, hu, hk, rfl, rfl⟩ := GX hf
   split at h
   . rename_i hc
     simp only [Bool.and_eq_true] at hc
     obtain rfl := Option.some.inj h
     obtain ⟨c, rfl, hr⟩ := tY hx
     have hr := (lC hr ((dK hc.1).trans hu)).2
     obtain ⟨pre, c1, post, rfl, h2, h3, h4, h5, _⟩ := sG k f.type hr (vE hk)
     have ho := Nat.eq_of_beq_eq_true hc.2
     have e1 := uV (w := w) (cs := (pre ++ c1 ++ post).toArray) (pre := pre) (c := c1) (post := post) (off := f.offset) (by simp) (by rw [h2, <- ho, zN hu]) h5 h3 h4
     exact .of (by simp only [Instr.field, Sem.run_bind, run_underlying hu, Result.andThen_ok, hk, asAgg, Sem.run_pure, e1]) (vP (fun h => absurd h (by simp)) h5 (xC h5 h3))
   . exact absurd h (by simp)
 . exact absurd h (by simp)
end
end Go.AE
namespace Go.AE
open Go.RowKit
section
variable {P : Program} {rows : List (Nat × Root)} {st : Nat -> Nat -> Prop} {w : World}
theorem Ya {s t : TypeId} (h : P.underlying t = P.underlying s) (k : Nat) : iC P t k = iC P s k := by simp only [iC, h]
theorem CO : ∀ {p : List Nat} {t0 t : TypeId} {off k : Nat} {fs : Array Field} {f : Field}, eO P p t0 t off -> P.underlying t = some (.struct fs) -> fs[k]? = some f -> eO P (p ++ [k]) t0 f.type (off + iC P t k)
 | [], t0, t, off, k, fs, f, h, hu, hk => by
  obtain ⟨rfl, rfl⟩ := h
  simp only [List.nil_append]
  unfold eO
  rw [hu]
  exact ⟨f, 0, hk, by simp, rfl, rfl⟩
 | j :: p, t0, t, off, k, fs, f, h, hu, hk => by
  simp only [List.cons_append]
  unfold eO at h ⊢
  split at h
  . obtain ⟨f', off', h1, rfl, h3⟩ := h
    exact ⟨f', off' + iC P t k, h1, by omega, CO h3 hu hk⟩
  . obtain ⟨h1, off', rfl, h3⟩ := h
    exact ⟨h1, off' + iC P t k, by omega, CO h3 hu hk⟩
  . exact h.elim
theorem Az : ∀ {p : List Nat} {t0 t : TypeId} {off i n : Nat} {e : TypeId}, eO P p t0 t off -> P.underlying t = some (.array n e) -> i < n -> eO P (p ++ [i]) t0 e (off + i * P.cellsOf e)
 | [], t0, t, off, i, n, e, h, hu, hi => by
  obtain ⟨rfl, rfl⟩ := h
  simp only [List.nil_append]
  unfold eO
  rw [hu]
  exact ⟨hi, 0, by simp, rfl, rfl⟩
 | j :: p, t0, t, off, i, n, e, h, hu, hi => by
  simp only [List.cons_append]
  unfold eO at h ⊢
  split at h
  . obtain ⟨f', off', h1, rfl, h3⟩ := h
    exact ⟨f', off' + i * P.cellsOf e, h1, by omega, Az h3 hu hi⟩
  . obtain ⟨h1, off', rfl, h3⟩ := h
    exact ⟨h1, off' + i * P.cellsOf e, by omega, Az h3 hu hi⟩
  . exact h.elim
theorem abx {root : Root} {p : List Nat} {t : TypeId} {off k : Nat} {fs : Array Field} {f : Field} (h : eT P root p t off) (hu : P.underlying t = some (.struct fs)) (hk : fs[k]? = some f) : eT P root (p ++ [k]) f.type (off + iC P t k) := by
 cases root with
 | var t0 => exact CO h hu hk
 | arr e n =>
  cases p with
  | nil => exact h.elim
  | cons j p =>
   obtain ⟨h1, off', rfl, h3⟩ := h
   exact ⟨h1, off' + iC P t k, by omega, CO h3 hu hk⟩
 | map => exact h.elim
 | loop => exact h.elim
theorem Pb {root : Root} {p : List Nat} {t : TypeId} {off i n : Nat} {e : TypeId} (h : eT P root p t off) (hu : P.underlying t = some (.array n e)) (hi : i < n) : eT P root (p ++ [i]) e (off + i * P.cellsOf e) := by
 cases root with
 | var t0 => exact Az h hu hi
 | arr e' m =>
  cases p with
  | nil => exact h.elim
  | cons j p =>
   obtain ⟨h1, off', rfl, h3⟩ := h
   exact ⟨h1, off' + i * P.cellsOf e, by omega, Az h3 hu hi⟩
 | map => exact h.elim
 | loop => exact h.elim
theorem XJ {root : Root} {p : List Nat} {e : TypeId} {n o0 i : Nat} (h : Bt P root p e n o0) (hi : i < n) : eT P root (p ++ [i]) e (o0 + i * P.cellsOf e) := by
 rcases h with ⟨rfl, rfl, rfl⟩ | ⟨t, h, hu⟩
 . exact ⟨hi, 0, by simp, rfl, rfl⟩
 . exact Pb h hu hi
theorem P8 {s : TypeId} {k b o : Nat} {fs : Array Field} {f : Field} (hu : P.underlying s = some (.struct fs)) (hk : fs[k]? = some f) (h0 : 0 < P.cellsOf f.type) :
    (Instr.fieldAt s (.pointer (some ⟨b, o, none⟩)) k).run P w = .ok (.pointer (some ⟨b, o + f.offset, none⟩)) w := by
 have hi : ∃ i, P.info? f.type = some i := by
  cases hi : P.info? f.type with
  | some i => exact ⟨i, rfl⟩
  | none => simp [Program.cellsOf, hi] at h0
 obtain ⟨i, hi⟩ := hi
 have hs := run_sizeOf w hi
 have hne : ¬ P.cellsOf f.type = 0 := by omega
 simp only [Instr.fieldAt, Sem.run_bind, run_underlying hu, Result.andThen_ok, hk, Instr.sureAddr, Sem.run_pure, fieldPlace, hs, Sem.run_ite, if_neg hne, Addr.add_lit]
theorem XD {s : TypeId} {x v : AV} {k : Nat} {cx : Value} (h : HY P s x k = some v) (hx : aK P (X.mk rows st w true) x cx) : fE P rows st w (Instr.fieldAt s cx k) v := by
 unfold HY at h
 split at h
 . rename_i r p t off ft fo hf
   obtain ⟨fs, f, hu, hk, rfl, rfl⟩ := GX hf
   split at h
   . rename_i hc
     simp only [Bool.and_eq_true] at hc
     obtain rfl := Option.some.inj h
     obtain ⟨b, root, h1, h2, rfl⟩ := lY hx
     have ho := Nat.eq_of_beq_eq_true hc.1.2
     have hu' := (dK hc.1.1).trans hu
     refine .of (P8 hu hk (Nat.blt_eq.mp hc.2)) (bR ⟨b, root, h1, ?_, rfl⟩ rfl)
     have := abx h2 hu' hk
     rwa [Ya (hu'.trans hu.symm), ho] at this
   . exact absurd h (by simp)
 . rename_i t u ps ft fo hf
   obtain ⟨fs, f, hu, hk, rfl, rfl⟩ := GX hf
   split at h
   . rename_i hc
     simp only [Bool.and_eq_true] at hc
     obtain rfl := Option.some.inj h
     obtain ⟨b, o, c, rfl, hr, hl, hft, hat⟩ := qC hx
     have ho := Nat.eq_of_beq_eq_true hc.1.2
     have hr := (lC hr ((dK hc.1.1.2).trans hu)).2
     obtain ⟨pre, c1, post, rfl, h2, h3, h4, h5, _⟩ := sG k f.type hr (vE hk)
     refine .of (P8 hu hk (Nat.blt_eq.mp hc.2)) (bR ⟨b, o + f.offset, c1, rfl, (pz (fun _ => rfl) 8 _ _ _ h5 h3).2, h4, (pz (fun _ => rfl) 8 _ _ _ h5 h3).1, fun i v hv => ?_⟩ rfl)
     have := hat (pre.length + i) v (by
      rw [List.append_assoc, List.getElem?_append_right (by omega), Nat.add_sub_cancel_left, List.getElem?_append_left (List.getElem?_eq_some_iff.1 hv).1]; exact hv)
     rwa [h2, <- zN hu, ho, <- Nat.add_assoc] at this
   . exact absurd h (by simp)
 . exact absurd h (by simp)
theorem tC {i : Int} {n : Nat} (h : aN i n = true) : 0 <= i /\ i < (n : Int) /\ i.toNat < n := by
 simp only [aN, Bool.and_eq_true, decide_eq_true_eq] at h
 exact ⟨h.1, h.2, by omega⟩
theorem Pd {e : TypeId} {d : TypeDesc} (h : P.underlying e = some d) : (sizeOf e).run P w = .ok (P.cellsOf e) w := by
 obtain ⟨i, hi⟩ := info_of_underlying h
 exact run_sizeOf w hi
theorem XA {t : TypeId} {x v : AV} {k : IntKind} {i : Int} {cx : Value} (h : Gp P t x i = some (true, v)) (hx : aK P (X.mk rows st w true) x cx) (he : ∃ i, P.info? (cB P t) = some i) : fE P rows st w (Instr.indexAt t cx (.int k i)) v := by
 obtain ⟨ti, hti⟩ := he
 unfold Gp at h
 split at h
 . rename_i e e' l ex hu
   split at h
   . rename_i hc
     have hee := Nat.eq_of_beq_eq_true hc
     subst hee
     simp only [Option.some.injEq, Prod.mk.injEq] at h
     obtain ⟨hb, rfl⟩ := h
     obtain ⟨h0, h1, h2⟩ := tC hb
     obtain ⟨base, len, cap, rfl, rfl, _, _, h5⟩ := kD hx
     rcases h5 with h5 | ⟨b, o, rfl, h5⟩
     . omega
     . obtain ⟨c, k1, k2, k3, k4⟩ := Qp i.toNat h5 h2
       have hs : (sizeOf e).run P w = .ok (P.cellsOf e) w := by
        have : cB P t = e := by simp [cB, hu]
        rw [this] at hti
        exact run_sizeOf w hti
       refine .of (c := .pointer (some ⟨b, o + i.toNat * P.cellsOf e, none⟩)) ?_ (bR ⟨b, _, c, rfl, (pz (fun _ => rfl) 8 _ _ _ k3 k1).2, k2, (pz (fun _ => rfl) 8 _ _ _ k3 k1).1, k4⟩ rfl)
       simp only [Instr.indexAt, Sem.run_bind, asIntOf, Sem.run_pure, Result.andThen_ok, run_underlying hu]
       simp [h0, h1, hs, Addr.add_lit]
   . exact absurd h (by simp)
 . rename_i e r p e' off coff len hu
   split at h
   . rename_i hc
     have hee := Nat.eq_of_beq_eq_true hc
     subst hee
     simp only [Option.some.injEq, Prod.mk.injEq] at h
     obtain ⟨hb, rfl⟩ := h
     obtain ⟨h0, h1, h2⟩ := tC hb
     obtain ⟨b, root, n, o0, m1, m2, m3, m4, base, cap, m5, rfl, m6⟩ := rQ hx
     obtain rfl := m6 (by omega)
     have hs : (sizeOf e).run P w = .ok (P.cellsOf e) w := by
      have : cB P t = e := by simp [cB, hu]
      rw [this] at hti
      exact run_sizeOf w hti
     refine .of (c := .pointer (some ⟨b, coff + i.toNat * P.cellsOf e, none⟩)) ?_ (bR ⟨b, root, m1, ?_, rfl⟩ rfl)
     . simp only [Instr.indexAt, Sem.run_bind, asIntOf, Sem.run_pure, Result.andThen_ok, run_underlying hu]
       simp [h0, h1, hs, Addr.add_lit]
     . have := XJ m2 (i := off + i.toNat) (by omega)
       rwa [Nat.add_mul, <- Nat.add_assoc, <- m4] at this
   . exact absurd h (by simp)
 . rename_i n e r p t' off hu
   split at h
   . rename_i hc
     simp only [Option.some.injEq, Prod.mk.injEq] at h
     obtain ⟨hb, rfl⟩ := h
     obtain ⟨h0, h1, h2⟩ := tC hb
     obtain ⟨b, root, m1, m2, rfl⟩ := lY hx
     have hs : (sizeOf e).run P w = .ok (P.cellsOf e) w := by
      have : cB P t = e := by simp [cB, hu]
      rw [this] at hti
      exact run_sizeOf w hti
     refine .of (c := .pointer (some ⟨b, off + i.toNat * P.cellsOf e, none⟩)) ?_ (bR ⟨b, root, m1, Pb m2 ((dK hc).trans hu) h2, rfl⟩ rfl)
     simp only [Instr.indexAt, Sem.run_bind, asIntOf, Sem.run_pure, Result.andThen_ok, run_underlying hu, Instr.sureAddr]
     simp [h0, h1, hs, Addr.add_lit]
   . exact absurd h (by simp)
 . rename_i n e t' u ps hu
   split at h
   . rename_i hc
     simp only [Bool.and_eq_true] at hc
     simp only [Option.some.injEq, Prod.mk.injEq] at h
     obtain ⟨hb, rfl⟩ := h
     obtain ⟨h0, h1, h2⟩ := tC hb
     obtain ⟨b, o, c, rfl, hr, hl, hft, hat⟩ := qC hx
     have hr := (mR hr ((dK hc.2).trans hu)).2
     obtain ⟨pre, c1, post, rfl, k2, k3, k4, k5, _⟩ := jC i.toNat hr.2 (by omega)
     have hs : (sizeOf e).run P w = .ok (P.cellsOf e) w := by
      have : cB P t = e := by simp [cB, hu]
      rw [this] at hti
      exact run_sizeOf w hti
     refine .of (c := .pointer (some ⟨b, o + i.toNat * P.cellsOf e, none⟩)) ?_ (bR ⟨b, _, c1, rfl, (pz (fun _ => rfl) 8 _ _ _ k5 k3).2, k4, (pz (fun _ => rfl) 8 _ _ _ k5 k3).1, fun j v hv => ?_⟩ rfl)
     . simp only [Instr.indexAt, Sem.run_bind, asIntOf, Sem.run_pure, Result.andThen_ok, run_underlying hu, Instr.sureAddr]
       simp [h0, h1, hs, Addr.add_lit]
     . have := hat (pre.length + j) v (by
         rw [List.append_assoc, List.getElem?_append_right (by omega), Nat.add_sub_cancel_left, List.getElem?_append_left (List.getElem?_eq_some_iff.1 hv).1]; exact hv)
       rwa [k2, <- Nat.add_assoc] at this
   . exact absurd h (by simp)
 . exact absurd h (by simp)
end
end Go.AE
namespace Go.AE
open Go.RowKit
section
variable {P : Program} {rows : List (Nat × Root)} {st : Nat -> Nat -> Prop} {w : World}
theorem Zk {s : List UInt8} {i : Nat} (h : i < s.length) : (ByteArray.mk s.toArray)[i]? = some (s.getD i 0) := by
 have hs : i < (ByteArray.mk s.toArray).size := by simpa [ByteArray.size] using h
 rw [getElem?_pos (ByteArray.mk s.toArray) i hs]
 congr 1
 show (ByteArray.mk s.toArray).data[i] = _
 simp [List.getD, h]
theorem Yb {t : TypeId} {x v : AV} {k : IntKind} {i : Int} {cx : Value} (h : EK P t x i = some (true, v)) (hx : aK P (X.mk rows st w true) x cx) (he : ∃ i, P.info? (cB P t) = some i) : fE P rows st w (Instr.index t cx (.int k i)) v := by
 obtain ⟨ti, hti⟩ := he
 unfold EK at h
 split at h
 . rename_i n e u ps hu
   split at h
   . rename_i hc
     simp only [Option.some.injEq, Prod.mk.injEq] at h
     obtain ⟨hb, rfl⟩ := h
     obtain ⟨h0, h1, h2⟩ := tC hb
     obtain ⟨c, rfl, hr⟩ := tY hx
     have hr := (mR hr ((dK hc).trans hu)).2
     obtain ⟨pre, c1, post, rfl, k2, k3, k4, k5, _⟩ := jC i.toNat hr.2 (by omega)
     have hs : (sizeOf e).run P w = .ok (P.cellsOf e) w := by
      have : cB P t = e := by simp [cB, hu]
      rw [this] at hti
      exact run_sizeOf w hti
     have e1 := uV (w := w) (cs := (pre ++ c1 ++ post).toArray) (pre := pre) (c := c1) (post := post) (off := i.toNat * P.cellsOf e) (by simp) k2 k5 k3 k4
     refine .of ?_ (vP (fun h => absurd h (by simp)) k5 (xC k5 k3))
     simp only [Instr.index, Sem.run_bind, asIntOf, Sem.run_pure, Result.andThen_ok, run_underlying hu, Sem.run_ite, if_pos (show 0 <= i /\ i < (n : Int) from ⟨h0, h1⟩), hs, e1]
   . exact absurd h (by simp)
 . rename_i s hu
   simp only [Option.some.injEq, Prod.mk.injEq] at h
   obtain ⟨hb, rfl⟩ := h
   obtain ⟨h0, h1, h2⟩ := tC hb
   obtain rfl := gV.1 hx
   refine .of (c := .int .u8 ((s.getD i.toNat 0).toNat : Int)) ?_ (bL.2 rfl)
   simp only [Instr.index, Sem.run_bind, asIntOf, Sem.run_pure, Result.andThen_ok, run_underlying hu, if_pos h0, Zk h2]
 . exact absurd h (by simp)
theorem qV {t' t : TypeId} {u : AV} (hc : bM P t' t = true) (hft : fits P t' u = true) : fits P t u = true := by
 cases u with
 | agg s ps =>
  have := iM hft
  simp only [fits, Bool.and_eq_true, <- OA hc, this.2, and_true]
  simp only [bM, Bool.and_eq_true] at this hc ⊢
  exact ⟨by rw [Nat.eq_of_beq_eq_true this.1.1, Nat.eq_of_beq_eq_true hc.1]; simp, by rw [Nat.eq_of_beq_eq_true this.1.2, Nat.eq_of_beq_eq_true hc.2]; simp⟩
 | _ => simp only [fits, aR, dK hc, OA hc] at hft ⊢; exact hft
theorem Bo {x : X} {t : TypeId} {b o : Nat} {v : AV} {c : List Value} (hf : fits P t v = true) (hr : rel P x v c) (hl : c.length = P.cellsOf t) (hc : ∀ i u, c[i]? = some u -> w.cell? ⟨b, o + i, none⟩ = some u) :
    (loadVar t ⟨b, o, none⟩).run P w = .ok (mkV v.isA c) w := by
 obtain ⟨d, hu⟩ := rz hf
 have hA := ng hf
 have hagg : (isAgg t).run P w = .ok (aQ P t) w := by
  unfold isAgg aQ
  rw [Sem.run_bind, run_underlying hu w, hu]
  cases d <;> rfl
 unfold loadVar
 rw [Sem.run_bind, hagg, Result.andThen_ok, hA]
 cases hA' : aQ P t with
 | true =>
  have := run_loadCells_list (P := P) w ⟨b, o, none⟩ c (fun j u hu => by rw [Addr.add_lit]; exact hc j u hu)
  simp only [if_true, Sem.run_bind, Pd hu, Result.andThen_ok, <- hl, this, Sem.run_pure, mkV]
 | false =>
  have h1 := r9 hf hr (by rw [hA, hA'])
  match c, h1 with
  | [u], _ =>
   have := hc 0 u (by simp)
   simp only [Nat.add_zero] at this
   simp [run_load, this, mkV]
def GY (P : Program) (rows : List (Nat × Root)) (st : Nat -> Nat -> Prop) (w : World) (M : Mm) : Prop :=
 ∀ (r b : Nat) (root : Root), rows[r]? = some (b, root) -> gH P ⟨rows, st, w, true⟩ b root (M.rows.getD r (.arr 0 []))
theorem oG {x : X} {b : Nat} {root : Root} {row : Row} {p : List Nat} {t : TypeId} {off : Nat} (h : gH P x b root row) (hp : eT P root p t off) :
    ∃ cs ty, x.w.heap[b]? = some (.cells cs ty (0, 0)) /\ iw P x root row cs.toList := by
 cases row with
 | map k e es =>
  obtain ⟨rfl, _⟩ := h
  exact hp.elim
 | loop f i tm st pd =>
  obtain ⟨rfl, _⟩ := h
  exact hp.elim
 | var t v => exact h
 | arr e l => exact h
 | bg e l => exact h
theorem jv {b o : Nat} {cs : Array Value} {ty : TypeId} {fr : Nat × Nat} (h : w.heap[b]? = some (.cells cs ty fr)) : w.cell? ⟨b, o, none⟩ = cs[o]? := by simp [World.cell?, h]
theorem QS {t : TypeId} {M : Mm} {x v : AV} {cx : Value} (h : jq P M t x = some v) (hx : aK P (X.mk rows st w true) x cx) (hM : GY P rows st w M) : fE P rows st w (Instr.loadAt t cx) v := by
 unfold jq at h
 split at h
 . rename_i t' u
   split at h
   . rename_i hc
     obtain rfl := Option.some.inj h
     obtain ⟨b, o, c, rfl, hr, hl, hft, hat⟩ := qC hx
     have hf := qV hc hft
     have := Bo (w := w) (b := b) (o := o) hf hr (by rw [hl, gZ hc]) (fun i u hu => (hat i u hu).2)
     exact .of (by simp only [Instr.loadAt, Sem.run_bind, Instr.sureAddr, Sem.run_pure, Result.andThen_ok, this]) (xC hf (kY (Ca _) _ _ hr))
   . exact absurd h (by simp)
 . rename_i r p t' off
   split at h
   . rename_i hc
     obtain rfl := Option.some.inj h
     obtain ⟨b, root, h1, h2, rfl⟩ := lY hx
     obtain ⟨cs, ty, k1, k2⟩ := oG (hM r b root h1) h2
     obtain ⟨pre, c, post, e1, e2, e3, e4, e5, _⟩ := lV k2 h2
     generalize hu : (M.rows.getD r (.arr 0 [])).get p = u at *
     have hf := qV hc e5
     have := Bo (w := w) (b := b) (o := off) hf e3 (by rw [e4, gZ hc]) (fun i u hu => by
      rw [jv k1, <- Array.getElem?_toList, e1, List.append_assoc, <- e2, List.getElem?_append_right (by omega), Nat.add_sub_cancel_left, List.getElem?_append_left (List.getElem?_eq_some_iff.1 hu).1]
      exact hu)
     exact .of (by simp only [Instr.loadAt, Sem.run_bind, Instr.sureAddr, Sem.run_pure, Result.andThen_ok, this]) (vP (fun h => absurd h (by simp)) hf (xC hf e3))
   . exact absurd h (by simp)
 . exact absurd h (by simp)
end
end Go.AE
namespace Go.AE
open Go.RowKit
section
variable {P : Program} {rows : List (Nat × Root)} {st : Nat -> Nat -> Prop} {w : World}
def o7 (P : Program) (x : X) : Option AV -> Option Value -> Prop
 | none, none => True
 | some a, some v => aK P x a v
 | _, _ => False
theorem run_sliceBound {k : IntKind} {i : Int} {y : Nat} {code : BoundsCode} (h0 : 0 <= i) (h1 : i <= (y : Int)) : (Instr.sliceBound (.int k i) y code).run P w = .ok i.toNat w := by
 simp [Instr.sliceBound, asIntOf, h0, h1]
theorem uE {isS : Bool} {len cap a b : Nat} {lo hi : Option AV} {iB chi : Option Value} (h : bnd lo hi len = some (true, a, b)) (h1 : o7 P (X.mk rows st w true) lo iB) (h2 : o7 P (X.mk rows st w true) hi chi) (hc : len <= cap) :
    (Instr.sliceBounds isS len cap iB chi none).run P w = .ok (a, b, cap) w /\ a <= b /\ b <= len /\ (hi = none -> b = len) := by
 unfold bnd at h
 split at h
 . simp only [Option.some.injEq, Prod.mk.injEq, true_and] at h
   obtain ⟨rfl, rfl⟩ := h
   cases iB with
   | some v => exact h1.elim
   | none => cases chi with
    | some v => exact h2.elim
    | none => exact ⟨by simp [Instr.sliceBounds], by omega, by omega, fun _ => rfl⟩
 . rename_i k i
   simp only [Option.some.injEq, Prod.mk.injEq, Bool.and_eq_true, decide_eq_true_eq] at h
   obtain ⟨⟨g0, g1⟩, rfl, rfl⟩ := h
   cases iB with
   | none => exact h1.elim
   | some v => cases chi with
    | some v => exact h2.elim
    | none =>
     obtain rfl := bL.1 h1
     exact ⟨by simp [Instr.sliceBounds, run_sliceBound g0 g1], by omega, by omega, fun _ => rfl⟩
 . rename_i k i
   simp only [Option.some.injEq, Prod.mk.injEq, Bool.and_eq_true, decide_eq_true_eq] at h
   obtain ⟨⟨g0, g1⟩, rfl, rfl⟩ := h
   cases iB with
   | some v => exact h1.elim
   | none => cases chi with
    | none => exact h2.elim
    | some v =>
     obtain rfl := bL.1 h2
     have g2 : i <= (cap : Int) := by omega
     exact ⟨by simp [Instr.sliceBounds, run_sliceBound g0 g2], by omega, by omega, fun e => by simp at e⟩
 . rename_i k i k' j
   simp only [Option.some.injEq, Prod.mk.injEq, Bool.and_eq_true, decide_eq_true_eq] at h
   obtain ⟨⟨⟨g0, g1⟩, g2⟩, rfl, rfl⟩ := h
   cases iB with
   | none => exact h1.elim
   | some v => cases chi with
    | none => exact h2.elim
    | some u =>
     obtain rfl := bL.1 h1
     obtain rfl := bL.1 h2
     have g3 : j <= (cap : Int) := by omega
     have g4 : i <= ((j.toNat : Nat) : Int) := by omega
     exact ⟨by simp [Instr.sliceBounds, run_sliceBound (show 0 <= j by omega) g3, run_sliceBound g0 g4], by omega, by omega, fun e => by simp at e⟩
 . exact absurd h (by simp)
theorem Rh {isS : Bool} {len cap a b : Nat} {lo : Option AV} {k k' : IntKind} {j c : Int} {iB : Option Value} (h : bnd lo (some (.int k j)) len = some (true, a, b)) (he : j = c) (h1 : o7 P (X.mk rows st w true) lo iB) (hc : len <= cap) :
    (Instr.sliceBounds isS len cap iB (some (.int k j)) (some (.int k' c))).run P w = .ok (a, b, b) w /\ a <= b /\ b <= len := by
 subst he
 unfold bnd at h
 split at h
 . rename_i h3 h4; simp at h4
 . rename_i h3 h4; simp at h4
 . rename_i k2 i h4
   simp only [Option.some.injEq, AV.int.injEq] at h4
   obtain ⟨rfl, rfl⟩ := h4
   simp only [Option.some.injEq, Prod.mk.injEq, Bool.and_eq_true, decide_eq_true_eq] at h
   obtain ⟨⟨g0, g1⟩, rfl, rfl⟩ := h
   cases iB with
   | some v => exact h1.elim
   | none =>
    have g2 : j <= (cap : Int) := by omega
    have g3 : j <= ((j.toNat : Nat) : Int) := by omega
    exact ⟨by simp [Instr.sliceBounds, run_sliceBound g0 g2, run_sliceBound g0 g3], by omega, by omega⟩
 . rename_i k1 i k2 i' h4
   simp only [Option.some.injEq, AV.int.injEq] at h4
   obtain ⟨rfl, rfl⟩ := h4
   simp only [Option.some.injEq, Prod.mk.injEq, Bool.and_eq_true, decide_eq_true_eq] at h
   obtain ⟨⟨⟨g0, g1⟩, g2⟩, rfl, rfl⟩ := h
   cases iB with
   | none => exact h1.elim
   | some v =>
    obtain rfl := bL.1 h1
    have q0 : 0 <= j := by omega
    have q1 : j <= (cap : Int) := by omega
    have q2 : j <= ((j.toNat : Nat) : Int) := by omega
    have q3 : i <= ((j.toNat : Nat) : Int) := by omega
    exact ⟨by simp [Instr.sliceBounds, run_sliceBound q0 q1, run_sliceBound q0 q2, run_sliceBound g0 q3], by omega, by omega⟩
 . exact absurd h (by simp)
theorem BM {e : TypeId} {b o : Nat} {l : List AV} {x : X} (h : dN P x e b o l) (i j : Nat) : dN P x e b (o + i * P.cellsOf e) (sub l i j) := Ot i (Mc j h)
theorem Cc {α : Type} {l : List α} {i j : Nat} (h : j <= l.length) : (sub l i j).length = j - i := by simp [sub]; omega
theorem abP (s : List UInt8) (i j : Nat) : (ByteArray.mk s.toArray).extract i j = ByteArray.mk (sub s i j).toArray := by
 apply ByteArray.ext
 apply Array.ext'
 simp [sub, List.extract]
 rw [List.drop_take]
theorem VY {t : TypeId} {x v : AV} {lo hi mx : Option AV} {cx : Value} {iB chi cmx : Option Value} (h : A9 P t x lo hi mx = some (true, v)) (hx : aK P (X.mk rows st w true) x cx)
    (h1 : o7 P (X.mk rows st w true) lo iB) (h2 : o7 P (X.mk rows st w true) hi chi) (h3 : o7 P (X.mk rows st w true) mx cmx) (he : ∃ i, P.info? (cB P t) = some i) : fE P rows st w (Instr.sliceAt t cx iB chi cmx) v := by
 obtain ⟨ti, hti⟩ := he
 unfold A9 at h
 split at h
 . rename_i s hu
   cases cmx with
   | some v => exact h3.elim
   | none =>
    split at h
    . rename_i ok i j hb
      simp only [Option.some.injEq, Prod.mk.injEq] at h
      obtain ⟨rfl, rfl⟩ := h
      obtain rfl := gV.1 hx
      have hsz : (ByteArray.mk s.toArray).size = s.length := by simp [ByteArray.size]
      obtain ⟨g1, g2, g3, _⟩ := uE (rows := rows) (st := st) (w := w) (isS := false) hb h1 h2 (Nat.le_refl _)
      refine .of (c := .string ⟨(sub s i j).toArray⟩) ?_ (gV.2 rfl)
      rw [run_sliceAt_string w t _ _ _ _ hu]
      simp [Instr.slice, run_underlying hu, hsz, g1, abP]
    . exact absurd h (by simp)
 . rename_i e e' l ex hu
   split at h
   . rename_i hc
     have hee := Nat.eq_of_beq_eq_true hc
     subst hee
     cases cmx with
     | some v => exact h3.elim
     | none =>
      split at h
      . rename_i ok i j hb
        simp only [Option.some.injEq, Prod.mk.injEq] at h
        obtain ⟨rfl, rfl⟩ := h
        obtain ⟨base, len, cap, rfl, rfl, q1, q2, q3⟩ := kD hx
        obtain ⟨g1, g2, g3, g4⟩ := uE (rows := rows) (st := st) (w := w) (isS := true) hb h1 h2 q1
        have hs : (sizeOf e).run P w = .ok (P.cellsOf e) w := by
         have : cB P t = e := by simp [cB, hu]
         rw [this] at hti
         exact run_sizeOf w hti
        refine .of (c := .slice (if cap = i then base else base.map (·.add (i * P.cellsOf e))) (j - i) (cap - i)) ?_ (bR ⟨_, _, _, rfl, (Cc g3).symm, by omega, ?_, ?_⟩ rfl)
        . simp [Instr.sliceAt, Instr.slice, run_underlying hu, g1, hs]
        . intro hx'
          simp only [Bool.and_eq_true, Option.isNone_iff_eq_none] at hx'
          have := q2 hx'.1
          have := g4 hx'.2
          omega
        . rcases q3 with q3 | ⟨b, o, rfl, q3⟩
          . exact .inl (by omega)
          . by_cases hci : cap = i
            . exact .inl (by omega)
            . refine .inr ⟨b, o + i * P.cellsOf e, ?_, BM q3 i j⟩
              simp [hci, Addr.add_lit]
      . exact absurd h (by simp)
   . exact absurd h (by simp)
 . rename_i e e' l ex k c hu
   split at h
   . rename_i hc
     have hee := Nat.eq_of_beq_eq_true hc
     subst hee
     split at h
     . rename_i k' j
       split at h
       . rename_i ok i j' hb
         simp only [Option.some.injEq, Prod.mk.injEq, Bool.and_eq_true, decide_eq_true_eq] at h
         obtain ⟨⟨rfl, hjc⟩, rfl⟩ := h
         cases cmx with
         | none => exact h3.elim
         | some cm =>
          obtain rfl := bL.1 h3
          cases chi with
          | none => exact h2.elim
          | some ch =>
           obtain rfl := bL.1 h2
           obtain ⟨base, len, cap, rfl, rfl, q1, q2, q3⟩ := kD hx
           obtain ⟨g1, g2, g3⟩ := Rh (rows := rows) (st := st) (w := w) (isS := true) (k' := k) hb hjc h1 q1
           have hs : (sizeOf e).run P w = .ok (P.cellsOf e) w := by
            have : cB P t = e := by simp [cB, hu]
            rw [this] at hti
            exact run_sizeOf w hti
           refine .of (c := .slice (if j' = i then base else base.map (·.add (i * P.cellsOf e))) (j' - i) (j' - i)) ?_ (bR ⟨_, _, _, rfl, (Cc g3).symm, by omega, fun _ => rfl, ?_⟩ rfl)
           . simp [Instr.sliceAt, Instr.slice, run_underlying hu, g1, hs]
           . rcases q3 with q3 | ⟨b, o, rfl, q3⟩
             . exact .inl (by omega)
             . by_cases hci : j' = i
               . exact .inl (by omega)
               . refine .inr ⟨b, o + i * P.cellsOf e, ?_, BM q3 i j'⟩
                 simp [hci, Addr.add_lit]
       . exact absurd h (by simp)
     . exact absurd h (by simp)
   . exact absurd h (by simp)
 . rename_i e r p e' off coff len hu
   split at h
   . rename_i hc
     have hee := Nat.eq_of_beq_eq_true hc
     subst hee
     cases cmx with
     | some v => exact h3.elim
     | none =>
      split at h
      . rename_i ok i j hb
        simp only [Option.some.injEq, Prod.mk.injEq] at h
        obtain ⟨rfl, rfl⟩ := h
        obtain ⟨b, root, n, o0, m1, m2, m3, m4, base, cap, m5, rfl, m6⟩ := rQ hx
        obtain ⟨g1, g2, g3, g4⟩ := uE (rows := rows) (st := st) (w := w) (isS := true) hb h1 h2 m5
        have hs : (sizeOf e).run P w = .ok (P.cellsOf e) w := by
         have : cB P t = e := by simp [cB, hu]
         rw [this] at hti
         exact run_sizeOf w hti
        refine .of (c := .slice (if cap = i then base else base.map (·.add (i * P.cellsOf e))) (j - i) (cap - i)) ?_
         (bR ⟨rfl, b, root, n, o0, m1, m2, by omega, by rw [m4, Nat.add_mul, Nat.add_assoc], _, _, ?_, rfl, ?_⟩ rfl)
        . simp [Instr.sliceAt, Instr.slice, run_underlying hu, g1, hs]
        . omega
        . intro hpos
          have : ¬ cap = i := by omega
          rw [m6 (by omega)]
          simp [this, Addr.add_lit]
      . exact absurd h (by simp)
   . exact absurd h (by simp)
 . rename_i n e r p t' off hu
   split at h
   . rename_i hc
     cases cmx with
     | some v => exact h3.elim
     | none =>
      split at h
      . rename_i ok i j hb
        simp only [Option.some.injEq, Prod.mk.injEq] at h
        obtain ⟨rfl, rfl⟩ := h
        obtain ⟨b, root, m1, m2, rfl⟩ := lY hx
        obtain ⟨g1, g2, g3, g4⟩ := uE (rows := rows) (st := st) (w := w) (isS := false) hb h1 h2 (Nat.le_refl _)
        have hs : (sizeOf e).run P w = .ok (P.cellsOf e) w := by
         have : cB P t = e := by simp [cB, hu]
         rw [this] at hti
         exact run_sizeOf w hti
        refine .of (c := .slice (some (if n = i then ⟨b, off, none⟩ else (⟨b, off, none⟩ : Addr).add (i * P.cellsOf e))) (j - i) (n - i)) ?_
         (bR ⟨rfl, b, root, n, off, m1, .inr ⟨t', m2, (dK hc).trans hu⟩, by omega, rfl, _, _, ?_, rfl, ?_⟩ rfl)
        . simp [Instr.sliceAt, run_underlying hu, Instr.sureAddr, g1, hs]
        . omega
        . intro hpos
          have : ¬ n = i := by omega
          simp [this, Addr.add_lit]
      . exact absurd h (by simp)
   . exact absurd h (by simp)
 . rename_i n e t' u ps hu
   split at h
   . rename_i hc
     simp only [Bool.and_eq_true] at hc
     cases cmx with
     | some v => exact h3.elim
     | none =>
      split at h
      . rename_i ok i j hb
        simp only [Option.some.injEq, Prod.mk.injEq] at h
        obtain ⟨rfl, rfl⟩ := h
        obtain ⟨b, o, c, rfl, hr, hl, hft, hat⟩ := qC hx
        have hr := (mR hr ((dK hc.2).trans hu)).2
        obtain ⟨g1, g2, g3, g4⟩ := uE (rows := rows) (st := st) (w := w) (isS := false) hb h1 h2 (Nat.le_refl _)
        have hs : (sizeOf e).run P w = .ok (P.cellsOf e) w := by
         have : cB P t = e := by simp [cB, hu]
         rw [this] at hti
         exact run_sizeOf w hti
        refine .of (c := .slice (some (if n = i then ⟨b, o, none⟩ else (⟨b, o, none⟩ : Addr).add (i * P.cellsOf e))) (j - i) (n - i)) ?_
         (bR ⟨_, _, _, rfl, (Cc (by omega)).symm, by omega, fun e => by simp at e, ?_⟩ rfl)
        . simp [Instr.sliceAt, run_underlying hu, Instr.sureAddr, g1, hs]
        . by_cases hci : n = i
          . exact .inl (by omega)
          . exact .inr ⟨b, o + i * P.cellsOf e, by simp [hci, Addr.add_lit], BM (nL hr.2 hat) i j⟩
      . exact absurd h (by simp)
   . exact absurd h (by simp)
 . exact absurd h (by simp)
end
end Go.AE
namespace Go.AE
open Go.RowKit Go.Lib
section
variable {P : Program} {rows : List (Nat × Root)} {st : Nat -> Nat -> Prop} {w : World}
theorem Ui {t ty : TypeId} {M : Mm} {x v : AV} {cx : Value} (h : zU P t M x = some v) (hx : aK P (X.mk rows st w true) x cx) : fE P rows st w (Builtin.len_ #[t] ty #[cx]) v := by
 unfold zU at h
 split at h
 . split at h
   . rename_i hu
     obtain rfl := Option.some.inj h
     obtain rfl := gV.1 hx
     exact .of (c := .int .i64 _) (by simp [Builtin.len_, run_underlying hu]; rfl) (bL.2 (by simp [ByteArray.size]))
   . exact absurd h (by simp)
 . split at h
   . rename_i hu
     obtain rfl := Option.some.inj h
     obtain ⟨base, len, cap, rfl, rfl, _⟩ := kD hx
     exact .of (by simp [Builtin.len_, run_underlying hu, goInt]) (bL.2 rfl)
   . exact absurd h (by simp)
 . split at h
   . rename_i hu
     obtain rfl := Option.some.inj h
     obtain ⟨b, root, n, o0, m1, m2, m3, m4, base, cap, m5, rfl, m6⟩ := rQ hx
     exact .of (by simp [Builtin.len_, run_underlying hu, goInt]) (bL.2 rfl)
   . exact absurd h (by simp)
 . split at h
   . rename_i hu
     obtain rfl := Option.some.inj h
     obtain ⟨c, rfl, _⟩ := tY hx
     exact .of (by simp [Builtin.len_, run_underlying hu, goInt]) (bL.2 rfl)
   . exact absurd h (by simp)
 . exact absurd h (by simp)
theorem Oe : ∀ {r : List AV} {x v : AV} {cx : Value} {cs : List Value}, sJ x r = some v -> aK P (X.mk rows st w true) x cx -> bA P (X.mk rows st w true) r cs -> ∃ c, (cs.foldlM Builtin.min2 cx).run P w = .ok c w /\ aK P (X.mk rows st w true) v c
 | [], x, v, cx, cs, h, hx, hr => by
  simp only [sJ, Option.some.injEq] at h
  subst h
  simp only [bA] at hr
  subst hr
  exact ⟨cx, by simp, hx⟩
 | y :: r, x, v, cx, cs, h, hx, hr => by
  obtain ⟨c, rs, rfl, h1, h2, h3⟩ := hr
  have hy : aK P (X.mk rows st w true) y (mkV y.isA c) := ⟨c, rfl, h1, h2⟩
  cases x <;> first | (exfalso; simp [sJ] at h; done) | skip
  cases y <;> first | (exfalso; simp [sJ] at h; done) | skip
  rename_i k a k' b
  simp only [sJ] at h
  split at h
  . rename_i hk
    subst hk
    obtain rfl := bL.1 hx
    rw [bL.1 hy]
    obtain ⟨c', e1, e2⟩ := Oe h (bL.2 rfl) h3
    exact ⟨c', by simpa [Builtin.min2] using e1, e2⟩
  . exact absurd h (by simp)
theorem Oh : ∀ {r : List AV} {x v : AV} {cx : Value} {cs : List Value}, qP x r = some v -> aK P (X.mk rows st w true) x cx -> bA P (X.mk rows st w true) r cs -> ∃ c, (cs.foldlM Builtin.max2 cx).run P w = .ok c w /\ aK P (X.mk rows st w true) v c
 | [], x, v, cx, cs, h, hx, hr => by
  simp only [qP, Option.some.injEq] at h
  subst h
  simp only [bA] at hr
  subst hr
  exact ⟨cx, by simp, hx⟩
 | y :: r, x, v, cx, cs, h, hx, hr => by
  obtain ⟨c, rs, rfl, h1, h2, h3⟩ := hr
  have hy : aK P (X.mk rows st w true) y (mkV y.isA c) := ⟨c, rfl, h1, h2⟩
  cases x <;> first | (exfalso; simp [qP] at h; done) | skip
  cases y <;> first | (exfalso; simp [qP] at h; done) | skip
  rename_i k a k' b
  simp only [qP] at h
  split at h
  . rename_i hk
    subst hk
    obtain rfl := bL.1 hx
    rw [bL.1 hy]
    obtain ⟨c', e1, e2⟩ := Oh h (bL.2 rfl) h3
    exact ⟨c', by simpa [Builtin.max2] using e1, e2⟩
  . exact absurd h (by simp)
theorem xK {e : TypeId} (h : nT P e = true) : P.underlying e = some (.int .u8) := by
 unfold nT at h
 split at h
 . assumption
 . simp at h
theorem Qr {x : X} {e : TypeId} {v : AV} {c : List Value} (he : nT P e = true) (hf : fits P e v = true) (hr : rel P x v c) : ∃ n : Int, v = .int .u8 n /\ c = [.int .u8 n] := by
 have hu := xK he
 cases v <;> simp_all [fits, aR, aQ]
 simpa [rel] using hr
theorem HZ {x : X} {e : TypeId} (he : nT P e = true) : ∀ {l : List AV} {cs : List Value}, aX P x e l cs -> ∃ xs : List Int, l = xs.map (AV.int .u8) /\ cs = xs.map (Value.int .u8)
 | [], cs, h => by simp only [aX] at h; exact ⟨[], rfl, h⟩
 | v :: vs, cs, h => by
  obtain ⟨c, r, rfl, h1, h2, h3, h4⟩ := h
  obtain ⟨n, rfl, rfl⟩ := Qr he h3 h1
  obtain ⟨xs, rfl, rfl⟩ := HZ he h4
  exact ⟨n :: xs, rfl, rfl⟩
theorem Nt (xs : List Int) : (xs.map (AV.int .u8)).map byteOf = xs.map fun n => UInt8.ofNat n.toNat := by simp [byteOf, Function.comp_def]
theorem QF {e : TypeId} (he : nT P e = true) (h1 : P.cellsOf e = 1) (s : List UInt8) {x : X} : aX P x e (s.map CU) (s.map fun b => Value.int .u8 (b.toNat : Int)) := by
 have hu := xK he
 induction s with
 | nil => rfl
 | cons b s ih => exact ⟨[.int .u8 b.toNat], _, rfl, rfl, by simp [h1], by simp [CU, fits, aR, aQ, hu], ih⟩
theorem RU {src dst : TypeId} {M : Mm} {x v : AV} {cx : Value} (h : sW P src dst M x = some v) (hs : (P.underlying src).isSome = true) (hx : aK P (X.mk rows st w true) x cx) (hM : GY P rows st w M) (hst : ∀ b o, w.heap.size <= b -> st b o) :
    fE P rows st w (convert src dst cx) v := by
 obtain ⟨ds, hds⟩ := Option.isSome_iff_exists.mp hs
 unfold sW at h
 split at h
 . rename_i k k' n hu
   obtain rfl := Option.some.inj h
   obtain rfl := bL.1 hx
   exact .of (by simp [convert, run_underlying hds, run_underlying hu, Conv.intToInt]) (bL.2 rfl)
 . rename_i s hu
   obtain rfl := Option.some.inj h
   obtain rfl := gV.1 hx
   exact .of (by simp [convert, run_underlying hds, run_underlying hu]) (gV.2 rfl)
 . rename_i e' l ex hu
   split at h
   . rename_i e hse
     split at h
     . rename_i hc
       simp only [Bool.and_eq_true] at hc
       have hee := Nat.eq_of_beq_eq_true hc.2
       subst hee
       obtain rfl := Option.some.inj h
       obtain ⟨base, len, cap, rfl, rfl, q1, q2, q3⟩ := kD hx
       have hu8 := xK hc.1
       rcases q3 with q3 | ⟨b, o, rfl, q3⟩
       . have : l = [] := List.eq_nil_of_length_eq_zero q3
         subst this
         refine .of (c := .string ⟨#[]⟩) ?_ (gV.2 rfl)
         cases base with
         | none => exact run_convert_bytes_nil w src e hse hu8 0 cap dst hu
         | some ad =>
          rw [run_convert_bytes_string w src dst e _ _ _ hse hu8 hu]
          simp [Conv.bytesToString, loadCells, loadCellsFrom]
          rfl
       . obtain ⟨cs, k1, k2⟩ := Ce q3
         obtain ⟨xs, rfl, rfl⟩ := HZ hc.1 k1
         refine .of (run_convert_bytes_arg w src e hse hu8 b o _ cap xs (by simp) (fun i hi => ?_) dst hu) ?_
         . simp only [List.length_map] at hi
           exact (k2 i _ (by rw [List.getElem?_map, List.getElem?_eq_getElem hi]; rfl)).2.trans (by simp [List.getD, hi])
         . rw [gV, Nt]; rfl
     . exact absurd h (by simp)
   . exact absurd h (by simp)
 . rename_i r p e' off coff len hu
   split at h
   . rename_i e hse
     split at h
     . rename_i hc
       simp only [Bool.and_eq_true] at hc
       have hee := Nat.eq_of_beq_eq_true hc.2
       subst hee
       obtain rfl := Option.some.inj h
       obtain ⟨b, root, n, o0, m1, m2, m3, m4, base, cap, m5, rfl, m6⟩ := rQ hx
       have hu8 := xK hc.1
       by_cases hpos : 0 < len
       . obtain rfl := m6 hpos
         have hrow := hM r b root m1
         have hcells : ∃ cs ty, w.heap[b]? = some (.cells cs ty (0, 0)) /\ iw P (X.mk rows st w true) root (M.rows.getD r (.arr 0 [])) cs.toList := by
          rcases m2 with ⟨rfl, rfl, rfl⟩ | ⟨t, m2, _⟩
          . cases hr : M.rows.getD r (.arr 0 []) with
            | map k e es => rw [hr] at hrow; exact absurd hrow.1 (by simp)
            | loop f i tm st pd => rw [hr] at hrow; exact absurd hrow.1 (by simp)
            | var t v => rw [hr] at hrow; exact hrow
            | arr e l => rw [hr] at hrow; exact hrow
            | bg e l => rw [hr] at hrow; exact hrow
          . exact oG hrow m2
         obtain ⟨cs, ty, k1, k2⟩ := hcells
         obtain ⟨hl, pre, c, post, e1, e2, e3, _⟩ := Dj k2 m2
         have e4 := tV off (qp (off + len) e3)
         obtain ⟨xs, hxs, hcs⟩ := HZ hc.1 e4
         have hlen : xs.length = len := by
          have := congrArg List.length hxs
          simp only [List.length_drop, List.length_take, List.length_map, hl] at this
          omega
         have h1 : P.cellsOf e = 1 := by
          have h2 : ((M.rows.getD r (.arr 0 [])).elems p) ≠ [] := by
           intro h0
           rw [h0] at hl
           simp at hl; omega
          match hq : (M.rows.getD r (.arr 0 [])).elems p, h2 with
          | u :: us, _ =>
           rw [hq] at e3
           obtain ⟨c1, r1, _, g1, g2, g3, _⟩ := e3
           obtain ⟨n, rfl, rfl⟩ := Qr hc.1 g3 g1
           simpa using g2.symm
         refine .of (run_convert_bytes_arg w src e hse hu8 b coff len cap xs hlen (fun i hi => ?_) dst hu) ?_
         . rw [jv k1, <- Array.getElem?_toList, e1]
           have : ((c.take ((off + len) * P.cellsOf e)).drop (off * P.cellsOf e))[i]? = some (.int .u8 (xs.getD i 0)) := by
            rw [hcs, List.getElem?_map, List.getElem?_eq_getElem (by omega)]
            simp [List.getD, show i < xs.length by omega]
           rw [List.getElem?_drop, List.getElem?_take] at this
           split at this
           . rw [List.append_assoc, List.getElem?_append_right (by omega)]
             rw [m4, <- e2]
             have e5 : pre.length + off * P.cellsOf e + i - pre.length = off * P.cellsOf e + i := by omega
             rw [e5, List.getElem?_append_left (List.getElem?_eq_some_iff.1 this).1]
             exact this
           . exact absurd this (by simp)
         . rw [gV]
           show _ = Value.string ⟨(((sub _ off (off + len)).map byteOf)).toArray⟩
           unfold sub
           rw [hxs, Nt]; rfl
       . have h0 : len = 0 := by omega
         subst h0
         have hsub : sub ((M.rows.getD r (.arr 0 [])).elems p) off (off + 0) = [] := by simp [sub]
         rw [hsub]
         refine .of (c := .string ⟨#[]⟩) ?_ (gV.2 rfl)
         cases base with
         | none => exact run_convert_bytes_nil w src e hse hu8 0 cap dst hu
         | some ad =>
          rw [run_convert_bytes_string w src dst e _ _ _ hse hu8 hu]
          simp [Conv.bytesToString, loadCells, loadCellsFrom]
          rfl
     . exact absurd h (by simp)
   . exact absurd h (by simp)
 . rename_i e s hu
   split at h
   . rename_i hc
     simp only [Bool.and_eq_true] at hc
     obtain rfl := Option.some.inj h
     obtain rfl := gV.1 hx
     have hu8 := xK hc.1
     have hc1 := Nat.eq_of_beq_eq_true hc.2
     have hsz : (ByteArray.mk s.toArray).size = s.length := by simp [ByteArray.size]
     refine ⟨_, _, run_convert_string_bytes w src dst e ⟨s.toArray⟩ hds hu hu8, ⟨rfl, rfl, rfl, by rw [bytesWorld_size]; omega, fun k hk => bytesWorld_at_old w e _ k hk⟩, bR ⟨_, _, _, rfl, by simp [hsz], ?_, fun e => by simp at e, ?_⟩ rfl⟩
     . exact grownCap_ge _ _ _ _
     . by_cases h0 : s.length = 0
       . exact .inl (hsz.trans h0)
       . refine .inr ⟨w.heap.size, 0, rfl, nL (QF hc.1 hc1 s) fun i v hv => ⟨hst _ _ (Nat.le_refl _), ?_⟩⟩
         have hi : i < s.length := by simpa using (List.getElem?_eq_some_iff.1 hv).1
         have := bytesWorld_cell w e ⟨s.toArray⟩ i (by rw [hsz]; exact hi)
         rw [Nat.zero_add]
         show (bytesWorld w e ⟨s.toArray⟩).cell? _ = _
         rw [this, <- hv]
         simp [hi, List.getD]
   . exact absurd h (by simp)
 . exact absurd h (by simp)
end
end Go.AE
