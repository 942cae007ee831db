/- The abstract evaluator: operations, regions, control, calls. Definitions alone. -/
import Derived.Test.YtglfkdbfiipjjaaEv0
set_option linter.unusedVariables false
set_option linter.unusedSimpArgs false
namespace Go.AE

/-! ### which types are plain: no pointer, function, map, interface in them -/
def plainFs (rec : TypeId → Bool) : List Field → Bool
  | [] => true
  | f :: fs => rec f.type && plainFs rec fs
def plainT (P : Program) : Nat → TypeId → Bool
  | 0, _ => false
  | d + 1, t =>
    match P.underlying t with
    | some .bool | some (.int _) | some .string => true
    | some (.struct fs) => plainFs (plainT P d) fs.toList
    | some (.array _ e) | some (.slice e) => plainT P d e
    | _ => false
def flatFs (rec : TypeId → Bool) : List Field → Bool
  | [] => true
  | f :: fs => rec f.type && flatFs rec fs
/-- A type without memory behind it. -/
def flatT (P : Program) : Nat → TypeId → Bool
  | 0, _ => false
  | d + 1, t =>
    match P.underlying t with
    | some .bool | some (.int _) | some .string => true
    | some (.struct fs) => flatFs (flatT P d) fs.toList
    | some (.array _ e) => flatT P d e
    | _ => false
def allL (p : AV → Bool) : List AV → Bool
  | [] => true
  | v :: vs => p v && allL p vs
/-- No slice of a row is in it. -/
def noMsl (P : Program) : Nat → AV → Bool
  | 0, _ => false
  | d + 1, v =>
    match v with
    | .msl _ _ _ _ _ _ => false
    | .dead => false
    | .agg t ps =>
      match P.underlying t with
      | some (.struct _) => allL (noMsl P d) ps
      | some (.array _ e) => flatT P 20 e
      | _ => false
    | .func _ f c => allL (noMsl P d) f && allL (noMsl P d) c
    | .iface _ v => noMsl P d v
    | .tuple vs => allL (noMsl P d) vs
    | _ => true
def noMsls (P : Program) : List (Nat × AV) → Bool
  | [] => true
  | (_, v) :: r => noMsl P 8 v && noMsls P r
def fitsAll (P : Program) : List TypeId → List AV → Bool
  | [], [] => true
  | t :: ts, v :: vs => fits P t v && fitsAll P ts vs
  | _, _ => false
def fitsParts (P : Program) (t : TypeId) : List (Nat × AV) → Bool
  | [] => true
  | (i, v) :: r => fits P (partsT P t i) v && fitsParts P t r
def plainAll (P : Program) : List TypeId → Bool
  | [] => true
  | t :: ts => plainT P 20 t && plainAll P ts

/-! ### operations that change no memory that may be written -/
def mergeV (b : Bool) (x y : AV) : AV :=
  match x, y with
  | .bool p, .bool q => .bool (cond b p q)
  | .int k p, .int k' q => if k = k' then .int k (cond b p q) else cond b x y
  | .str p, .str q => .str (cond b p q)
  | .tuple [], .tuple [] => .tuple []
  | .agg t p, .agg u q => if t = u then .agg t (cond b p q) else cond b x y
  | .slice e p ex, .slice e' q ex' => if e = e' ∧ ex = ex' then .slice e (cond b p q) ex else cond b x y
  | _, _ => cond b x y
def okV (o : Option AV) : Option (Bool × AV) :=
  match o with
  | some v => some (true, v)
  | none => none
def nilV (x : AV) : Option (Bool × AV) :=
  match x with
  | .ptr .. | .rptr .. | .iface .. => some (true, x)
  | .func fn _ _ => match fn with | .method _ => none | _ => some (true, x)
  | .nilp | .nilf | .nili => some (false, .dead)
  | _ => none
def optO (P : Program) (tm : List AV) : Option Operand → Option AV
  | none => none
  | some x => some (opnd P tm 0 x)
def partsO (P : Program) (tm : List AV) (t : TypeId) (ps : List (Nat × Operand)) : List (Nat × AV) := ps.map fun p => (p.1, opnd P tm (partsT P t p.1) p.2)
def specCall (cx : Ctx) (tm : List AV) (c : Call) : Option (Bool × AV) :=
  match c.callee with
  | .value (.func f) =>
    match cx.P.funcs[f]? with
    | some fn =>
      let args := opnds cx.P tm c.argTypes.toList c.args.toList
      if fitsAll cx.P fn.params.toList args && plainAll cx.P fn.params.toList && allL (noMsl cx.P 8) args && fn.body.isSome && !(fn.name == "runtime.NumGoroutine") then cx.spec f args else none
    | none => none
  | _ => none
def builtinV (cx : Ctx) (M : Mm) (tm : List AV) (b : Builtin) (c : Call) : Option (Bool × AV) :=
  match b, c.args.toList, c.argTypes.toList with
  | .len, [x], [t] => okV (lenV cx.P t M (opnd cx.P tm t x))
  | .min, x :: r, t :: ts => okV (minV (opnd cx.P tm t x) (opnds cx.P tm ts r))
  | .max, x :: r, t :: ts => okV (maxV (opnd cx.P tm t x) (opnds cx.P tm ts r))
  | _, _, _ => none
/-- What an operation yields, and whether it does: 'none': not one of these. -/
def popv (cx : Ctx) (M : Mm) (tm : List AV) (o : Oper) : Option (Bool × AV) :=
  let P := cx.P
  match o.op with
  | .move x | .assign x => some (true, opnd P tm o.type x)
  | .pick c a b =>
    match opnd P tm 0 c with
    | .bool t => some (true, mergeV t (opnd P tm o.type a) (opnd P tm o.type b))
    | _ => none
  | .build t ps => let l := partsO P tm t ps.toList; if fitsParts P t l then okV (buildV P t l) else none
  | .buildSlice t n ps => let l := partsO P tm t ps.toList; if fitsParts P t l && noMsls P l then okV (sliceLit P t n l) else none
  | .load t x => okV (loadV P M t (opnd P tm 0 x))
  | .nilCheck x => nilV (opnd P tm 0 x)
  | .binOp op t x y ty => match nilCmp P op t (opnd P tm t x) y with
    | some r => some r
    | none => binV P op t (opnd P tm t x) (opnd P tm ty y)
  | .unOp op t x => okV (unV op (opnd P tm t x))
  | .convert src dst x => if (P.underlying src).isSome then okV (convV P src dst M (opnd P tm src x)) else none
  | .makeInterface t x => let v := opnd P tm t x; if fits P t v then okV (match P.underlying t with | some (.interface _) => none | some _ => some (.iface t v) | none => none) else none
  | .makeFunc fn first cap => some (true, .func fn (opnds P tm [] first.toList) (opnds P tm [] cap.toList))
  | .slice t x lo hi mx => if (P.info? (elemT P t)).isSome then sliceV P t (opnd P tm t x) (optO P tm lo) (optO P tm hi) (optO P tm mx) else none
  | .fieldAddr t x k => okV (fieldAddrV P t (opnd P tm 0 x) k)
  | .field t x k => okV (fieldV P t (opnd P tm t x) k)
  | .indexAddr t x i => match opnd P tm 0 i with | .int _ n => if (P.info? (elemT P t)).isSome then indexAddrV P t (opnd P tm t x) n else none | _ => none
  | .index t x i => match opnd P tm 0 i with | .int _ n => if (P.info? (elemT P t)).isSome then indexV P t (opnd P tm t x) n else none | _ => none
  | .typeAssert x _ t ok => okV (assertV P (opnd P tm 0 x) t ok)
  | .extract x i => match opnd P tm 0 x with | .tuple vs => if Nat.blt i vs.length then some (true, vs.getD i .dead) else none | _ => none
  | .call c => match c.callee with
    | .builtin b => builtinV cx M tm b c
    | _ => specCall cx tm c
  | _ => none

/-! ### trees: a region, or code, that changes no such memory -/
inductive T where
  | fail
  | leaf (tm : List AV)
  | br (b : Bool) (x y : T)
def T.isFail : T → Bool
  | .fail => true
  | _ => false
def undefV : AV := .tuple []
def setO (tm : List AV) (d : Option Nat) (v : AV) : List AV :=
  match d with
  | some i => tm.set i v
  | none => tm
def guardT (ops : Array Oper) (j : Nat) : Option Nat :=
  match ops[j]? with
  | some o => o.dst
  | none => none
/-- One operation of a region. -/
def stepT (cx : Ctx) (M : Mm) (o : Oper) (tm : List AV) (k : List AV → T) : T :=
  match popv cx M tm o with
  | some (ok, v) => .br ok (k (setO tm o.dst v)) .fail
  | none => .fail
def opsT (cx : Ctx) (M : Mm) (ops : Array Oper) : List Oper → List AV → (List AV → T) → T
  | [], tm, k => k tm
  | o :: rest, tm, k =>
    match o.guard with
    | none => stepT cx M o tm fun tm => opsT cx M ops rest tm k
    | some (j, want) =>
      match guardT ops j with
      | none => .fail
      | some g =>
        match tm.getD g .dead with
        | .bool b =>
          .br b
            (if want then stepT cx M o (tm.set g (.bool true)) fun tm => opsT cx M ops rest tm k else opsT cx M ops rest (setO (tm.set g (.bool true)) o.dst undefV) k)
            (if want then opsT cx M ops rest (setO (tm.set g (.bool false)) o.dst undefV) k else stepT cx M o (tm.set g (.bool false)) fun tm => opsT cx M ops rest tm k)
        | .tuple [] => opsT cx M ops rest (setO tm o.dst undefV) k
        | _ => .fail
def codeT (cx : Ctx) (M : Mm) : Code → List AV → (List AV → T) → T
  | .skip, tm, k => k tm
  | .region _ ops _, tm, k => opsT cx M ops ops.toList tm k
  | .seq a b, tm, k => codeT cx M a tm fun tm => codeT cx M b tm k
  | .cond c a b, tm, k =>
    match opnd cx.P tm 0 c with
    | .bool t => .br t (codeT cx M a tm k) (codeT cx M b tm k)
    | _ => .fail
  | _, _, _ => .fail
/-- A branch's truth, both sides known: it is known where they are. -/
def condB (b x y : Bool) : Bool := cond x (cond y true b) (cond y (!b) false)
/-! Truths that are known on the way through a region: the place and the truth. -/
def lookB (i : Nat) : List (Nat × Bool) → Option Bool
  | [] => none
  | (j, b) :: r => if Nat.beq j i then some b else lookB i r
def knOf (kn : List (Nat × Bool)) : Operand → Option Bool
  | .tmp i => lookB i kn
  | .const (.bool b) => some b
  | _ => none
def knO (kn : List (Nat × Bool)) (o : Oper) : Option Bool :=
  match o.op with
  | .move x | .assign x => knOf kn x
  | .pick c a b => match knOf kn c with
    | some true => knOf kn a
    | some false => knOf kn b
    | none => none
  | .unOp .not _ x => match knOf kn x with
    | some b => some (!b)
    | none => none
  | _ => none
def knDrop (d : Nat) (kn : List (Nat × Bool)) : List (Nat × Bool) := kn.filter fun p => !(Nat.beq p.1 d)
def knSet (kn : List (Nat × Bool)) (d : Option Nat) (v : Option Bool) (n : Nat) : List (Nat × Bool) :=
  match d with
  | none => kn
  | some d => match v with
    | some b => if Nat.blt d n then (d, b) :: knDrop d kn else knDrop d kn
    | none => knDrop d kn
/-- As 'opsT', but that what is known of guards is not asked again. -/
def opsK (cx : Ctx) (M : Mm) (ops : Array Oper) : List Oper → List (Nat × Bool) → List AV → (List AV → T) → T
  | [], kn, tm, k => k tm
  | o :: rest, kn, tm, k =>
    match o.guard with
    | none => stepT cx M o tm fun tm' => opsK cx M ops rest (knSet kn o.dst (knO kn o) tm.length) tm' k
    | some (j, want) =>
      match guardT ops j with
      | none => .fail
      | some g =>
        match lookB g kn with
        | some b => if b = want then stepT cx M o tm fun tm' => opsK cx M ops rest (knSet kn o.dst (knO kn o) tm.length) tm' k else opsK cx M ops rest (knSet kn o.dst none 0) (setO tm o.dst undefV) k
        | none =>
          match tm.getD g .dead with
          | .bool b =>
            let kt := (g, true) :: knDrop g kn
            let kf := (g, false) :: knDrop g kn
            .br b
              (if want then stepT cx M o (tm.set g (.bool true)) fun tm' => opsK cx M ops rest (knSet kt o.dst (knO kt o) tm.length) tm' k else opsK cx M ops rest (knSet kt o.dst none 0) (setO (tm.set g (.bool true)) o.dst undefV) k)
              (if want then opsK cx M ops rest (knSet kf o.dst none 0) (setO (tm.set g (.bool false)) o.dst undefV) k else stepT cx M o (tm.set g (.bool false)) fun tm' => opsK cx M ops rest (knSet kf o.dst (knO kf o) tm.length) tm' k)
          | .tuple [] => opsK cx M ops rest (knSet kn o.dst none 0) (setO tm o.dst undefV) k
          | _ => .fail
def codeK (cx : Ctx) (M : Mm) : Code → List AV → (List AV → T) → T
  | .skip, tm, k => k tm
  | .region _ ops _, tm, k => opsK cx M ops ops.toList [] tm k
  | .seq a b, tm, k => codeK cx M a tm fun tm => codeK cx M b tm k
  | .cond c a b, tm, k =>
    match opnd cx.P tm 0 c with
    | .bool t => .br t (codeK cx M a tm k) (codeK cx M b tm k)
    | _ => .fail
  | _, _, _ => .fail
def mergeAt (b : Bool) (x y : List AV) : List Nat → List AV → List AV
  | [], base => base
  | d :: ds, base => mergeAt b x y ds (base.set d (mergeV b (x.getD d .dead) (y.getD d .dead)))
/-- Whether a tree comes to a leaf, and what is known at it: outside the places D that is 'base'. -/
def T.merge (D : List Nat) : T → Option (Bool × List AV)
  | .fail => none
  | .leaf tm => some (true, tm)
  | .br b x y =>
    match x.merge D, y.merge D with
    | none, none => none
    | some (o, tm), none => some (cond b o false, tm)
    | none, some (o, tm) => some (cond b false o, tm)
    | some (o1, t1), some (o2, t2) => some (condB b o1 o2, mergeAt b t1 t2 D t1)
/-- Is an operation one of those that 'popv' takes, by its form? -/
def pureOp (cx : Ctx) (o : Oper) : Bool :=
  match o.op with
  | .move _ | .assign _ | .pick .. | .build .. | .buildSlice .. | .load .. | .nilCheck _ | .binOp .. | .unOp .. | .convert .. | .makeInterface .. | .makeFunc .. | .slice .. | .fieldAddr .. | .field ..
  | .indexAddr .. | .index .. | .typeAssert .. | .extract .. => true
  | .call c => match c.callee with
    | .builtin .len | .builtin .min | .builtin .max => true
    | .value (.func f) => (cx.spec f []).isSome
    | _ => false
  | _ => false
def pureOps (cx : Ctx) : List Oper → Bool
  | [] => true
  | o :: r => pureOp cx o && pureOps cx r
def anyGuard : List Oper → Bool
  | [] => false
  | o :: r => o.guard.isSome || anyGuard r
def pureCode (cx : Ctx) : Code → Bool
  | .skip => true
  | .region _ ops draw => !draw && pureOps cx ops.toList
  | .seq a b => pureCode cx a && pureCode cx b
  | .cond _ a b => pureCode cx a && pureCode cx b
  | _ => false
def dstsOf : List Oper → List Nat
  | [] => []
  | o :: r => match o.dst with | some d => d :: dstsOf r | none => dstsOf r
def dstsC : Code → List Nat
  | .region _ ops _ => dstsOf ops.toList
  | .seq a b => dstsC a ++ dstsC b
  | .cond _ a b => dstsC a ++ dstsC b
  | _ => []
/-- The places that a region writes from its first guarded operation on. -/
def guardDsts : List Oper → List Nat
  | [] => []
  | o :: r => if o.guard.isSome then dstsOf (o :: r) ++ [] else guardDsts r
def guardsOf (ops : Array Oper) : List Oper → List Nat
  | [] => []
  | o :: r => match o.guard with
    | some (j, _) => match guardT ops j with | some g => g :: guardsOf ops r | none => guardsOf ops r
    | none => guardsOf ops r

/-! ### flags -/
def dropT (t : Nat) (tf : List (Nat × TF)) : List (Nat × TF) :=
  tf.filter fun p => !(Nat.beq p.1 t) && match p.2 with | .viaT s => !(Nat.beq s t) | _ => true
def dropTs (ts : List Nat) (tf : List (Nat × TF)) : List (Nat × TF) := ts.foldl (fun tf t => dropT t tf) tf
def flagOf (t : Nat) : List (Nat × TF) → Option TF
  | [] => none
  | (i, f) :: r => if Nat.beq i t then some f else flagOf t r
def apart : List Nat → List Nat → Bool
  | i :: p, j :: q => if Nat.beq i j then apart p q else true
  | _, _ => false
def dropR (r : Nat) (p : List Nat) (ro : List (Nat × List Nat)) : List (Nat × List Nat) := ro.filter fun x => !(Nat.beq x.1 r) || apart x.2 p
def dropViaR (r : Nat) (p : List Nat) (tf : List (Nat × TF)) : List (Nat × TF) :=
  tf.filter fun x => match x.2 with | .viaR r' q => !(Nat.beq r' r) || apart q p | _ => true
def dropAllViaR (tf : List (Nat × TF)) : List (Nat × TF) := tf.filter fun x => match x.2 with | .viaR _ _ => false | _ => true
def hasRo (r : Nat) (p : List Nat) : List (Nat × List Nat) → Bool
  | [] => false
  | (i, q) :: l => (Nat.beq i r && decide (q = p)) || hasRo r p l
def Fr.set (fr : Fr) (d : Option Nat) (v : AV) : Fr :=
  match d with
  | some t => { tmps := fr.tmps.set t v, tf := dropT t fr.tf }
  | none => fr
/-- The flag that a copy of a temporary bears. -/
def copyFlag (s t : Nat) (tf : List (Nat × TF)) : Option TF :=
  match flagOf s tf with
  | some .own => some (.viaT s)
  | some (.viaT u) => if Nat.beq u t then none else some (.viaT u)
  | f => f
def Fr.setF (fr : Fr) (d : Option Nat) (v : AV) (f : Option TF) : Fr :=
  match d, f with
  | some t, some fl => if Nat.blt t fr.tmps.length then { tmps := fr.tmps.set t v, tf := (t, fl) :: dropT t fr.tf } else fr.set d v
  | d, _ => fr.set d v
/-- 'move': what is read from a variable. -/
def Fr.move (P : Program) (fr : Fr) (d : Option Nat) (t : TypeId) (x : Operand) : Fr :=
  let v := opnd P fr.tmps t x
  match v, x, d with
  | .slice _ _ _, .tmp s, some d' => if Nat.beq s d' then fr else fr.setF d v (copyFlag s d' fr.tf)
  | _, _, _ => fr.set d v
/-- 'assign': a variable is given a value; who may append is the variable from now on. -/
def Fr.assign (P : Program) (fr : Fr) (d : Option Nat) (t : TypeId) (x : Operand) : Fr :=
  let v := opnd P fr.tmps t x
  match v, x, d with
  | .slice e l true, _, some d' => fr.setF d (.slice e l false) (some .own)
  | .slice e l false, .tmp s, some d' =>
    if Nat.beq s d' then fr else if Nat.ble fr.tmps.length d' then fr.set d v else
    match flagOf s fr.tf with
    | some .own => { tmps := fr.tmps.set d' v, tf := (s, .viaT d') :: (d', .own) :: dropT d' (dropT s fr.tf) }
    | some (.viaT u) => if Nat.beq u d' || Nat.beq s u then fr.set d v else { tmps := fr.tmps.set d' v, tf := (s, .viaT d') :: (u, .viaT d') :: (d', .own) :: dropT d' (dropT u (dropT s fr.tf)) }
    | some (.viaR r p) => { tmps := fr.tmps.set d' v, tf := (d', .viaR r p) :: dropT d' fr.tf }
    | none => fr.set d v
  | _, _, _ => fr.set d v

/-! ### operations that change memory -/
abbrev CallH (R : Type) := FuncId → List AV → Mm → (Res → Mm → Option R) → Option R
section
variable {R : Type} (cx : Ctx) (fn : FuncId) (call : CallH R)

def appended (P : Program) (M : Mm) (elem : TypeId) : AV → Option (List AV)
  | .slice e l _ => if Nat.beq e elem then some l else none
  | .str s => if isU8 P elem && Nat.beq (P.cellsOf elem) 1 then some (s.map byteAV) else none
  | .msl r p e off _ len => if Nat.beq e elem && flatT P 20 elem then some (sub ((M.rows.getD r (.arr 0 [])).elems p) off (off + len)) else none
  | _ => none
/-- Whoever may append gives that up: 'some' with the flags left. -/
def takeOwn (x : Operand) (exact : Bool) (fr : Fr) (M : Mm) : Option (List (Nat × TF) × List (Nat × List Nat)) :=
  if exact then some (fr.tf, M.ro) else
  match x with
  | .tmp s =>
    match flagOf s fr.tf with
    | some .own => some (dropT s fr.tf, M.ro)
    | some (.viaT u) => some (dropT u fr.tf, M.ro)
    | some (.viaR r p) => some (dropViaR r p fr.tf, dropR r p M.ro)
    | none => none
  | _ => none
/-- Can slices of this be appended to, what is appended being of that type? -/
def growable (P : Program) (elem u : TypeId) : Bool :=
  Nat.blt 0 (P.cellsOf elem) && Nat.blt 0 (P.bytesOf elem) && (fits P elem (zero P elem) && (tyA P elem || Nat.beq (P.cellsOf elem) 1)) && match P.underlying u with | some (.slice _) | some .string => true | _ => false
def appendE (o : Oper) (c : Call) (fr : Fr) (M : Mm) (next : Fr → Mm → Option R) : Option R :=
  match c.args.toList, c.argTypes.toList, o.dst with
  | [x, y], [t, u], some d =>
    match cx.P.underlying t, opnd cx.P fr.tmps t x with
    | some (.slice elem), .slice e l ex =>
      if Nat.beq e elem && growable cx.P elem u && Nat.blt d fr.tmps.length then
        match appended cx.P M elem (opnd cx.P fr.tmps u y) with
        | none => none
        | some l2 =>
          cond (decide ((l.length + l2.length) * cx.P.bytesOf elem ≤ 140737488355328))
            (if cx.muta fn then
              if ex then
                cond (decide (0 < l2.length))
                  (next (fr.set (some d) (.msl M.rows.length [] elem 0 0 (l ++ l2).length)) { M with rows := M.rows ++ [.arr elem (l ++ l2)] })
                  none
              else none
            else
              match takeOwn x ex fr M with
              | none => none
              | some (tf, ro) => next { tmps := fr.tmps.set d (.slice elem (l ++ l2) false), tf := (d, .own) :: dropT d tf } { M with ro := ro })
            none
      else none
    | _, _ => none
  | _, _, _ => none
/-- A store to a row. -/
def storeE (t : TypeId) (a x : Operand) (fr : Fr) (M : Mm) (next : Fr → Mm → Option R) : Option R :=
  match opnd cx.P fr.tmps 0 a with
  | .ptr r p t' _ =>
    let v := opnd cx.P fr.tmps t x
    if likeT cx.P t' t && fits cx.P t v then
      let row := M.rows.getD r (.arr 0 [])
      let tf := dropViaR r p fr.tf
      let ro := dropR r p M.ro
      match v with
      | .slice e l true => next { fr with tf := tf } { rows := M.rows.set r (row.put p (.slice e l false)), ro := (r, p) :: ro }
      | .slice e l false =>
        match x with
        | .tmp s =>
          match flagOf s tf with
          | some .own => next { fr with tf := (s, .viaR r p) :: dropViaR r p (dropT s fr.tf) } { rows := M.rows.set r (row.put p v), ro := (r, p) :: ro }
          | some (.viaT u) => next { fr with tf := (s, .viaR r p) :: dropViaR r p (dropT s (dropT u fr.tf)) } { rows := M.rows.set r (row.put p v), ro := (r, p) :: ro }
          | _ => next { fr with tf := tf } { rows := M.rows.set r (row.put p v), ro := ro }
        | _ => next { fr with tf := tf } { rows := M.rows.set r (row.put p v), ro := ro }
      | _ => next { fr with tf := tf } { rows := M.rows.set r (row.put p v), ro := ro }
    else none
  | _ => none
def sameOperand : Operand → Operand → Bool
  | .tmp a, .tmp b => Nat.beq a b
  | .const (.int k a), .const (.int k' b) => decide (k = k') && decide (a = b)
  | _, _ => false
def zeroConst : Operand → Bool
  | .const (.int _ a) => decide (a = 0)
  | _ => false
def makeSliceE (t : TypeId) (l c : Operand) (o : Oper) (fr : Fr) (M : Mm) (next : Fr → Mm → Option R) : Option R :=
  match cx.P.underlying t, opnd cx.P fr.tmps 0 c, o.dst with
  | some (.slice e), .int k n, some d =>
    if fits cx.P e (zero cx.P e) && (tyA cx.P e || Nat.beq (cx.P.cellsOf e) 1) && Nat.blt d fr.tmps.length then
      cond (decide (0 ≤ n) && decide (n * cx.P.bytesOf e ≤ 140737488355328) && decide (n ≤ 140737488355328))
        (if sameOperand l c then
          next (fr.set (some d) (.msl M.rows.length [] e 0 0 n.toNat)) { M with rows := M.rows ++ [.arr e (List.replicate n.toNat (zero cx.P e))] }
        else if zeroConst l then next { tmps := fr.tmps.set d (.slice e [] false), tf := (d, .own) :: dropT d fr.tf } M
        else none)
        none
    else none
  | _, _, _ => none
def copyE (c : Call) (o : Oper) (fr : Fr) (M : Mm) (next : Fr → Mm → Option R) : Option R :=
  match c.args.toList, c.argTypes.toList with
  | [x, y], [t, u] =>
    match cx.P.underlying t, opnd cx.P fr.tmps t x with
    | some (.slice elem), .msl r p e off coff len =>
      if Nat.beq e elem && Nat.blt 0 (cx.P.cellsOf elem) && (cx.P.info? elem).isSome then
        match appended cx.P M elem (opnd cx.P fr.tmps u y) with
        | none => none
        | some l2 =>
          let row := M.rows.getD r (.arr 0 [])
          let l := row.elems p
          let n := min l2.length len
          next (({ fr with tf := dropViaR r p fr.tf } : Fr).set o.dst (.int .i64 (n : Nat))) { rows := M.rows.set r (row.putElems p (l.take off ++ (l2.take n ++ l.drop (off + n)))), ro := dropR r p M.ro }
      else none
    | _, _ => none
  | _, _ => none
def putV (k v : AV) : List (AV × AV) → (List (AV × AV) → Option R) → Option R
  | [], K => K [(k, v)]
  | (k', v') :: r, K =>
    match keyEq k k' with
    | some b => cond b (K ((k', v) :: r)) (putV k v r fun r => K ((k', v') :: r))
    | none => none
def keyT (P : Program) (t : TypeId) (k : AV) : Bool :=
  match P.underlying t, k with
  | some (.int _), .int _ _ | some .string, .str _ | some .bool, .bool _ => true
  | _, _ => false
def mapPutE (t : TypeId) (m k v : Operand) (fr : Fr) (M : Mm) (next : Fr → Mm → Option R) : Option R :=
  match cx.P.underlying t, opnd cx.P fr.tmps t m with
  | some (.map kt et), .mapv (some r) =>
    match M.rows.getD r (.arr 0 []) with
    | .map kt' et' es =>
      let k := opnd cx.P fr.tmps kt k
      let v := opnd cx.P fr.tmps et v
      if Nat.beq kt kt' && Nat.beq et et' && keyT cx.P kt k && fits cx.P kt k && fits cx.P et v then putV k v es fun es => next fr { M with rows := M.rows.set r (.map kt et es) }
      else none
    | _ => none
  | _, _ => none
def lookupE (t : TypeId) (m k : Operand) (ok : Bool) (o : Oper) (fr : Fr) (M : Mm) (next : Fr → Mm → Option R) : Option R :=
  match cx.P.underlying t with
  | some (.map kt et) =>
    let k := opnd cx.P fr.tmps kt k
    let ret (v : Option AV) : Option R :=
      let x := match v with | some v => v | none => zero cx.P et
      next (fr.set o.dst (if ok then .tuple [x, .bool v.isSome] else x)) M
    if keyT cx.P kt k && fits cx.P kt k && fits cx.P et (zero cx.P et) then
      match opnd cx.P fr.tmps t m with
      | .mapv none => ret none
      | .mapv (some r) =>
        match M.rows.getD r (.arr 0 []) with
        | .map kt' et' es => if Nat.beq kt kt' && Nat.beq et et' then findV k es ret else none
        | _ => none
      | _ => none
    else none
  | _ => none
/-- The function that a call enters, with its arguments. -/
def target (P : Program) (f : AV) (args : List AV) : Option (FuncId × List AV) :=
  match f with
  | .func (.func g) first cap => some (g, (first ++ args) ++ cap)
  | _ => none
/-- An operation. 'next': what follows; 'pan': a panic. -/
def evO (o : Oper) (fr : Fr) (M : Mm) (next : Fr → Mm → Option R) (pan : AV → Fr → Mm → Option R) : Option R :=
  let P := cx.P
  match o.op with
  | .move x => next (fr.move P o.dst o.type x) M
  | .assign x => next (fr.assign P o.dst o.type x) M
  | .alloc t =>
    let z := zero P t
    if fits P t z && (tyA P t || Nat.beq (P.cellsOf t) 1) then next (fr.set o.dst (.ptr M.rows.length [] t 0)) { M with rows := M.rows ++ [.var t z] } else none
  | .box t x =>
    let v := opnd P fr.tmps t x
    if fits P t v && (tyA P t || Nat.beq (P.cellsOf t) 1) then next (fr.set o.dst (.ptr M.rows.length [] t 0)) { M with rows := M.rows ++ [.var t v] } else none
  | .load t x =>
    match okV (loadV P M t (opnd P fr.tmps 0 x)) with
    | some (_, v) =>
      match v, opnd P fr.tmps 0 x with
      | .slice _ _ _, .ptr r p _ _ => next (fr.setF o.dst v (if hasRo r p M.ro then some (.viaR r p) else none)) M
      | _, _ => next (fr.set o.dst v) M
    | none => none
  | .store t a x => storeE cx t a x fr M fun fr M => next (fr.set o.dst undefV) M
  | .makeMap t r =>
    match P.underlying t, r.all (fun x => match opnd P fr.tmps 0 x with | .int _ _ => true | _ => false) with
    | some (.map k e), true => next (fr.set o.dst (.mapv (some M.rows.length))) { M with rows := M.rows ++ [.map k e []] }
    | _, _ => none
  | .mapUpdate t m k v => mapPutE cx t m k v fr M fun fr M => next (fr.set o.dst undefV) M
  | .insert t m k v => mapPutE cx t m k v fr M fun fr M => next (fr.set o.dst undefV) M
  | .lookup t m k ok => lookupE cx t m k ok o fr M next
  | .panic x => match opnd P fr.tmps 0 x with | .iface t v => pan (.iface t v) fr M | _ => none
  | .makeSlice t l c => makeSliceE cx t l c o fr M next
  | .call c =>
    match c.callee with
    | .builtin .append => appendE cx fn o c fr M next
    | .builtin .copy => copyE cx c o fr M next
    | .builtin b => match builtinV cx M fr.tmps b c with | some (ok, v) => cond ok (next (fr.set o.dst v) M) none | none => none
    | .value f =>
      match specCall cx fr.tmps c with
      | some (ok, v) => cond ok (next (fr.set o.dst v) M) none
      | none =>
        match target P (opnd P fr.tmps 0 f) (opnds P fr.tmps c.argTypes.toList c.args.toList) with
        | some (g, args) =>
          call g args M fun r M =>
            let fr := { fr with tf := dropAllViaR fr.tf }
            match r with
            | .ret v => next (fr.set o.dst v) M
            | .pan v => pan v fr M
        | none => none
    | _ => none
  | _ => match popv cx M fr.tmps o with
    | some (ok, v) => cond ok (next (fr.set o.dst v) M) none
    | none => none

/-- The operations of a region in the order of the text. -/
def evS (ops : Array Oper) : List Oper → Fr → Mm → (AX → Fr → Mm → Option R) → Option R
  | [], fr, M, K => K .normal fr M
  | o :: rest, fr, M, K =>
    match o.guard with
    | none => evO cx fn call o fr M (fun fr M => evS ops rest fr M K) (fun v fr M => K (.panic v) fr M)
    | some (j, want) =>
      match guardT ops j with
      | none => none
      | some g =>
        match fr.tmps.getD g .dead with
        | .bool b =>
          cond b
            (let fr := { fr with tmps := fr.tmps.set g (.bool true) }
             if want then evO cx fn call o fr M (fun fr M => evS ops rest fr M K) (fun v fr M => K (.panic v) fr M) else evS ops rest (fr.set o.dst undefV) M K)
            (let fr := { fr with tmps := fr.tmps.set g (.bool false) }
             if want then evS ops rest (fr.set o.dst undefV) M K else evO cx fn call o fr M (fun fr M => evS ops rest fr M K) (fun v fr M => K (.panic v) fr M))
        | .tuple [] => evS ops rest (fr.set o.dst undefV) M K
        | _ => none
/-- A tree's leaf, and what follows. -/
def evT (t : T) (D all : List Nat) (fr : Fr) (M : Mm) (K : AX → Fr → Mm → Option R) : Option R :=
  match t.merge D with
  | some (ok, tm) => cond ok (K .normal { tmps := tm, tf := dropTs all fr.tf } M) none
  | none => none
def iter : Nat → (Fr → Mm → (Fr → Mm → Option R) → Option R) → Fr → Mm → Option R
  | 0, _, _, _ => none
  | m + 1, body, fr, M => body fr M (iter m body)
/-- The first region of a code: its name. -/
def idOf : Code → Option Nat
  | .region id _ _ => some id
  | .seq a b => match idOf a with
    | some i => some i
    | none => idOf b
  | .cond _ a b => match idOf a with
    | some i => some i
    | none => idOf b
  | .block _ c => idOf c
  | .loop c => idOf c
  | _ => none
def loopId (c : Code) : Nat := match idOf c with | some i => i | none => 0
/-- The bodies of a code's loops. -/
def loops : Code → List Code
  | .seq a b => loops a ++ loops b
  | .cond _ a b => loops a ++ loops b
  | .block _ c => loops c
  | .loop c => c :: loops c
  | _ => []
def namedBy (id : Nat) : List Code → List Code
  | [] => []
  | c :: r => if Nat.beq (loopId c) id then c :: namedBy id r else namedBy id r
/-- The one loop of a name. -/
def loopAt (body : Code) (id : Nat) : Option Code :=
  match namedBy id (loops body) with
  | [l] => some l
  | _ => none
def memN (i : Nat) : List Nat → Bool
  | [] => false
  | j :: r => if Nat.beq j i then true else memN i r
def onlyL (ks : List Nat) : Nat → List AV → List AV
  | _, [] => []
  | i, v :: vs => (if memN i ks then v else .dead) :: onlyL ks (i + 1) vs
def Fr.only (ks : Option (List Nat)) (fr : Fr) : Fr :=
  match ks with
  | none => fr
  | some ks => { tmps := onlyL ks 0 fr.tmps, tf := fr.tf.filter fun p => memN p.1 ks && match p.2 with | .viaT s => memN s ks | _ => true }
/-! ### rows that nobody reaches any more -/
/-- All rows that a value reaches have a number below N. -/
def belowV (P : Program) : Nat → Nat → AV → Bool
  | 0, _, _ => false
  | d + 1, N, v =>
    match v with
    | .ptr r _ _ _ => Nat.blt r N
    | .rptr t _ => plainT P 20 t
    | .slice e _ _ => plainT P 20 e
    | .msl r _ _ _ _ _ => Nat.blt r N
    | .mapv r => match r with | some r => Nat.blt r N | none => true
    | .func _ f c => allL (belowV P d N) f && allL (belowV P d N) c
    | .iface _ v => belowV P d N v
    | .agg t ps =>
      match P.underlying t with
      | some (.struct _) => allL (belowV P d N) ps
      | some (.array _ e) => flatT P 20 e
      | _ => false
    | .tuple vs => allL (belowV P d N) vs
    | _ => true
def belowEs (P : Program) (N : Nat) : List (AV × AV) → Bool
  | [] => true
  | (k, v) :: r => belowV P 8 N k && belowV P 8 N v && belowEs P N r
def belowR (P : Program) (N : Nat) : Row → Bool
  | .var _ v => belowV P 8 N v
  | .arr e l => if flatT P 20 e then true else allL (belowV P 8 N) l
  | .map _ _ es => belowEs P N es
def belowRs (P : Program) (N : Nat) : List Row → Bool
  | [] => true
  | r :: rs => belowR P N r && belowRs P N rs
def Mm.cut (M : Mm) (N : Nat) : Mm := { rows := M.rows.take N, ro := M.ro.filter fun x => Nat.blt x.1 N }
def Fr.cut (fr : Fr) (N : Nat) : Fr := { fr with tf := fr.tf.filter fun x => match x.2 with | .viaR r _ => Nat.blt r N | _ => true }
/-- The rows from N on are dropped, where nobody reaches them. -/
def cutK (P : Program) (N : Nat) (k : Fr → Mm → Option R) (fr : Fr) (M : Mm) : Option R :=
  if allL (belowV P 8 N) fr.tmps && belowRs P N (M.rows.take N) then k (fr.cut N) (M.cut N) else k fr M
/-- What follows a round of a loop. -/
def roundK (P : Program) (N : Nat) (keep : Option (List Nat × List Nat)) (K : AX → Fr → Mm → Option R) (k : Fr → Mm → Option R) : AX → Fr → Mm → Option R :=
  fun e fr M =>
    match keep with
    | none => match e with | .normal => k fr M | e => K e fr M
    | some ks =>
      match e with
      | .normal => cutK P N k (fr.only (some ks.1)) M
      | .panic v => K (.panic v) (fr.only (some ks.2)) M
      | e => cutK P N (K e) (fr.only (some ks.2)) M
/-- Does every operation of a drawn region but the last have one behind it that waits for it? -/
def blocks (ops : Array Oper) : Bool :=
  (List.range (ops.size - 1)).all fun j => (List.range ops.size).any fun k => Nat.blt j k && match ops[k]? with
    | some o => o.after.toList.any fun e => Region.binds .any e && Nat.beq e.on j
    | none => false
def lastO (ops : Array Oper) : Option Oper := ops[ops.size - 1]?
variable (dep : Nat)
/-- Code. -/
def evC : Code → Fr → Mm → (AX → Fr → Mm → Option R) → Option R
  | .skip, fr, M, K => K .normal fr M
  | .label _, fr, M, K => K .normal fr M
  | .region _ ops draw, fr, M, K =>
    if draw || (pureOps cx ops.toList && anyGuard ops.toList) then
      if draw && !(Region.lexB .any ops && cx.P.follows .mixedOrders) then none
      else if draw && !(pureOps cx ops.toList) then
        match lastO ops with
        | some last =>
          if last.guard.isNone && blocks ops then
            evT (opsK cx M ops (ops.toList.take (ops.size - 1)) [] fr.tmps .leaf) (guardsOf ops ops.toList ++ guardDsts ops.toList) (guardsOf ops ops.toList ++ dstsOf ops.toList) fr M
              fun _ fr M => evO cx fn call last fr M (fun fr M => K .normal fr M) (fun v fr M => K (.panic v) fr M)
          else none
        | none => none
      else evT (opsK cx M ops ops.toList [] fr.tmps .leaf) (guardsOf ops ops.toList ++ guardDsts ops.toList) (guardsOf ops ops.toList ++ dstsOf ops.toList) fr M K
    else evS cx fn call ops ops.toList fr M K
  | .seq a b, fr, M, K => evC a fr M fun e fr M => match e with | .normal => evC b fr M K | e => K e fr M
  | .cond c a b, fr, M, K =>
    match opnd cx.P fr.tmps 0 c with
    | .bool t =>
      if pureCode cx a && pureCode cx b then
        evT (.br t (codeK cx M a fr.tmps .leaf) (codeK cx M b fr.tmps .leaf)) (dstsC a ++ dstsC b) (dstsC a ++ dstsC b) fr M K
      else cond t (evC a fr M K) (evC b fr M K)
    | _ => none
  | .block id c, fr, M, K => evC c fr M fun e fr M => match e with | .exit i => if Nat.beq i id then K .normal fr M else K (.exit i) fr M | e => K e fr M
  | .loop c, fr, M, K =>
    match cx.ends dep fn (loopId c) (fr.only ((cx.kept fn (loopId c)).map (·.1))) M with
    | some t => t.go K
    | none => let N := M.rows.length; iter cx.n (fun fr M k => evC c fr M (roundK cx.P N (cx.kept fn (loopId c)) K k)) (fr.only ((cx.kept fn (loopId c)).map (·.1))) M
  | .exit id, fr, M, K => K (.exit id) fr M
  | .ret, fr, M, K => K .ret fr M
  | _, _, _, _ => none
end

def resultsV (P : Program) (M : Mm) (tm : List AV) : List ResultVar → Option (List AV)
  | [] => some []
  | r :: rs =>
    match resultsV P M tm rs with
    | none => none
    | some vs =>
      match r with
      | .tmp t => some (tm.getD t .dead :: vs)
      | .cell a t =>
        match tm.getD a .dead with
        | .ptr r p t' o => match loadV P M t (.ptr r p t' o) with | some v => some (v :: vs) | none => none
        | _ => none
def resultV (P : Program) (M : Mm) (fn : Func) (tm : List AV) : Option AV :=
  match resultsV P M tm fn.results.toList with
  | some [v] => some v
  | some vs => some (.tuple vs)
  | none => none
/-- A call, 'd' calls deep. -/
def evF {R : Type} (cx : Ctx) : Nat → CallH R
  | 0 => fun _ _ _ _ => none
  | d + 1 => fun f args M K =>
    match cx.P.funcs[f]? with
    | none => none
    | some fn =>
      match fn.body with
      | none => none
      | some c =>
        if fn.name == "runtime.NumGoroutine" then none else
        let N := M.rows.length
        evC cx f (evF cx d) d c { tmps := args ++ List.replicate (fn.ntmps - args.length) undefV, tf := [] } M fun e fr M =>
          match e with
          | .normal | .ret => match resultV cx.P M fn fr.tmps with | some v => cutK cx.P N (fun _ M => K (.ret v) M) { tmps := [v], tf := [] } M | none => none
          | .panic v => K (.pan v) M
          | _ => none
/-- What is said of loops holds. -/
def Ctx.Loops (cx : Ctx) : Prop := ∀ (dep : Nat) (f : FuncId) (id : Nat) (fr : Fr) (M : Mm) (t : LT), cx.ends dep f id fr M = some t → ∀ (fn : Func) (body : Code), cx.P.funcs[f]? = some fn → fn.body = some body →
  ∃ l, loopAt body id = some l ∧ ∀ (R : Type) (K : AX → Fr → Mm → Option R) (r : R), t.go K = some r → iter cx.n (fun fr M' k => evC cx f (evF cx dep) dep l fr M' (roundK cx.P M.rows.length (cx.kept f id) K k)) fr M = some r
/-- What rows hold is written out: nothing of the call's own memory may be written any more. -/
def freeze (P : Program) (M : Mm) : Nat → AV → AV
  | 0, _ => .dead
  | d + 1, v =>
    match v with
    | .msl r p e off _ len => if flatT P 20 e then .slice e (sub ((M.rows.getD r (.arr 0 [])).elems p) off (off + len)) false else .dead
    | .slice e l _ => .slice e l false
    | .agg t ps =>
      match P.underlying t with
      | some (.struct fs) => let ps := ps.map (freeze P M d); if fitsAll P (fs.toList.map (·.type)) ps then .agg t ps else .dead
      | some (.array _ e) => if flatT P 20 e then .agg t ps else .dead
      | _ => .dead
    | .tuple vs => .tuple (vs.map (freeze P M d))
    | v => v
/-- Is it of its result types, and those plain? -/
def goodR (P : Program) (ts : List TypeId) (v : AV) : Bool :=
  plainAll P ts &&
  match ts, v with
  | [t], v => fits P t v
  | ts, .tuple vs => fitsAll P ts vs
  | _, _ => false
/-- A function's answer to plain data. -/
def fnV (cx : Ctx) (d : Nat) (f : FuncId) (args : List AV) : Option AV :=
  match cx.P.funcs[f]? with
  | none => none
  | some fn =>
    evF cx d f args { rows := [], ro := [] } fun r M =>
      match r with
      | .ret v => let v := freeze cx.P M 6 v; if goodR cx.P fn.resultTypes.toList v then some v else none
      | .pan _ => none
end Go.AE
