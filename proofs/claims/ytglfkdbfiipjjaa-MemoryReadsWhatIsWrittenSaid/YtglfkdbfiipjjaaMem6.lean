/- The memory's laws, in terms of what the functions return. -/
import Derived.Test.YtglfkdbfiipjjaaMem5
set_option linter.unusedVariables false
namespace Go.Proofs.Ytglfkdbfiipjjaa
open Go.AE
/-- What the functions return, as their callers know it. -/
structure Fn6 where
  ok : List AV → Bool
  okd : List AV → Bool
  vld : List AV → Bool
  ld : List AV → Int → Int → Int
  ldB : List AV → Int → Int → Bool
  rld : List AV → Int → Int → Int
  rldB : List AV → Int → Int → Bool
  st : List AV → Int → Int → Int → List AV
  stB : List AV → Int → Int → Int → Bool
  rst : List AV → Int → Int → Int → List AV
  rstB : List AV → Int → Int → Int → Bool
  ap : List AV → List AV → List AV
  apB : List AV → List AV → Bool
  rap : List AV → List AV → List AV
  rapB : List AV → List AV → Bool
  wok : List AV → Bool
  df : List AV → List AV → List AV
  rdf : List AV → List AV → List AV
  sm : List AV → List AV → Bool
  si : List AV → List AV → Bool
  siOK : List AV → List AV → Bool
  rd : List AV → Int → Int → List UInt8
  rdB : List AV → Int → Int → Bool
  rrd : List AV → Int → Int → List UInt8
  rrdB : List AV → Int → Int → Bool
  wr : List AV → Int → List UInt8 → List AV
  wrB : List AV → Int → List UInt8 → Bool
  rwr : List AV → Int → List UInt8 → List AV
  rwrB : List AV → Int → List UInt8 → Bool
  nw : Int → List AV
  nwE : Int → Int
  rnw : Int → List AV
  rnwE : Int → Int
  sz : List AV → Int
def spec0 (F : Fn6) (f : FuncId) (args : List AV) : Option (Bool × AV) :=
  match f with
  | 9 => match args with
    | [] => some (true, .bool true)
    | _ => some (false, .dead)
  | 10 => match args with
    | [.agg 23 [.slice 72 l false]] => some (true, .bool (F.vld l))
    | _ => some (false, .dead)
  | 11 => match args with
    | [.agg 23 [.slice 72 l false]] => some (true, .bool (F.vld l))
    | _ => some (false, .dead)
  | 12 => match args with
    | [.agg 23 [.slice 72 l false], .int .i64 a, .int .i64 s] => some (F.ok l, .tuple [.int .u32 (F.ld l a s), .bool (F.ldB l a s)])
    | _ => some (false, .dead)
  | 13 => match args with
    | [.agg 23 [.slice 72 l false], .agg 26 [.int .i64 a, .int .i64 s, .int .u32 v]] => some (F.ok l, .tuple [Mv (F.st l a s v), .bool (F.stB l a s v)])
    | _ => some (false, .dead)
  | 14 => match args with
    | [.agg 23 [.slice 72 l false], .int .i64 a, .int .i64 s] => some (F.ok l, .agg 34 [.int .u32 (F.rld l a s), .bool (F.rldB l a s)])
    | _ => some (false, .dead)
  | 15 => match args with
    | [.agg 23 [.slice 72 l false], .agg 26 [.int .i64 a, .int .i64 s, .int .u32 v]] => some (F.ok l, .agg 37 [Mv (F.rst l a s v), .bool (F.rstB l a s v)])
    | _ => some (false, .dead)
  | 16 => match args with
    | [.agg 23 [.slice 72 l false]] => some (true, .int .i64 (F.sz l))
    | _ => some (false, .dead)
  | 17 => match args with
    | [.agg 23 [.slice 72 l false]] => some (true, .int .i64 (F.sz l))
    | _ => some (false, .dead)
  | 18 => match args with
    | [.agg 23 [.slice 72 a false], .agg 23 [.slice 72 b false]] => some (F.okd a && F.okd b, .bool (F.sm a b))
    | _ => some (false, .dead)
  | 19 => match args with
    | [.agg 23 [.slice 72 a false], .agg 23 [.slice 72 b false]] => some (F.okd a && F.okd b, .slice 3 (F.df a b) false)
    | _ => some (false, .dead)
  | 20 => match args with
    | [.slice 3 a false, .slice 3 b false] => some (F.siOK a b, .bool (F.si a b))
    | _ => some (false, .dead)
  | 21 => match args with
    | [.agg 23 [.slice 72 l false], .int .i64 a, .int .i64 n] => some (F.ok l, .tuple [.str (F.rd l a n), .bool (F.rdB l a n)])
    | _ => some (false, .dead)
  | 22 => match args with
    | [.int .i64 n] => some (true, .tuple [Mv (F.nw n), .int .i64 (F.nwE n)])
    | _ => some (false, .dead)
  | 23 => match args with
    | [.agg 23 [.slice 72 l false], .int .i64 a, .str s] => some (F.ok l, .tuple [Mv (F.wr l a s), .bool (F.wrB l a s)])
    | _ => some (false, .dead)
  | 24 => match args with
    | [.agg 23 [.slice 72 l false], .slice 27 ws _] => some (F.ok l && F.wok ws, .tuple [Mv (F.ap l ws), .bool (F.apB l ws)])
    | _ => some (false, .dead)
  | 25 => match args with
    | [.int .i64 n] => some (true, .agg 56 [Mv (F.rnw n), .int .i64 (F.rnwE n)])
    | _ => some (false, .dead)
  | 26 => match args with
    | [.agg 23 [.slice 72 l false], .int .i64 a, .int .i64 n] => some (F.ok l, .agg 59 [.str (F.rrd l a n), .bool (F.rrdB l a n)])
    | _ => some (false, .dead)
  | 27 => match args with
    | [.agg 23 [.slice 72 l false], .int .i64 a, .str s] => some (F.ok l, .agg 37 [Mv (F.rwr l a s), .bool (F.rwrB l a s)])
    | _ => some (false, .dead)
  | 28 => match args with
    | [.agg 23 [.slice 72 l false], .slice 27 ws _] => some (F.ok l && F.wok ws, .agg 37 [Mv (F.rap l ws), .bool (F.rapB l ws)])
    | _ => some (false, .dead)
  | 29 => match args with
    | [.agg 23 [.slice 72 a false], .agg 23 [.slice 72 b false]] => some (F.okd a && F.okd b, .slice 3 (F.rdf a b) false)
    | _ => some (false, .dead)
  | _ => none
def rank (f : FuncId) : Nat :=
  match f with
  | 9 | 10 | 11 | 12 | 14 | 15 | 16 | 17 | 19 | 20 | 21 | 22 | 23 | 24 | 25 | 26 | 27 | 29 => 0
  | 13 | 18 | 28 => 1
  | _ => 9
/-- Stores of the specification, one after the other: what is there before each, and whether all are done. -/
def rapN (F : Fn6) : List AV → List AV → List AV × Bool
  | [], cur => (cur, true)
  | w :: ws, cur => cond (F.rstB cur (wA w) (wS w) (wV w)) (rapN F ws (F.rst cur (wA w) (wS w) (wV w))) (F.rst cur (wA w) (wS w) (wV w), false)
def rapOK (F : Fn6) : List AV → List AV → Bool
  | [], cur => true
  | w :: ws, cur => cond (F.ok cur) (cond (F.rstB cur (wA w) (wS w) (wV w)) (rapOK F ws (F.rst cur (wA w) (wS w) (wV w))) true) false
def fr28 (ws : List AV) (i : Int) : Fr := mkFr 28 [(1, .slice 27 ws false), (2, .ptr 0 [] 24 0), (4, .ptr 1 [] 38 0), (5, .ptr 2 [] 38 0), (6, .int .i64 i)] []
def fx28 : Fr := mkFr 28 [(4, .ptr 1 [] 38 0), (5, .ptr 2 [] 38 0)] []
def rows28 (m : List AV) (z : AV) (cur : List AV) (b : Bool) : List Row := [.var 24 (Mv m), .var 38 z, .var 38 (.agg 37 [Mv cur, .bool b])]
def z38 : AV := .agg 37 [Zv, .bool false]
def lp28 (F : Fn6) (fr : Fr) (M : Mm) : Option LT :=
  if okFr 28 [1, 2, 4, 5, 6] fr then
    match fr.tmps.getD 1 .dead, fr.tmps.getD 2 .dead, fr.tmps.getD 4 .dead, fr.tmps.getD 5 .dead, fr.tmps.getD 6 .dead, fr.tf, M with
    | .slice 27 ws false, .ptr 0 [] 24 0, .ptr 1 [] 38 0, .ptr 2 [] 38 0, .int .i64 i, [], ⟨[.var 24 (.agg 23 [.slice 72 m false]), .var 38 (.agg 37 [.agg 23 [.slice 72 [] true], .bool false]), .var 38 (.agg 37 [.agg 23 [.slice 72 cur false], .bool true])], []⟩ =>
      if i = 0 then some (.br (rapOK F ws cur && decide (ws.length < 1000)) (.br (rapN F ws cur).2 (.done (.exit 0) fx28 ⟨rows28 m z38 (rapN F ws cur).1 true, []⟩) (.done .ret fx28 ⟨rows28 m (.agg 37 [Mv m, .bool false]) (rapN F ws cur).1 false, []⟩)) .fail) else none
    | _, _, _, _, _, _, _ => none
  else none
/-- Are the next j numbers ascending? -/
def ascN (d : List AV) : Nat → Nat → Bool
  | 0, _ => true
  | j + 1, i => !(decide (intOf (d.getD i .dead) ≤ intOf (d.getD (i - 1) .dead))) && ascN d j (i + 1)
def fr5 (d : List AV) (i : Int) : Fr := mkFr 114 [(3, .ptr 0 [] 24 0), (4, .ptr 1 [] 24 0), (5, .ptr 2 [] 27 0), (6, .bool false), (7, .slice 3 d false), (8, .int .i64 i)] []
def fx5 (d : List AV) : Fr := mkFr 114 [(3, .ptr 0 [] 24 0), (4, .ptr 1 [] 24 0), (5, .ptr 2 [] 27 0), (6, .bool false), (7, .slice 3 d false)] []
def rows5 (a b : List AV) (wa ws wv : Int) : List Row := [.var 24 (Mv a), .var 24 (Mv b), .var 27 (Wv wa ws wv)]
def lp5 (fr : Fr) (M : Mm) : Option LT :=
  if okFr 114 [3, 4, 5, 6, 7, 8] fr then
    match fr.tmps.getD 3 .dead, fr.tmps.getD 4 .dead, fr.tmps.getD 5 .dead, fr.tmps.getD 6 .dead, fr.tmps.getD 7 .dead, fr.tmps.getD 8 .dead, fr.tf, M with
    | .ptr 0 [] 24 0, .ptr 1 [] 24 0, .ptr 2 [] 27 0, .bool false, .slice 3 d false, .int .i64 i, [], ⟨[.var 24 (.agg 23 [.slice 72 a false]), .var 24 (.agg 23 [.slice 72 b false]), .var 27 (.agg 26 [.int .i64 wa, .int .i64 ws, .int .u32 wv])], []⟩ =>
      if i = 1 then some (.br (decide (d.length < 5000)) (.br (ascN d (d.length - 1) 1) (.done (.exit 0) (fx5 d) ⟨rows5 a b wa ws wv, []⟩) (.done .ret (fx5 d) ⟨rows5 a b wa ws wv, []⟩)) .fail) else none
    | _, _, _, _, _, _, _, _ => none
  else none
noncomputable def cxG (F : Fn6) (lv : Nat) : Ctx where
  P := Try.checked.prog
  n := 10000
  muta := fun f => match f with | 33 | 34 => true | _ => false
  spec := fun f args => if Nat.blt (rank f) lv then spec0 F f args else none
  kept := (fun f id => match lv, f, id with
    | 1, 28, 3 => some ([1, 2, 4, 5, 6], [4, 5])
    | 2, 5, 7 => some ([3, 4, 5, 6, 7, 8], [3, 4, 5, 6, 7])
    | _, _, _ => none)
  ends := (fun dep f id fr M => match lv, f, id with
    | 1, 28, 3 => lp28 F fr M
    | 2, 5, 7 => lp5 fr M
    | _, _, _ => none)
noncomputable def code28 : Code := ((Try.f28.body.bind fun c => loopAt c 3).getD .skip)
set_option maxRecDepth 100000 in
theorem round28 {R : Type} (F : Fn6) (call : CallH R) (dep : Nat) (K : AX → Fr → Mm → Option R) (kk : Fr → Mm → Option R) (m cur ws : List AV) (b : Bool) (i : Int) :
    evC (cxG F 1) 28 call dep code28 (fr28 ws i) ⟨rows28 m z38 cur b, []⟩ (roundK Try.checked.prog 3 (some ([1, 2, 4, 5, 6], [4, 5])) K kk) =
    cond (decide (i < (ws.length : Int))) (
      let w := ws.getD i.toNat .dead
      cond (cond (inB i ws.length) (cond (F.ok cur) true false) false)
       (cond (!(F.rstB cur (wA w) (wS w) (wV w)))
         (K .ret fx28 ⟨rows28 m (.agg 37 [Mv m, .bool false]) (F.rst cur (wA w) (wS w) (wV w)) (F.rstB cur (wA w) (wS w) (wV w)), []⟩)
         (kk (fr28 ws (IntKind.i64.wrap (i + 1))) ⟨rows28 m z38 (F.rst cur (wA w) (wS w) (wV w)) (F.rstB cur (wA w) (wS w) (wV w)), []⟩)) none)
     (K (.exit 0) fx28 ⟨rows28 m z38 cur b, []⟩) := by kernel_rfl
set_option maxRecDepth 100000 in
theorem v28 (F : Fn6) (l ws : List AV) : fnV (cxG F 1) 6 28 [Mv l, .slice 27 ws false] = cond (rapOK F ws l && decide (ws.length < 1000)) (cond (rapN F ws l).2 (some (.agg 37 [Mv (rapN F ws l).1, .bool true])) (some (.agg 37 [Mv l, .bool false]))) none := by kernel_rfl
set_option maxRecDepth 100000 in
theorem v13 (F : Fn6) (l : List AV) (a s v : Int) : fnV (cxG F 1) 6 13 [Mv l, Wv a s v] = cond (F.ok l && F.wok [Wv a s v]) (some (.tuple [Mv (F.ap l [Wv a s v]), .bool (F.apB l [Wv a s v])])) none := by kernel_rfl
set_option maxRecDepth 100000 in
theorem v18 (F : Fn6) (a b : List AV) : fnV (cxG F 1) 6 18 [Mv a, Mv b] = cond (F.okd a && F.okd b) (some (.bool (((F.rdf a b).length : Int) == 0))) none := by kernel_rfl
set_option maxRecDepth 100000 in
theorem v9 : fnV cx0 6 9 [] = some (.bool true) := by kernel_rfl
noncomputable def code5 : Code := ((Try.f5.body.bind fun c => loopAt c 7).getD .skip)
set_option maxRecDepth 100000 in
theorem round5 {R : Type} (F : Fn6) (call : CallH R) (dep : Nat) (K : AX → Fr → Mm → Option R) (kk : Fr → Mm → Option R) (a b d : List AV) (wa ws wv i : Int) :
    evC (cxG F 2) 5 call dep code5 (fr5 d i) ⟨rows5 a b wa ws wv, []⟩ (roundK Try.checked.prog 3 (some ([3, 4, 5, 6, 7, 8], [3, 4, 5, 6, 7])) K kk) =
    cond (decide (i < (d.length : Int))) (cond (cond (inB i d.length) (cond (inB (IntKind.i64.wrap (i - 1)) d.length) true false) false)
      (cond (decide (intOf (d.getD i.toNat .dead) ≤ intOf (d.getD (IntKind.i64.wrap (i - 1)).toNat .dead))) (K .ret (fx5 d) ⟨rows5 a b wa ws wv, []⟩)
        (kk (fr5 d (IntKind.i64.wrap (i + 1))) ⟨rows5 a b wa ws wv, []⟩)) none)
     (K (.exit 0) (fx5 d) ⟨rows5 a b wa ws wv, []⟩) := by kernel_rfl
end Go.Proofs.Ytglfkdbfiipjjaa
