/- A step, plainly. -/
import Derived.Test.YtcknhfnbdgleiaaCor10
set_option linter.unusedVariables false
set_option linter.unusedSimpArgs false
namespace Go.Proofs.Ytcknhfnbdgleiaa
open Go.AE
structure Ef where
 done : Bool
 cpu : Cp
 old : Cp
 word : Nat
 ws : List Wr
 ac : List Ac
 asks : Bool
 ioIn : Bool
 port : Int
 val : Nat
 fl : Int
 flAt : Nat
 trap : Nat
abbrev fZ (x : Ef) : AV := .agg 111 [.bool x.done, dH x.cpu, dH x.old, uv x.word, .slice 42 (x.ws.map wv) false, .slice 116 (x.ac.map bI) false, .bool x.asks, .agg 109 [.bool x.ioIn, .int .i64 x.port, uv x.val], .int .i64 x.fl, uv x.flAt, .int .i64 (x.trap : Int)]
def zCp : Cp := ⟨0, List.replicate 16 0, List.replicate 9 0, false, false, false, 0⟩
def fine (c : Cp) (p : Pt') (w : Nat) (x : Cp) : Ef := ⟨true, x, c, w, p.ws, p.ac, false, false, 0, 0, 0, 0, 0⟩
def fell (c : Cp) (p : Pt') (w cause value epc : Nat) : Ef := ⟨true, cB c cause value epc, c, w, p.ws, p.ac, false, false, 0, 0, 0, 0, cause⟩
def dQ (c : Cp) : Cp := { c with pc := u32 ((c.pc : Int) + 4), waits := false, count := c.count + 1 }
def su (c : Cp) (q : Pt') (w : Nat) (i : In) (p : Nat) : Ef :=
 let x := dQ c
 if 28 <= i.op /\ i.op <= 31 then fine c q w { x with pc := pR c.r i x.pc c.pc }
 else if i.op = 32 \/ i.op = 33 then fine c q w { x with pc := oU c.r i c.pc, r := dI c.r i.a (u32 ((c.pc : Int) + 4)) }
 else if i.op = 42 \/ i.op = 43 then (if (iF x i p).2 = 0 then fine c q w (iF x i p).1 else fell c q w 2 w c.pc)
 else if i.op = 44 then { fine c q w x with fl := if i.b = 0 then 2 else 1, flAt := if i.b = 0 then 0 else ru c.r i.b }
 else if i.op = 46 \/ i.op = 47 then { fine c q w x with asks := true, ioIn := i.op == 46, port := i.aG, val := if i.op = 46 then 0 else ru c.r i.a }
 else if i.op = 40 then fell c q w 1 0 (u32 ((c.pc : Int) + 4))
 else fine c q w (mK x i)
def yU (c : Cp) (q : Pt') (w : Nat) (i : In) (kind size : Nat) : Ef :=
 let x := dQ c
 let va := bD c.r i
 let W := fI q c.c c.user va kind
 let p1 := kI q W
 let n := W.at'.toNat
 if va % size ≠ 0 then fell c q w 3 va c.pc
 else if W.cause ≠ 0 then fell c p1 w W.cause va c.pc
 else if kind = 2 then fine c (stP p1 ⟨n, size, ru c.r i.a⟩) w x
 else if kind = 1 then fine c (kG p1 n size) w { x with r := dI c.r i.a (gG p1.m n size) }
 else fine c (stP (kG p1 n size) ⟨n, size, ru c.r i.a⟩) w { x with r := dI c.r i.a (gG p1.m n size) }
def fB (c : Cp) (m : av) (p : Nat) : Ef :=
 if nQ c p = false then ⟨false, c, zCp, 0, [], [], false, false, 0, 0, 0, 0, 0⟩
 else match due c p with
 | some n => fell c ⟨m, [], []⟩ 0 (16 + n) 0 c.pc
 | none =>
  if c.pc % 4 ≠ 0 then fell c ⟨m, [], []⟩ 0 3 c.pc c.pc
  else if (bW m c.c c.pc c.user).cause ≠ 0 then fell c (mM m c.c c.pc c.user) 0 (bW m c.c c.pc c.user).cause c.pc c.pc
  else if legal m c.c c.pc c.user = false then fell c (eD m c.c c.pc c.user) (word m c.c c.pc c.user) 2 (word m c.c c.pc c.user) c.pc
  else if (eG (bN (word m c.c c.pc c.user)).op).1 ≠ 0 then yU c (eD m c.c c.pc c.user) (word m c.c c.pc c.user) (bN (word m c.c c.pc c.user)) (eG (bN (word m c.c c.pc c.user)).op).1 (eG (bN (word m c.c c.pc c.user)).op).2
  else su c (eD m c.c c.pc c.user) (word m c.c c.pc c.user) (bN (word m c.c c.pc c.user)) p
end Go.Proofs.Ytcknhfnbdgleiaa
