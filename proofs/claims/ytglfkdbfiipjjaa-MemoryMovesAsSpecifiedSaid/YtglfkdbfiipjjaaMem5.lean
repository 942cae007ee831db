/- The memory's functions, as the abstract evaluator has them. -/
import Derived.Test.YtglfkdbfiipjjaaMem4
set_option linter.unusedVariables false
set_option linter.unusedSimpArgs false
namespace Go.Proofs.Ytglfkdbfiipjjaa
open Go.AE
abbrev OV := Option AV
def szI (n : Nat) : Int := IntKind.i64.wrap ((n : Int) * 128)
def rthereK {X : Type} (n : Nat) (a s : Int) (k : Bool → Option X) : Option X :=
  cond (cond (s != 1) (s != 4) false) (k false)
    (cond (decide (0 ≤ a)) (cond (!(s == 0)) (cond (a.tmod s == 0) (k (decide (a ≤ IntKind.i64.wrap (szI n - s)))) (k false)) none) (k false))
set_option maxRecDepth 100000 in
theorem v10 (l : List AV) : fnV cxE 6 10 [Mv l] = some (.bool (decide (1 ≤ (l.length : Int)) && decide ((l.length : Int) ≤ 64))) := by kernel_rfl
set_option maxRecDepth 100000 in
theorem v11 (l : List AV) : fnV cxE 6 11 [Mv l] = some (.bool (decide (1 ≤ (l.length : Int)) && decide ((l.length : Int) ≤ 64))) := by kernel_rfl
set_option maxRecDepth 100000 in
theorem v16 (l : List AV) : fnV cxE 6 16 [Mv l] = some (.int .i64 (szI l.length)) := by kernel_rfl
set_option maxRecDepth 100000 in
theorem v17 (l : List AV) : fnV cxE 6 17 [Mv l] = some (.int .i64 (szI l.length)) := by kernel_rfl
/-- What Load makes of a page's bytes. -/
def ldF (l : List AV) (a s : Int) : OV :=
  cond (inB (IntKind.i64.wrap (a.tdiv 128)) l.length)
   (cond (decide (0 ≤ a.tmod 128) && decide (a.tmod 128 ≤ ((128 : Nat) : Int)))
    (let b := sub (partsOf (l.getD (IntKind.i64.wrap (a.tdiv 128)).toNat .dead)) (a.tmod 128).toNat 128
     let x (i : Nat) := IntKind.u32.wrap (intOf (b.getD i .dead))
     cond (s == 1) (cond (inB 0 b.length) (some (.tuple [.int .u32 (x 0), .bool true])) none)
     (cond (cond (inB 0 b.length) (cond (inB 1 b.length) (cond (inB 2 b.length) (cond (inB 3 b.length) true false) false) false) false)
       (some (.tuple [.int .u32 (ibits .or .u32 (ibits .or .u32 (ibits .or .u32 (x 0) (IntKind.u32.wrap (x 1 * 2 ^ min (8 : Int).toNat 32))) (IntKind.u32.wrap (x 2 * 2 ^ min (16 : Int).toNat 32))) (IntKind.u32.wrap (x 3 * 2 ^ min (24 : Int).toNat 32))), .bool true])) none))
    none) none
set_option maxRecDepth 100000 in
theorem v12 (l : List AV) (a s : Int) : fnV cxE 6 12 [Mv l, .int .i64 a, .int .i64 s] = thereK l.length a s fun b => cond (!b) (some (.tuple [.int .u32 0, .bool false])) (ldF l a s) := by kernel_rfl
set_option maxRecDepth 100000 in
theorem v14 (l : List AV) (a s : Int) : fnV cxE 6 14 [Mv l, .int .i64 a, .int .i64 s] = rthereK l.length a s fun b => cond (!b) (some (.agg 34 [.int .u32 0, .bool false]))
    (let i := IntKind.i64.wrap (s - 1)
     cond (decide (0 ≤ a) && (decide (0 ≤ i) && (decide (a + i < 128 * (l.length : Int)) && decide (l.length ≤ 64)))) (some (.agg 34 [.int .u32 (rlN l a.toNat (i.toNat + 1) 0), .bool true])) none) := by kernel_rfl
/-- A copy of pages is made: there are some, and not too many. -/
def clone {X : Type} (l : List AV) (k : Option X) : Option X := cond (decide (0 < l.length)) (cond (decide ((0 + l.length) * 128 ≤ 140737488355328)) (cond (decide (0 < l.length)) k none) none) none
def clone2 {X : Type} (l : List AV) (k : Option X) : Option X := cond (decide ((0 + l.length) * 128 ≤ 140737488355328)) (cond (decide (0 < l.length)) k none) none
def Mn (p : List AV) (n : Nat) : AV := .agg 23 [.slice 72 (sub p 0 (0 + n)) false]
set_option maxRecDepth 100000 in
theorem v24 (l ws : List AV) : fnV cxE 6 24 [Mv l, .slice 27 ws false] = clone l
   (cond (decide ((ws.length : Int) = (ws.length : Int)) && (decide (l.length = l.length) && (decide (l.length ≤ 64) && decide (ws.length < 1000))))
     (cond (appL l.length ws l).2 (some (.tuple [Mn (appL l.length ws l).1 l.length, .bool true])) (some (.tuple [Mv l, .bool false]))) none) := by kernel_rfl
set_option maxRecDepth 100000 in
theorem v15 (l : List AV) (a s v : Int) : fnV cxE 6 15 [Mv l, Wv a s v] = rthereK l.length a s fun b => cond (!b) (some (.agg 37 [Mv l, .bool false]))
   (clone2 l (cond (decide (0 ≤ a) && (decide (0 ≤ s) && (decide (s ≤ 4) && (decide (a + s ≤ 128 * (l.length : Int)) && decide (l.length ≤ 64))))) (some (.agg 37 [Mn (rsN l a.toNat v s.toNat) l.length, .bool true])) none)) := by kernel_rfl
set_option maxRecDepth 100000 in
theorem v19 (a b : List AV) : fnV cxE 6 19 [Mv a, Mv b] = cond (decide (0 ≤ maxI a b) && decide (maxI a b < 1000)) (some (.slice 3 (dfN a b (maxI a b).toNat) false)) none := by kernel_rfl
set_option maxRecDepth 100000 in
theorem v29 (a b : List AV) : fnV cxE 6 29 [Mv a, Mv b] = cond (decide (maxI a b < 1000)) (some (.slice 3 (dfN a b (maxI a b).toNat) false)) none := by kernel_rfl
set_option maxRecDepth 100000 in
theorem v20 (a b : List AV) : fnV cxE 6 20 [.slice 3 a false, .slice 3 b false] = cond ((a.length : Int) != (b.length : Int)) (some (.bool false)) (cond (decide (a.length = b.length) && decide (a.length < 5000)) (cond (saN a b a.length 0) (some (.bool true)) (some (.bool false))) none) := by kernel_rfl
set_option maxRecDepth 100000 in
theorem v21 (m : List AV) (a n : Int) : fnV cxE 6 21 [Mv m, .int .i64 a, .int .i64 n] =
  (let no : OV := some (.tuple [.str [], .bool false])
   let y : OV := cond (decide (0 ≤ n) && decide (n * 1 ≤ 140737488355328) && decide (n ≤ 140737488355328)) (cond (decide (0 ≤ a) && (decide (0 ≤ n) && (decide (a + n ≤ 128 * (m.length : Int)) && (decide (m.length ≤ 64) && wfP m)))) (some (.tuple [.str ((rdN m a.toNat n.toNat n.toNat []).map Go.AE.byteOf), .bool true])) none) none
   cond (decide (a < 0)) no (cond (decide (n < 0)) no (cond (decide (szI m.length < a)) no (cond (decide (IntKind.i64.wrap (szI m.length - a) < n)) no y)))) := by kernel_rfl
set_option maxRecDepth 100000 in
theorem v26 (m : List AV) (a n : Int) : fnV cxE 6 26 [Mv m, .int .i64 a, .int .i64 n] =
  (let no : OV := some (.agg 59 [.str [], .bool false])
   let y : OV := cond (decide (0 ≤ a) && (decide (0 ≤ n) && (decide (a + n ≤ 128 * (m.length : Int)) && decide (m.length ≤ 64)))) (some (.agg 59 [.str ((rrN m a.toNat n.toNat).map Go.AE.byteOf), .bool true])) none
   cond (decide (a < 0)) no (cond (decide (n < 0)) no (cond (decide (szI m.length < a)) no (cond (decide (IntKind.i64.wrap (szI m.length - a) < n)) no y)))) := by kernel_rfl
set_option maxRecDepth 100000 in
theorem v23 (l : List AV) (a : Int) (s : List UInt8) : fnV cxE 6 23 [Mv l, .int .i64 a, .str s] = 
  (let no : OV := some (.tuple [Mv l, .bool false])
   let y : OV := clone l (cond (putOK l.length a (s.map byteAV)) (some (.tuple [Mn (putP l a.toNat (s.map byteAV)) l.length, .bool true])) none)
   cond (decide (a < 0)) no (cond (decide (szI l.length < a)) no (cond (decide (IntKind.i64.wrap (szI l.length - a) < (s.length : Int))) no y))) := by kernel_rfl
set_option maxRecDepth 100000 in
theorem v27 (l : List AV) (a : Int) (s : List UInt8) : fnV cxE 6 27 [Mv l, .int .i64 a, .str s] = 
  (let no : OV := some (.agg 37 [Mv l, .bool false])
   let y : OV := clone2 l (cond (decide (0 ≤ a) && (decide (a + (s.length : Int) ≤ 128 * (l.length : Int)) && decide (l.length ≤ 64))) (some (.agg 37 [Mn (rwN l a.toNat s s.length) l.length, .bool true])) none)
   cond (decide (a < 0)) no (cond (decide (szI l.length < a)) no (cond (decide (IntKind.i64.wrap (szI l.length - a) < (s.length : Int))) no y))) := by kernel_rfl
set_option maxRecDepth 100000 in
theorem v22 (n : Int) : fnV cxE 6 22 [.int .i64 n] = cond (cond (decide (n < 1)) true (decide (64 < n))) (some (.tuple [.agg 23 [.slice 72 [] false], .int .i64 1]))
   (cond (decide (0 ≤ n) && decide (n * 128 ≤ 140737488355328) && decide (n ≤ 140737488355328)) (some (.tuple [.agg 23 [.slice 72 (sub (List.replicate n.toNat (zero Try.checked.prog 72)) 0 (0 + n.toNat)) false], .int .i64 0])) none) := by kernel_rfl
set_option maxRecDepth 100000 in
theorem v25 (n : Int) : fnV cxE 6 25 [.int .i64 n] = cond (cond (decide (n < 1)) true (decide (64 < n))) (some (.agg 56 [.agg 23 [.slice 72 [] false], .int .i64 1]))
   (cond (decide (0 ≤ n) && decide (n * 128 ≤ 140737488355328) && decide (n ≤ 140737488355328)) (some (.agg 56 [.agg 23 [.slice 72 (sub (List.replicate n.toNat (zero Try.checked.prog 72)) 0 (0 + n.toNat)) false], .int .i64 0])) none) := by kernel_rfl
end Go.Proofs.Ytglfkdbfiipjjaa
