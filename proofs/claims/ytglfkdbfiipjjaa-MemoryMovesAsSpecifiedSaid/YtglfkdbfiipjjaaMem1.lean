/- The memory: what is known of its loops, and one round of each. -/
import Derived.Test.YtglfkdbfiipjjaaEv32
import Derived.Test.YtglfkdbfiipjjaaRows
set_option linter.unusedVariables false
namespace Go.Proofs.Ytglfkdbfiipjjaa
open Go.AE
noncomputable def cx0 : Ctx where
  P := Try.checked.prog
  n := 10000
  muta := fun f => match f with | 33 | 34 => true | _ => false
  spec := fun _ _ => none
abbrev Mv (l : List AV) : AV := .agg 23 [.slice 72 l false]
abbrev Zv : AV := .agg 23 [.slice 72 [] true]
abbrev Wv (a s v : Int) : AV := .agg 26 [.int .i64 a, .int .i64 s, .int .u32 v]
/-- The byte at a place of a page. -/
def byAt (l : List AV) (i j : Int) : Int := intOf ((partsOf (l.getD i.toNat .dead)).getD j.toNat .dead)
/-- A page with other bytes from a place on. -/
def pageSet (pages : List AV) (i a : Nat) (d : List AV) : List AV :=
  pages.set i (.agg (aggT (pages.getD i .dead)) ((partsOf (pages.getD i .dead)).take a ++ (d ++ (partsOf (pages.getD i .dead)).drop (a + d.length))))
/-- Pages with other bytes from an address on. -/
def putL : Nat → List AV → Nat → List AV → List AV
  | 0, pages, _, _ => pages
  | f + 1, pages, a, d =>
    if d.length = 0 then pages else
    let k := min d.length (128 - a % 128)
    putL f (pageSet pages (a / 128) (a % 128) (d.take k)) (a + k) (d.drop k)
def putP (pages : List AV) (a : Nat) (d : List AV) : List AV := putL d.length pages a d
/-- Pages with another byte. -/
def byteSet (pages : List AV) (i j : Nat) (v : AV) : List AV := pages.set i (setP [j] v (pages.getD i .dead))
def bytes4 (v : Int) : List AV := [.int .u8 (IntKind.u8.wrap v), .int .u8 (IntKind.u8.wrap (v.fdiv (2 ^ min (8 : Int).toNat 32))), .int .u8 (IntKind.u8.wrap (v.fdiv (2 ^ min (16 : Int).toNat 32))), .int .u8 (IntKind.u8.wrap (v.fdiv (2 ^ min (24 : Int).toNat 32)))]
def wA (w : AV) : Int := intOf ((partsOf w).getD 0 .dead)
def wS (w : AV) : Int := intOf ((partsOf w).getD 1 .dead)
def wV (w : AV) : Int := intOf ((partsOf w).getD 2 .dead)
def thereK {X : Type} (n : Nat) (a s : Int) (k : Bool → Option X) : Option X :=
  let x := cond (decide (0 ≤ a)) (cond (!(s == 0)) (cond (a.tmod s == 0) (k (decide (a ≤ IntKind.i64.wrap (IntKind.i64.wrap ((n : Int) * 128) - s)))) (k false)) none) (k false)
  cond (s == 1) x (cond (s == 4) x (k false))
/-- Is a place there, in n pages? -/
def thereB (n : Nat) (a s : Int) : Bool :=
  let x := cond (decide (0 ≤ a)) (cond (a.tmod s == 0) (decide (a ≤ IntKind.i64.wrap (IntKind.i64.wrap ((n : Int) * 128) - s))) false) false
  cond (s == 1) x (cond (s == 4) x false)
/-- What stores do, one after the other; false: one of them is not there. -/
def appL (n : Nat) : List AV → List AV → List AV × Bool
  | [], pages => (pages, true)
  | w :: ws, pages => cond (thereB n (wA w) (wS w)) (appL n ws (putP pages (wA w).toNat (sub (bytes4 (wV w)) 0 (wS w).toNat))) (pages, false)
def differs (a b : List AV) (i : Int) : Bool := cond (decide ((a.length : Int) ≤ i)) true (cond (decide ((b.length : Int) ≤ i)) true (!(eqVs (partsOf (a.getD i.toNat .dead)) (partsOf (b.getD i.toNat .dead)))))
def diffOK (a b : List AV) (i : Int) : Bool := condB (decide ((a.length : Int) ≤ i)) true (condB (decide ((b.length : Int) ≤ i)) true (cond (inB i a.length) (cond (inB i b.length) true false) false))
/-- The pages below k that differ. -/
def dfN (a b : List AV) : Nat → List AV
  | 0 => []
  | k + 1 => cond (differs a b (k : Int)) (dfN a b k ++ [.int .i64 (k : Int)]) (dfN a b k)
/-- Do two lists of numbers agree at the next j places? -/
def saN (a b : List AV) : Nat → Nat → Bool
  | 0, _ => true
  | j + 1, k => !(intOf (a.getD k .dead) != intOf (b.getD k .dead)) && saN a b j (k + 1)
/-- The byte at an address. -/
def byN (l : List AV) (a : Nat) : Int := byAt l ((a / 128 : Nat) : Int) ((a % 128 : Nat) : Int)
/-- k bytes from an address on, by one. -/
def rrN (m : List AV) (a : Nat) : Nat → List AV
  | 0 => []
  | k + 1 => rrN m a k ++ [.int .u8 (byN m (a + k))]
/-- A number of k bytes. -/
def rlN (m : List AV) (a : Nat) : Nat → Int → Int
  | 0, n => n
  | k + 1, n => rlN m a k (ibits .or .u32 (IntKind.u32.wrap (n * 2 ^ min (8 : Int).toNat 32)) (IntKind.u32.wrap (byN m (a + k))))
/-- k bytes of a number stored, by one. -/
def rsN (pages : List AV) (a : Nat) (v : Int) : Nat → List AV
  | 0 => pages
  | k + 1 => byteSet (rsN pages a v k) ((a + k) / 128) ((a + k) % 128) (.int .u8 (IntKind.u8.wrap (v.fdiv (2 ^ min (8 * k) 32))))
/-- k bytes of a text written, by one. -/
def rwN (pages : List AV) (a : Nat) (s : List UInt8) : Nat → List AV
  | 0 => pages
  | k + 1 => byteSet (rwN pages a s k) ((a + k) / 128) ((a + k) % 128) (.int .u8 ((s.getD k 0).toNat : Int))
/-- Bytes from an address on, page by page. -/
def rdN (m : List AV) (a n : Nat) : Nat → List AV → List AV
  | 0, out => out
  | f + 1, out =>
    if out.length < n then
      let p := a + out.length
      let o := p % 128
      rdN m a n f (out ++ sub (partsOf (m.getD (p / 128) .dead)) o (o + min (128 - o) (n - out.length)))
    else out
def wfP (m : List AV) : Bool := m.all fun p => decide ((partsOf p).length = 128)
/-! loops -/
def fr35 (r : Nat) (at' d : AV) : Fr := mkFr 26 [(1, at'), (2, d), (3, .ptr r [] 77 0)] []
def rowsW (m z dd : AV) (pages : List AV) (n : Nat) : List Row := [.var 24 m, .var 24 z, .arr 72 pages, .var 77 dd, .var 77 (.agg 76 [.msl 2 [] 72 0 0 n])]
def rowsS (m z : AV) (pages : List AV) (dd w dd' w' : AV) (n : Nat) : List Row := [.var 24 m, .var 24 z, .arr 72 pages, .var 77 dd, .var 27 w, .var 77 dd', .var 27 w', .var 77 (.agg 76 [.msl 2 [] 72 0 0 n])]
def putOK (n : Nat) (a : Int) (d : List AV) : Bool := decide (0 ≤ a) && (decide (a + (d.length : Int) ≤ 128 * (n : Int)) && decide (n ≤ 64))
/-- The memory that a put begins with. -/
def lp35 (fr : Fr) (M : Mm) : Option LT :=
  if okFr 26 [1, 2, 3] fr then
    match fr.tmps.getD 1 .dead, fr.tmps.getD 2 .dead, fr.tmps.getD 3 .dead, fr.tf, M with
    | .int .i64 a, .slice 5 d false, .ptr r [] 77 0, [], ⟨[.var 24 (.agg 23 [.slice 72 m false]), .var 24 (.agg 23 [.slice 72 [] true]), .arr 72 pages, .var 77 (.agg 76 [.msl 2 [] 72 0 0 n']), .var 77 (.agg 76 [.msl 2 [] 72 0 0 n])], []⟩ =>
      if r = 4 then some (.br (putOK n a d) (.done (.exit 0) (mkFr 26 [] []) ⟨rowsW (Mv m) Zv (.agg 76 [.msl 2 [] 72 0 0 n']) (putP pages a.toNat d) n, []⟩) .fail) else none
    | .int .i64 a, .slice 5 d false, .ptr r [] 77 0, [], ⟨[.var 24 (.agg 23 [.slice 72 m false]), .var 24 (.agg 23 [.slice 72 [] true]), .arr 72 pages, .var 77 (.agg 76 [.msl 2 [] 72 0 0 n1]), .var 27 (.agg 26 [.int .i64 a1, .int .i64 s1, .int .u32 v1]), .var 77 (.agg 76 [.msl 2 [] 72 0 0 n2]), .var 27 (.agg 26 [.int .i64 a2, .int .i64 s2, .int .u32 v2]), .var 77 (.agg 76 [.msl 2 [] 72 0 0 n])], []⟩ =>
      if r = 7 then some (.br (putOK n a d) (.done (.exit 0) (mkFr 26 [] []) ⟨rowsS (Mv m) Zv (putP pages a.toNat d) (.agg 76 [.msl 2 [] 72 0 0 n1]) (Wv a1 s1 v1) (.agg 76 [.msl 2 [] 72 0 0 n2]) (Wv a2 s2 v2) n, []⟩) .fail) else none
    | _, _, _, _, _ => none
  else none
def rowsA (m z : AV) (pages : List AV) (n : Nat) : List Row := [.var 24 m, .var 24 z, .arr 72 pages, .var 77 (.agg 76 [.msl 2 [] 72 0 0 n])]
def fr24 (n : Nat) (ws : List AV) (len i : Int) : Fr := mkFr 31 [(2, .ptr 0 [] 24 0), (4, .ptr 1 [] 24 0), (5, .bool false), (6, .ptr 3 [] 77 0), (7, .func (.func 36) [.agg 76 [.msl 2 [] 72 0 0 n]] []), (16, .slice 27 ws false), (17, .int .i64 len), (18, .int .i64 i)] []
def fx24 : Fr := mkFr 31 [(4, .ptr 1 [] 24 0), (5, .bool false), (6, .ptr 3 [] 77 0)] []
def lp24 (dep : Nat) (fr : Fr) (M : Mm) : Option LT :=
  if okFr 31 [2, 4, 5, 6, 7, 16, 17, 18] fr then
    match fr.tmps.getD 2 .dead, fr.tmps.getD 4 .dead, fr.tmps.getD 5 .dead, fr.tmps.getD 6 .dead, fr.tmps.getD 7 .dead, fr.tmps.getD 16 .dead, fr.tmps.getD 17 .dead, fr.tmps.getD 18 .dead, fr.tf, M with
    | .ptr 0 [] 24 0, .ptr 1 [] 24 0, .bool false, .ptr 3 [] 77 0, .func (.func 36) [.agg 76 [.msl 2 [] 72 0 0 n]] [], .slice 27 ws false, .int .i64 len, .int .i64 i, [], ⟨[.var 24 (.agg 23 [.slice 72 l false]), .var 24 (.agg 23 [.slice 72 [] true]), .arr 72 pages, .var 77 (.agg 76 [.msl 2 [] 72 0 0 n'])], []⟩ =>
      if dep = 5 ∧ i = 0 then
        some (.br (decide (len = (ws.length : Int)) && (decide (n' = n) && (decide (n ≤ 64) && decide (ws.length < 1000))))
          (.br (appL n ws pages).2 (.done (.exit 0) fx24 ⟨rowsA (Mv l) Zv (appL n ws pages).1 n, []⟩) (.done .ret fx24 ⟨rowsA (Mv l) (Mv l) (appL n ws pages).1 n, []⟩)) .fail)
      else none
    | _, _, _, _, _, _, _, _, _, _ => none
  else none
def fr19 (out : List AV) (len i : Int) : Fr := mkFr 48 [(2, .ptr 0 [] 24 0), (3, .ptr 1 [] 24 0), (5, .slice 3 out false), (13, .int .i64 len), (14, .int .i64 i)] [(5, .own)]
def fx19 (out : List AV) : Fr := mkFr 48 [(5, .slice 3 out false)] [(5, .own)]
def rows2 (a b : List AV) : List Row := [.var 24 (Mv a), .var 24 (Mv b)]
def lp19 (fr : Fr) (M : Mm) : Option LT :=
  if okFr 48 [2, 3, 5, 13, 14] fr then
    match fr.tmps.getD 2 .dead, fr.tmps.getD 3 .dead, fr.tmps.getD 5 .dead, fr.tmps.getD 13 .dead, fr.tmps.getD 14 .dead, fr.tf, M with
    | .ptr 0 [] 24 0, .ptr 1 [] 24 0, .slice 3 [] false, .int .i64 len, .int .i64 i, [(5, .own)], ⟨[.var 24 (.agg 23 [.slice 72 a false]), .var 24 (.agg 23 [.slice 72 b false])], []⟩ =>
      if i = 0 then some (.br (decide (0 ≤ len) && decide (len < 1000)) (.done (.exit 0) (fx19 (dfN a b len.toNat)) ⟨rows2 a b, []⟩) .fail) else none
    | _, _, _, _, _, _, _ => none
  else none
def fr29 (out : List AV) (i : Int) : Fr := mkFr 48 [(2, .ptr 0 [] 24 0), (3, .ptr 1 [] 24 0), (5, .slice 3 out false), (6, .int .i64 i)] [(5, .own)]
def maxI (a b : List AV) : Int := if (b.length : Int) > (a.length : Int) then (b.length : Int) else (a.length : Int)
def lp29 (fr : Fr) (M : Mm) : Option LT :=
  if okFr 48 [2, 3, 5, 6] fr then
    match fr.tmps.getD 2 .dead, fr.tmps.getD 3 .dead, fr.tmps.getD 5 .dead, fr.tmps.getD 6 .dead, fr.tf, M with
    | .ptr 0 [] 24 0, .ptr 1 [] 24 0, .slice 3 [] false, .int .i64 i, [(5, .own)], ⟨[.var 24 (.agg 23 [.slice 72 a false]), .var 24 (.agg 23 [.slice 72 b false])], []⟩ =>
      if i = 0 then some (.br (decide (maxI a b < 1000)) (.done (.exit 0) (fx19 (dfN a b (maxI a b).toNat)) ⟨rows2 a b, []⟩) .fail) else none
    | _, _, _, _, _, _ => none
  else none
def fr20 (a b : List AV) (i : Int) : Fr := mkFr 26 [(0, .slice 3 a false), (1, .slice 3 b false), (4, .bool false), (5, .int .i64 i)] []
def fx20 : Fr := mkFr 26 [(4, .bool false)] []
def lp20 (fr : Fr) (M : Mm) : Option LT :=
  if okFr 26 [0, 1, 4, 5] fr then
    match fr.tmps.getD 0 .dead, fr.tmps.getD 1 .dead, fr.tmps.getD 4 .dead, fr.tmps.getD 5 .dead, fr.tf, M with
    | .slice 3 a false, .slice 3 b false, .bool false, .int .i64 i, [], ⟨[], []⟩ =>
      if i = 0 then some (.br (decide (a.length = b.length) && decide (a.length < 5000)) (.br (saN a b a.length 0) (.done (.exit 0) fx20 ⟨[], []⟩) (.done .ret fx20 ⟨[], []⟩)) .fail) else none
    | _, _, _, _, _, _ => none
  else none
def fr26 (a n : Int) (out : List AV) (i : Int) : Fr := mkFr 46 [(1, .int .i64 a), (2, .int .i64 n), (3, .ptr 0 [] 24 0), (6, .ptr 1 [] 60 0), (7, .slice 5 out false), (8, .int .i64 i)] [(7, .own)]
def fx26 (out : List AV) : Fr := mkFr 46 [(6, .ptr 1 [] 60 0), (7, .slice 5 out false)] [(7, .own)]
def rows26 (m : List AV) (s : List UInt8) (bb : Bool) : List Row := [.var 24 (Mv m), .var 60 (.agg 59 [.str s, .bool bb])]
def lp26 (dep : Nat) (fr : Fr) (M : Mm) : Option LT :=
  if okFr 46 [1, 2, 3, 6, 7, 8] fr then
    match fr.tmps.getD 1 .dead, fr.tmps.getD 2 .dead, fr.tmps.getD 3 .dead, fr.tmps.getD 6 .dead, fr.tmps.getD 7 .dead, fr.tmps.getD 8 .dead, fr.tf, M with
    | .int .i64 a, .int .i64 n, .ptr 0 [] 24 0, .ptr 1 [] 60 0, .slice 5 [] false, .int .i64 i, [(7, .own)], ⟨[.var 24 (.agg 23 [.slice 72 m false]), .var 60 (.agg 59 [.str s, .bool bb])], []⟩ =>
      if dep = 5 ∧ i = 0 then some (.br (decide (0 ≤ a) && (decide (0 ≤ n) && (decide (a + n ≤ 128 * (m.length : Int)) && decide (m.length ≤ 64)))) (.done (.exit 0) (fx26 (rrN m a.toNat n.toNat)) ⟨rows26 m s bb, []⟩) .fail) else none
    | _, _, _, _, _, _, _, _ => none
  else none
def fr27 (a : Int) (s : List UInt8) (i : Int) : Fr := mkFr 53 [(1, .int .i64 a), (2, .str s), (6, .ptr 1 [] 38 0), (7, .ptr 5 [] 24 0), (8, .int .i64 i)] []
def fx27 : Fr := mkFr 53 [(6, .ptr 1 [] 38 0), (7, .ptr 5 [] 24 0)] []
def rows27 (m z : List AV) (bb : Bool) (m' : List AV) (n' : Nat) (pages : List AV) (n : Nat) : List Row := [.var 24 (Mv m), .var 38 (.agg 37 [Zv, .bool bb]), .var 24 (Mv m'), .var 24 (.agg 23 [.msl 4 [] 72 0 0 n']), .arr 72 pages, .var 24 (.agg 23 [.msl 4 [] 72 0 0 n])]
def lp27 (fr : Fr) (M : Mm) : Option LT :=
  if okFr 53 [1, 2, 6, 7, 8] fr then
    match fr.tmps.getD 1 .dead, fr.tmps.getD 2 .dead, fr.tmps.getD 6 .dead, fr.tmps.getD 7 .dead, fr.tmps.getD 8 .dead, fr.tf, M with
    | .int .i64 a, .str s, .ptr 1 [] 38 0, .ptr 5 [] 24 0, .int .i64 i, [], ⟨[.var 24 (.agg 23 [.slice 72 m false]), .var 38 (.agg 37 [.agg 23 [.slice 72 [] true], .bool bb]), .var 24 (.agg 23 [.slice 72 m' false]), .var 24 (.agg 23 [.msl 4 [] 72 0 0 n']), .arr 72 pages, .var 24 (.agg 23 [.msl 4 [] 72 0 0 n])], []⟩ =>
      if i = 0 then some (.br (decide (0 ≤ a) && (decide (a + (s.length : Int) ≤ 128 * (n : Int)) && decide (n ≤ 64))) (.done (.exit 0) fx27 ⟨rows27 m [] bb m' n' (rwN pages a.toNat s s.length) n, []⟩) .fail) else none
    | _, _, _, _, _, _, _ => none
  else none
def fr21 (a n : Int) (out : List AV) : Fr := mkFr 64 [(1, .int .i64 a), (2, .int .i64 n), (3, .ptr 0 [] 24 0), (6, .str []), (7, .bool false), (8, .slice 5 out false)] [(8, .own)]
def fx21 (out : List AV) : Fr := mkFr 64 [(8, .slice 5 out false)] [(8, .own)]
def lp21 (fr : Fr) (M : Mm) : Option LT :=
  if okFr 64 [1, 2, 3, 6, 7, 8] fr then
    match fr.tmps.getD 1 .dead, fr.tmps.getD 2 .dead, fr.tmps.getD 3 .dead, fr.tmps.getD 6 .dead, fr.tmps.getD 7 .dead, fr.tmps.getD 8 .dead, fr.tf, M with
    | .int .i64 a, .int .i64 n, .ptr 0 [] 24 0, .str [], .bool false, .slice 5 [] false, [(8, .own)], ⟨[.var 24 (.agg 23 [.slice 72 m false])], []⟩ =>
      some (.br (decide (0 ≤ a) && (decide (0 ≤ n) && (decide (a + n ≤ 128 * (m.length : Int)) && (decide (m.length ≤ 64) && wfP m)))) (.done (.exit 0) (fx21 (rdN m a.toNat n.toNat n.toNat [])) ⟨[.var 24 (Mv m)], []⟩) .fail)
    | _, _, _, _, _, _, _, _ => none
  else none
def fr14 (a s n i : Int) : Fr := mkFr 34 [(1, .int .i64 a), (2, .int .i64 s), (3, .ptr 0 [] 24 0), (6, .ptr 1 [] 35 0), (8, .int .u32 n), (9, .int .i64 i)] []
def fx14 (n : Int) : Fr := mkFr 34 [(6, .ptr 1 [] 35 0), (8, .int .u32 n)] []
def rows14 (m : List AV) (zn : Int) (zb : Bool) : List Row := [.var 24 (Mv m), .var 35 (.agg 34 [.int .u32 zn, .bool zb])]
def lp14 (dep : Nat) (fr : Fr) (M : Mm) : Option LT :=
  if okFr 34 [1, 2, 3, 6, 8, 9] fr then
    match fr.tmps.getD 1 .dead, fr.tmps.getD 2 .dead, fr.tmps.getD 3 .dead, fr.tmps.getD 6 .dead, fr.tmps.getD 8 .dead, fr.tmps.getD 9 .dead, fr.tf, M with
    | .int .i64 a, .int .i64 s, .ptr 0 [] 24 0, .ptr 1 [] 35 0, .int .u32 n, .int .i64 i, [], ⟨[.var 24 (.agg 23 [.slice 72 m false]), .var 35 (.agg 34 [.int .u32 zn, .bool zb])], []⟩ =>
      if dep = 5 ∧ n = 0 then some (.br (decide (0 ≤ a) && (decide (0 ≤ i) && (decide (a + i < 128 * (m.length : Int)) && decide (m.length ≤ 64)))) (.done (.exit 0) (fx14 (rlN m a.toNat (i.toNat + 1) 0)) ⟨rows14 m zn zb, []⟩) .fail) else none
    | _, _, _, _, _, _, _, _ => none
  else none
def fr15 (i : Int) : Fr := mkFr 48 [(2, .ptr 0 [] 24 0), (3, .ptr 1 [] 27 0), (4, .ptr 2 [] 38 0), (6, .ptr 6 [] 24 0), (7, .int .i64 i)] []
def fx15 : Fr := mkFr 48 [(4, .ptr 2 [] 38 0), (6, .ptr 6 [] 24 0)] []
def rows15 (m z : List AV) (bb : Bool) (a s v : Int) (m' : List AV) (n' : Nat) (pages : List AV) (n : Nat) : List Row := [.var 24 (Mv m), .var 27 (Wv a s v), .var 38 (.agg 37 [Zv, .bool bb]), .var 24 (Mv m'), .var 24 (.agg 23 [.msl 5 [] 72 0 0 n']), .arr 72 pages, .var 24 (.agg 23 [.msl 5 [] 72 0 0 n])]
def lp15 (fr : Fr) (M : Mm) : Option LT :=
  if okFr 48 [2, 3, 4, 6, 7] fr then
    match fr.tmps.getD 2 .dead, fr.tmps.getD 3 .dead, fr.tmps.getD 4 .dead, fr.tmps.getD 6 .dead, fr.tmps.getD 7 .dead, fr.tf, M with
    | .ptr 0 [] 24 0, .ptr 1 [] 27 0, .ptr 2 [] 38 0, .ptr 6 [] 24 0, .int .i64 i, [], ⟨[.var 24 (.agg 23 [.slice 72 m false]), .var 27 (.agg 26 [.int .i64 a, .int .i64 s, .int .u32 v]), .var 38 (.agg 37 [.agg 23 [.slice 72 [] true], .bool bb]), .var 24 (.agg 23 [.slice 72 m' false]), .var 24 (.agg 23 [.msl 5 [] 72 0 0 n']), .arr 72 pages, .var 24 (.agg 23 [.msl 5 [] 72 0 0 n])], []⟩ =>
      if i = 0 then some (.br (decide (0 ≤ a) && (decide (0 ≤ s) && (decide (s ≤ 4) && (decide (a + s ≤ 128 * (n : Int)) && decide (n ≤ 64))))) (.done (.exit 0) fx15 ⟨rows15 m [] bb a s v m' n' (rsN pages a.toNat v s.toNat) n, []⟩) .fail) else none
    | _, _, _, _, _, _, _ => none
  else none
noncomputable def cxE : Ctx where
  P := Try.checked.prog
  n := 10000
  muta := fun f => match f with | 33 | 34 => true | _ => false
  spec := fun _ _ => none
  kept := (fun f id => match f, id with
    | 35, 1 => some ([1, 2, 3], [])
    | 24, 4 => some ([2, 4, 5, 6, 7, 16, 17, 18], [4, 5, 6])
    | 19, 3 => some ([2, 3, 5, 13, 14], [5])
    | 29, 3 => some ([2, 3, 5, 6], [5])
    | 20, 4 => some ([0, 1, 4, 5], [4])
    | 26, 5 => some ([1, 2, 3, 6, 7, 8], [6, 7])
    | 27, 5 => some ([1, 2, 6, 7, 8], [6, 7])
    | 21, 4 => some ([1, 2, 3, 6, 7, 8], [8])
    | 14, 6 => some ([1, 2, 3, 6, 8, 9], [6, 8])
    | 15, 6 => some ([2, 3, 4, 6, 7], [4, 6])
    | _, _ => none)
  ends := (fun dep f id fr M => match f, id with
    | 35, 1 => lp35 fr M
    | 24, 4 => lp24 dep fr M
    | 19, 3 => lp19 fr M
    | 29, 3 => lp29 fr M
    | 20, 4 => lp20 fr M
    | 26, 5 => lp26 dep fr M
    | 27, 5 => lp27 fr M
    | 21, 4 => lp21 fr M
    | 14, 6 => lp14 dep fr M
    | 15, 6 => lp15 fr M
    | _, _ => none)
/-! one round of each -/
noncomputable def code35 : Code := ((Try.f35.body.bind fun c => loopAt c 1).getD .skip)
noncomputable def code24 : Code := ((Try.f24.body.bind fun c => loopAt c 4).getD .skip)
noncomputable def code19 : Code := ((Try.f19.body.bind fun c => loopAt c 3).getD .skip)
noncomputable def code29 : Code := ((Try.f29.body.bind fun c => loopAt c 3).getD .skip)
noncomputable def code20 : Code := ((Try.f20.body.bind fun c => loopAt c 4).getD .skip)
noncomputable def code26 : Code := ((Try.f26.body.bind fun c => loopAt c 5).getD .skip)
noncomputable def code27 : Code := ((Try.f27.body.bind fun c => loopAt c 5).getD .skip)
noncomputable def code21 : Code := ((Try.f21.body.bind fun c => loopAt c 4).getD .skip)
noncomputable def code14 : Code := ((Try.f14.body.bind fun c => loopAt c 6).getD .skip)
noncomputable def code15 : Code := ((Try.f15.body.bind fun c => loopAt c 6).getD .skip)
set_option maxRecDepth 100000 in
theorem round35W {R : Type} (call : CallH R) (dep : Nat) (K : AX → Fr → Mm → Option R) (kk : Fr → Mm → Option R) (m z : List AV) (pages : List AV) (n : Nat) (a : Int) (d : List AV) (n' : Nat) :
    evC cxE 35 call dep code35 (fr35 4 (.int .i64 a) (.slice 5 d false)) ⟨rowsW (Mv m) Zv (.agg 76 [.msl 2 [] 72 0 0 n']) pages n, []⟩ (roundK Try.checked.prog 5 (some ([1, 2, 3], [])) K kk) =
    cond (decide (0 < (d.length : Int)))
     (let p := IntKind.i64.wrap (a.tdiv 128)
      let o := a.tmod 128
      let k := min d.length (128 - o.toNat)
      cond (inB p n) (cond (decide (0 ≤ o) && decide (o ≤ ((128 : Nat) : Int)))
        (cond (cond (decide (0 ≤ ((k : Nat) : Int)) && decide (((k : Nat) : Int) ≤ (d.length : Int))) true false)
        (kk (fr35 4 (.int .i64 (IntKind.i64.wrap (a + ((k : Nat) : Int)))) (.slice 5 (sub d ((k : Nat) : Int).toNat d.length) false)) 
          ⟨rowsW (Mv m) Zv (.agg 76 [.msl 2 [] 72 0 0 n']) (pages.set (0 + p.toNat) (.agg (aggT (pages.getD (0 + p.toNat) .dead)) ((partsOf (pages.getD (0 + p.toNat) .dead)).take o.toNat ++ (d.take k ++ (partsOf (pages.getD (0 + p.toNat) .dead)).drop (o.toNat + k))))) n, []⟩) none) none) none)
     (K (.exit 0) (mkFr 26 [] []) ⟨rowsW (Mv m) Zv (.agg 76 [.msl 2 [] 72 0 0 n']) pages n, []⟩) := by kernel_rfl
set_option maxRecDepth 100000 in
theorem round35S {R : Type} (call : CallH R) (dep : Nat) (K : AX → Fr → Mm → Option R) (kk : Fr → Mm → Option R) (m z : List AV) (pages : List AV) (n : Nat) (a : Int) (d : List AV) (n1 n2 : Nat) (a1 s1 v1 a2 s2 v2 : Int) :
    evC cxE 35 call dep code35 (fr35 7 (.int .i64 a) (.slice 5 d false)) ⟨rowsS (Mv m) Zv pages (.agg 76 [.msl 2 [] 72 0 0 n1]) (Wv a1 s1 v1) (.agg 76 [.msl 2 [] 72 0 0 n2]) (Wv a2 s2 v2) n, []⟩ (roundK Try.checked.prog 8 (some ([1, 2, 3], [])) K kk) =
    cond (decide (0 < (d.length : Int)))
     (let p := IntKind.i64.wrap (a.tdiv 128)
      let o := a.tmod 128
      let k := min d.length (128 - o.toNat)
      cond (inB p n) (cond (decide (0 ≤ o) && decide (o ≤ ((128 : Nat) : Int)))
        (cond (cond (decide (0 ≤ ((k : Nat) : Int)) && decide (((k : Nat) : Int) ≤ (d.length : Int))) true false)
        (kk (fr35 7 (.int .i64 (IntKind.i64.wrap (a + ((k : Nat) : Int)))) (.slice 5 (sub d ((k : Nat) : Int).toNat d.length) false)) 
          ⟨rowsS (Mv m) Zv (pages.set (0 + p.toNat) (.agg (aggT (pages.getD (0 + p.toNat) .dead)) ((partsOf (pages.getD (0 + p.toNat) .dead)).take o.toNat ++ (d.take k ++ (partsOf (pages.getD (0 + p.toNat) .dead)).drop (o.toNat + k))))) (.agg 76 [.msl 2 [] 72 0 0 n1]) (Wv a1 s1 v1) (.agg 76 [.msl 2 [] 72 0 0 n2]) (Wv a2 s2 v2) n, []⟩) none) none) none)
     (K (.exit 0) (mkFr 26 [] []) ⟨rowsS (Mv m) Zv pages (.agg 76 [.msl 2 [] 72 0 0 n1]) (Wv a1 s1 v1) (.agg 76 [.msl 2 [] 72 0 0 n2]) (Wv a2 s2 v2) n, []⟩) := by kernel_rfl
set_option maxRecDepth 100000 in
theorem round24 {R : Type} (K : AX → Fr → Mm → Option R) (kk : Fr → Mm → Option R) (l z pages ws : List AV) (n : Nat) (len i : Int) :
    evC cxE 24 (evF cxE 5) 5 code24 (fr24 n ws len i) ⟨rowsA (Mv l) Zv pages n, []⟩ (roundK Try.checked.prog 4 (some ([2, 4, 5, 6, 7, 16, 17, 18], [4, 5, 6])) K kk) =
    cond (decide (i < len)) (cond (inB i ws.length)
      (let w := ws.getD i.toNat .dead
       thereK n (wA w) (wS w) fun b => cond (!b)
          (K .ret fx24 ⟨rowsA (Mv l) (Mv l) pages n, []⟩)
          (cond (cond (decide (0 ≤ wS w) && decide (wS w ≤ ((4 : Nat) : Int))) true false)
            (cond (putOK n (wA w) (sub (bytes4 (wV w)) 0 (wS w).toNat))
              (kk (fr24 n ws len (IntKind.i64.wrap (i + 1))) ⟨rowsA (Mv l) Zv (putP pages (wA w).toNat (sub (bytes4 (wV w)) 0 (wS w).toNat)) n, []⟩) none) none)) none)
     (K (.exit 0) fx24 ⟨rowsA (Mv l) Zv pages n, []⟩) := by kernel_rfl
set_option maxRecDepth 100000 in
theorem round19 {R : Type} (call : CallH R) (dep : Nat) (K : AX → Fr → Mm → Option R) (kk : Fr → Mm → Option R) (a b out : List AV) (len i : Int) :
    evC cxE 19 call dep code19 (fr19 out len i) ⟨rows2 a b, []⟩ (roundK Try.checked.prog 2 (some ([2, 3, 5, 13, 14], [5])) K kk) =
    cond (decide (i < len)) (cond (diffOK a b i)
      (cond (differs a b i)
        (cond (decide ((out.length + 1) * 8 ≤ 140737488355328)) (kk (fr19 (out ++ [.int .i64 i]) len (IntKind.i64.wrap (i + 1))) ⟨rows2 a b, []⟩) none)
        (kk (fr19 out len (IntKind.i64.wrap (i + 1))) ⟨rows2 a b, []⟩)) none)
     (K (.exit 0) (fx19 out) ⟨rows2 a b, []⟩) := by kernel_rfl
set_option maxRecDepth 100000 in
theorem round29 {R : Type} (call : CallH R) (dep : Nat) (K : AX → Fr → Mm → Option R) (kk : Fr → Mm → Option R) (a b out : List AV) (i : Int) :
    evC cxE 29 call dep code29 (fr29 out i) ⟨rows2 a b, []⟩ (roundK Try.checked.prog 2 (some ([2, 3, 5, 6], [5])) K kk) =
    cond (decide (i < maxI a b)) (cond (diffOK a b i)
      (cond (differs a b i)
        (cond (decide ((out.length + 1) * 8 ≤ 140737488355328)) (kk (fr29 (out ++ [.int .i64 i]) (IntKind.i64.wrap (i + 1))) ⟨rows2 a b, []⟩) none)
        (kk (fr29 out (IntKind.i64.wrap (i + 1))) ⟨rows2 a b, []⟩)) none)
     (K (.exit 0) (fx19 out) ⟨rows2 a b, []⟩) := by kernel_rfl
set_option maxRecDepth 100000 in
theorem round20 {R : Type} (call : CallH R) (dep : Nat) (K : AX → Fr → Mm → Option R) (kk : Fr → Mm → Option R) (a b : List AV) (i : Int) :
    evC cxE 20 call dep code20 (fr20 a b i) ⟨[], []⟩ (roundK Try.checked.prog 0 (some ([0, 1, 4, 5], [4])) K kk) =
    cond (decide (i < (a.length : Int))) (cond (cond (inB i a.length) (cond (inB i b.length) true false) false)
      (cond (intOf (a.getD i.toNat .dead) != intOf (b.getD i.toNat .dead)) (K .ret fx20 ⟨[], []⟩)
        (kk (fr20 a b (IntKind.i64.wrap (i + 1))) ⟨[], []⟩)) none)
     (K (.exit 0) fx20 ⟨[], []⟩) := by kernel_rfl
set_option maxRecDepth 100000 in
theorem round26 {R : Type} (K : AX → Fr → Mm → Option R) (kk : Fr → Mm → Option R) (m out : List AV) (a n i : Int) (s : List UInt8) (bb : Bool) :
    evC cxE 26 (evF cxE 5) 5 code26 (fr26 a n out i) ⟨rows26 m s bb, []⟩ (roundK Try.checked.prog 2 (some ([1, 2, 3, 6, 7, 8], [6, 7])) K kk) =
    cond (decide (i < n)) (
      let p := IntKind.i64.wrap (a + i)
      let q := IntKind.i64.wrap (p.tdiv 128)
      cond (inB q m.length) (cond (inB (p.tmod 128) 128) (cond (decide ((out.length + 1) * 1 ≤ 140737488355328))
        (kk (fr26 a n (out ++ [.int .u8 (byAt m q (p.tmod 128))]) (IntKind.i64.wrap (i + 1))) ⟨rows26 m s bb, []⟩) none) none) none)
     (K (.exit 0) (fx26 out) ⟨rows26 m s bb, []⟩) := by kernel_rfl
set_option maxRecDepth 100000 in
theorem round27 {R : Type} (call : CallH R) (dep : Nat) (K : AX → Fr → Mm → Option R) (kk : Fr → Mm → Option R) (m z m' pages : List AV) (bb : Bool) (n n' : Nat) (a i : Int) (s : List UInt8) :
    evC cxE 27 call dep code27 (fr27 a s i) ⟨rows27 m z bb m' n' pages n, []⟩ (roundK Try.checked.prog 6 (some ([1, 2, 6, 7, 8], [6, 7])) K kk) =
    cond (decide (i < (s.length : Int))) (
      let p := IntKind.i64.wrap (a + i)
      let q := IntKind.i64.wrap (p.tdiv 128)
      let o := p.tmod 128
      cond (cond (inB i s.length) (cond (inB q n) (cond (inB o 128) true false) false) false)
        (kk (fr27 a s (IntKind.i64.wrap (i + 1))) ⟨rows27 m z bb m' n' (byteSet pages (0 + q.toNat) o.toNat (.int .u8 ((s.getD i.toNat 0).toNat : Int))) n, []⟩) none)
     (K (.exit 0) fx27 ⟨rows27 m z bb m' n' pages n, []⟩) := by kernel_rfl
set_option maxRecDepth 100000 in
theorem round21 {R : Type} (call : CallH R) (dep : Nat) (K : AX → Fr → Mm → Option R) (kk : Fr → Mm → Option R) (m out : List AV) (a n : Int) :
    evC cxE 21 call dep code21 (fr21 a n out) ⟨[.var 24 (Mv m)], []⟩ (roundK Try.checked.prog 1 (some ([1, 2, 3, 6, 7, 8], [8])) K kk) =
    cond (decide ((out.length : Int) < n)) (
      let p := IntKind.i64.wrap (a + (out.length : Int))
      let q := IntKind.i64.wrap (p.tdiv 128)
      let o := p.tmod 128
      let pg := partsOf (m.getD q.toNat .dead)
      cond (inB q m.length) (cond (decide (0 ≤ o) && decide (o ≤ ((128 : Nat) : Int)))
       (let x : Int := ((128 - o.toNat : Nat) : Int)
        let y := IntKind.i64.wrap (n - (out.length : Int))
        let k : Int := if y < x then y else x
        cond (decide (0 ≤ k) && decide (k ≤ x))
          (cond (decide ((out.length + (sub pg (o.toNat + 0) (o.toNat + 0 + (k.toNat - 0))).length) * 1 ≤ 140737488355328))
           (kk (fr21 a n (out ++ sub pg (o.toNat + 0) (o.toNat + 0 + (k.toNat - 0)))) ⟨[.var 24 (Mv m)], []⟩) none) none) none) none)
     (K (.exit 0) (fx21 out) ⟨[.var 24 (Mv m)], []⟩) := by kernel_rfl
set_option maxRecDepth 100000 in
theorem round14 {R : Type} (K : AX → Fr → Mm → Option R) (kk : Fr → Mm → Option R) (m : List AV) (zn : Int) (zb : Bool) (a s n i : Int) :
    evC cxE 14 (evF cxE 5) 5 code14 (fr14 a s n i) ⟨rows14 m zn zb, []⟩ (roundK Try.checked.prog 2 (some ([1, 2, 3, 6, 8, 9], [6, 8])) K kk) =
    cond (decide (0 ≤ i)) (
      let p := IntKind.i64.wrap (a + i)
      let q := IntKind.i64.wrap (p.tdiv 128)
      cond (inB q m.length) (cond (inB (p.tmod 128) 128)
       (kk (fr14 a s (ibits .or .u32 (IntKind.u32.wrap (n * 2 ^ min (8 : Int).toNat 32)) (IntKind.u32.wrap (byAt m q (p.tmod 128)))) (IntKind.i64.wrap (i - 1))) ⟨rows14 m zn zb, []⟩) none) none)
     (K (.exit 0) (fx14 n) ⟨rows14 m zn zb, []⟩) := by kernel_rfl
set_option maxRecDepth 100000 in
theorem round15 {R : Type} (call : CallH R) (dep : Nat) (K : AX → Fr → Mm → Option R) (kk : Fr → Mm → Option R) (m z m' pages : List AV) (bb : Bool) (n n' : Nat) (a s v i : Int) :
    evC cxE 15 call dep code15 (fr15 i) ⟨rows15 m z bb a s v m' n' pages n, []⟩ (roundK Try.checked.prog 7 (some ([2, 3, 4, 6, 7], [4, 6])) K kk) =
    cond (decide (i < s)) (
      let p := IntKind.i64.wrap (a + i)
      let q := IntKind.i64.wrap (p.tdiv 128)
      let o := p.tmod 128
      let h := IntKind.i64.wrap (8 * i)
      cond (cond (decide (0 ≤ h)) (cond (inB q n) (cond (inB o 128) true false) false) false)
        (kk (fr15 (IntKind.i64.wrap (i + 1))) ⟨rows15 m z bb a s v m' n' (byteSet pages (0 + q.toNat) o.toNat (.int .u8 (IntKind.u8.wrap (v.fdiv (2 ^ min h.toNat 32))))) n, []⟩) none)
     (K (.exit 0) fx15 ⟨rows15 m z bb a s v m' n' pages n, []⟩) := by kernel_rfl
end Go.Proofs.Ytglfkdbfiipjjaa
