/- The memory's laws, as the abstract evaluator has them. -/
import Derived.Test.YtglfkdbfiipjjaaMem6
set_option linter.unusedVariables false
namespace Go.Proofs.Ytglfkdbfiipjjaa
open Go.AE
set_option maxRecDepth 100000 in
theorem law3 (F : Fn6) (l : List AV) (a s wa ws wv : Int) : fnV (cxG F 2) 6 3 [Mv l, .int .i64 a, .int .i64 s, Wv wa ws wv] =
  cond (decide (80 < (l.length : Int))) (some (.bool true))
  (cond (F.vld l != F.vld l) (some (.bool false))
  (cond (!(F.vld l)) (some (.bool true))
   (cond (F.ok l) (cond (F.ok l) (cond (F.ok l) (cond (F.ok l)
    (let c1 := F.sz l == F.sz l
     let c2 := F.ld l a s == F.rld l a s
     let c3 := F.ldB l a s == F.rldB l a s
     let c4 := F.stB l wa ws wv == F.rstB l wa ws wv
     cond (cond (condB c1 (condB c2 (condB c3 (condB c4 (cond (F.okd (F.st l wa ws wv) && F.okd (F.rst l wa ws wv)) true false) true) true) true) true) true false)
      (some (.bool (c1 && (c2 && (c3 && (c4 && F.sm (F.st l wa ws wv) (F.rst l wa ws wv))))))) none) none) none) none) none))) := by kernel_rfl
set_option maxRecDepth 100000 in
theorem law4 (F : Fn6) (l : List AV) (wa ws wv a s : Int) : fnV (cxG F 2) 6 4 [Mv l, Wv wa ws wv, .int .i64 a, .int .i64 s] =
  cond (!(F.vld l)) (some (.bool true))
   (let x := F.st l wa ws wv
    let before := F.ld l a s
    let is' := F.ldB l a s
    let ok := F.stB l wa ws wv
    let after := F.ld x a s
    let also := F.ldB x a s
    cond (F.ok l) (cond (F.ok l) (cond (F.ok l) (cond (F.ok x)
     (cond (cond (!(is' == also)) true (cond (!(is' == is')) true (cond (before != before) true (cond (!ok) (before != after) false)))) (some (.bool false))
      (cond (!ok) (cond (cond (cond (F.okd l && F.okd x) true false) true false) (some (.bool (((F.df l x).length : Int) == 0))) none)
       (cond (F.ok x)
        (let n := F.ld x wa ws
         let there := F.ldB x wa ws
         let value := cond (ws == 1) (ibits .and .u32 wv 255) wv
         let apart := cond is' (cond (decide (IntKind.i64.wrap (a + s) ≤ wa)) true (decide (IntKind.i64.wrap (wa + ws) ≤ a))) false
         some (.bool (there && (n == value && (cond (!apart) true (before == after)))))) none))) none) none) none) none) := by kernel_rfl
set_option maxRecDepth 100000 in
theorem law5 (F : Fn6) (a b : List AV) (wa ws wv : Int) : fnV (cxG F 2) 6 5 [Mv a, Mv b, Wv wa ws wv] =
  cond (cond (!(F.vld a)) true (!(F.vld b))) (some (.bool true))
   (let d := F.df a b
    cond (F.okd a && F.okd b) (cond (F.okd b && F.okd a) (cond (F.siOK d (F.df b a))
     (cond (!(F.si d (F.df b a))) (some (.bool false))
      (cond (decide (d.length < 5000)) (cond (ascN d (d.length - 1) 1)
       (cond (cond (F.ok a) true false) (cond (cond (F.ok b) true false)
        (let s := F.rd a 0 (F.sz a)
         let t := F.rd b 0 (F.sz b)
         cond (F.ok a)
          (let x := F.st a wa ws wv
           let ok := F.stB a wa ws wv
           cond (F.okd a && F.okd x)
            (let after := F.df a x
             let n0 := (after.length : Int) == 0
             let n1 := (after.length : Int) == 1
             cond (condB n0 true (condB ok (condB n1 (cond (inB 0 after.length) true false) true) true))
             (let few := cond n0 true (cond ok (cond n1 (intOf (after.getD 0 .dead) == IntKind.i64.wrap (wa.tdiv 128)) false) false)
              let c1 := ((d.length : Int) == 0) == (s == t)
              cond (cond (condB c1 (condB few (cond (F.okd a && F.okd a) true false) true) true) true false)
               (some (.bool (c1 && (few && (((F.df a a).length : Int) == 0))))) none) none) none) none) none) none)
       (some (.bool false))) none)) none) none) none) := by kernel_rfl
set_option maxRecDepth 100000 in
theorem law6 (F : Fn6) (m o ws : List AV) (pg a n : Int) (data : List UInt8) : fnV (cxG F 2) 6 6 [Mv m, .int .i64 pg, .int .i64 a, .int .i64 n, .str data, .slice 27 ws false, Mv o] =
  cond (cond (!(F.vld m)) true (cond (!(F.vld o)) true (cond (decide (9000 < (data.length : Int))) true (decide (40 < (ws.length : Int)))))) (some (.bool true))
   (cond (F.ok m) (cond (F.ok m) (cond (F.ok m && F.wok ws) (cond (F.ok m) (cond (F.ok m) (cond (F.ok m && F.wok ws)
     (let c1 := F.nwE pg == F.rnwE pg
      let c2 := F.sm (F.nw pg) (F.rnw pg)
      let c3 := F.rd m a n == F.rrd m a n
      let c4 := F.rdB m a n == F.rrdB m a n
      let c5 := F.wrB m a data == F.rwrB m a data
      let c6 := F.sm (F.wr m a data) (F.rwr m a data)
      cond (condB c1 (cond (F.okd (F.nw pg) && F.okd (F.rnw pg)) (condB c2 (condB c3 (condB c4 (condB c5 (cond (F.okd (F.wr m a data) && F.okd (F.rwr m a data)) true false) true) true) true) true) false) true)
      (let one := c1 && (c2 && (c3 && (c4 && (c5 && c6))))
       let c7 := F.apB m ws == F.rapB m ws
       let c8 := F.sm (F.ap m ws) (F.rap m ws)
       cond (cond (condB one (condB c7 (cond (F.okd (F.ap m ws) && F.okd (F.rap m ws)) (condB c8 (cond (F.okd m && F.okd o) (cond (F.okd m && F.okd o) (cond (F.siOK (F.df m o) (F.rdf m o)) true false) false) false) true) false) true) true) true false)
        (some (.bool (one && (c7 && (c8 && F.si (F.df m o) (F.rdf m o)))))) none) none) none) none) none) none) none) none) := by kernel_rfl
set_option maxRecDepth 100000 in
theorem law7 (F : Fn6) (l : List AV) (a v : Int) : fnV (cxG F 2) 6 7 [Mv l, .int .i64 a, .int .u32 v] =
  cond (!(F.vld l)) (some (.bool true))
   (cond (F.ok l) (cond (!(F.stB l a 4 v)) (some (.bool true))
    (let x := F.st l a 4 v
     let w (i : Int) : AV := Wv (IntKind.i64.wrap (a + i)) 1 (v.fdiv (2 ^ min (8 * i).toNat 32))
     let ws : List AV := [w 3, w 2, w 1, w 0]
     let y := F.ap l ws
     let b0 (i : Nat) : AV := .int .u8 (IntKind.u8.wrap (v.fdiv (2 ^ min (8 * i) 32)))
     let s : List UInt8 := [Go.AE.byteOf (.int .u8 (IntKind.u8.wrap v)), Go.AE.byteOf (b0 1), Go.AE.byteOf (b0 2), Go.AE.byteOf (b0 3)]
     let z := F.wr l a s
     cond (F.ok l && F.wok ws) (cond (F.ok l) (cond (F.ok x) (cond (F.ok x)
      (let c1 := F.apB l ws
       let c2 := F.wrB l a s
       let c3 := F.rdB x a 4
       let c4 := F.ldB x a 4
       let c5 := F.rd x a 4 == s
       let c6 := F.ld x a 4 == v
       let c7 := ((F.df x y).length : Int) == 0
       cond (cond (condB c1 (condB c2 (condB c3 (condB c4 (condB c5 (condB c6 (cond (F.okd x && F.okd y) (condB c7 (cond (F.okd x && F.okd z) true false) true) false) true) true) true) true) true) true) true false)
        (some (.bool (c1 && (c2 && (c3 && (c4 && (c5 && (c6 && (c7 && (((F.df x z).length : Int) == 0))))))))))
        none)
       none) none) none) none))
    none) := by kernel_rfl
set_option maxRecDepth 100000 in
theorem law8 (F : Fn6) (l : List AV) (a : Int) (data : List UInt8) (fr n : Int) : fnV (cxG F 2) 6 8 [Mv l, .int .i64 a, .str data, .int .u16 fr, .int .u16 n] =
  cond (cond (!(F.vld l)) true (decide (9000 < (data.length : Int)))) (some (.bool true))
   (cond (F.ok l)
    (let x := F.wr l a data
     let ok := F.wrB l a data
     let size := F.sz l
     cond (!(IntKind.i64.wrap (size + 1) == 0))
      (let f := (IntKind.i64.wrap fr).tmod (IntKind.i64.wrap (size + 1))
       cond (!(IntKind.i64.wrap (IntKind.i64.wrap (size - f) + 1) == 0))
        (let k := (IntKind.i64.wrap n).tmod (IntKind.i64.wrap (IntKind.i64.wrap (size - f) + 1))
         cond (F.ok l) (cond (F.ok l) (cond (F.ok l)
          (let A := F.rd l 0 f
           let b := F.rdB l 0 f
           let C := F.rd l f k
           let d := F.rdB l f k
           let W := F.rd l 0 (IntKind.i64.wrap (f + k))
           let e := F.rdB l 0 (IntKind.i64.wrap (f + k))
           cond (condB (!b) true (condB (!d) true (condB (!e) true (cond (decide (((A.length + C.length : Nat) : Int) ≤ intMax64)) true false))))
           (cond (cond (!b) true (cond (!d) true (cond (!e) true (!(A ++ C == W))))) (some (.bool false))
            (let out := cond (decide (a < 0)) true (cond (decide (size < a)) true (decide (IntKind.i64.wrap (size - a) < (data.length : Int))))
             cond (cond out true (!ok)) (cond (cond (condB (!(out == ok)) (cond (F.okd l && F.okd x) true false) true) true false) (some (.bool ((!(out == ok)) && ((F.df l x).length : Int) == 0))) none)
              (cond (F.ok x) (cond (F.ok l)
                (let s := F.rd x 0 size
                 let is' := F.rdB x 0 size
                 let old := F.rd l 0 size
                 let was := F.rdB l 0 size
                 cond (cond (!is') true (cond (!was) true (cond (!((s.length : Int) == size)) true (!((old.length : Int) == size))))) (some (.bool false))
                  (cond (cond (cond (decide (0 ≤ a) && decide (a ≤ (old.length : Int))) (cond (decide ((((sub old 0 a.toNat).length + data.length : Nat) : Int) ≤ intMax64)) (cond (decide (0 ≤ IntKind.i64.wrap (a + (data.length : Int))) && decide (IntKind.i64.wrap (a + (data.length : Int)) ≤ (old.length : Int))) (cond (decide ((((sub old 0 a.toNat ++ data).length + (sub old (IntKind.i64.wrap (a + (data.length : Int))).toNat old.length).length : Nat) : Int) ≤ intMax64)) true false) false) false) false) true false)
                   (some (.bool (s == sub old 0 a.toNat ++ data ++ sub old (IntKind.i64.wrap (a + (data.length : Int))).toNat old.length))) none)) none) none))) none) none) none) none) none) none) none) := by kernel_rfl
end Go.Proofs.Ytglfkdbfiipjjaa
