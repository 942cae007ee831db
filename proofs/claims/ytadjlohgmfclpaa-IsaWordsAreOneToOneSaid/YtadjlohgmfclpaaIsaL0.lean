/- The loops come to what their functions say. (Printed by a program of mine, gen.py.) -/
import Derived.Test.YtadjlohgmfclpaaIsaC
set_option linter.unusedVariables false
set_option linter.unusedSimpArgs false
namespace Go.Proofs.Ytadjlohgmfclpaa
open Go.AE
noncomputable def code_law04_IsaNamesAreOneToOne_5 : Code := ((Try.f6.body.bind fun c => loopAt c 5).getD .skip)
set_option maxRecDepth 100000 in
theorem rd_law04_IsaNamesAreOneToOne_5 (F : Tab) {R : Type} (call : CallH R) (dep : Nat) (K : AX → Fr → Mm → Option R) (kk : Fr → Mm → Option R) (s0 : List UInt8) (i0 : Int) :
    evC (cx F) 6 call dep code_law04_IsaNamesAreOneToOne_5 (mkFr 63 [(5, .str s0), (7, .int .i64 i0)] []) ⟨[], []⟩ (roundK Pg 0 (some ([5, 7], [4])) K kk) =
    cond (decide (i0 < ((s0.length : Nat) : Int)))
     (cond (cond (inB i0 s0.length) (condB (decide (((s0.getD i0.toNat 0).toNat : Int) < 97)) true (cond (inB i0 s0.length) true false)) false)
      (cond (cond (decide (((s0.getD i0.toNat 0).toNat : Int) < 97)) true (decide ((122 : Int) < ((s0.getD i0.toNat 0).toNat : Int))))
       (K .ret (mkFr 63 [(4, .bool false)] []) ⟨[], []⟩)
       (kk (mkFr 63 [(5, .str s0), (7, .int .i64 (IntKind.i64.wrap (i0 + 1)))] []) ⟨[], []⟩))
      (none))
     (K (.exit 0) (mkFr 63 [] []) ⟨[], []⟩) := by kernel_rfl
theorem it_law04_IsaNamesAreOneToOne_5 (F : Tab) {R : Type} (call : CallH R) (dep : Nat) (K : AX → Fr → Mm → Option R) (s0 : List UInt8) : ∀ (fuel : Nat) (i0 : Int),
    iter fuel (fun fr M' k => evC (cx F) 6 call dep code_law04_IsaNamesAreOneToOne_5 fr M' (roundK Pg 0 (some ([5, 7], [4])) K k)) (mkFr 63 [(5, .str s0), (7, .int .i64 i0)] []) ⟨[], []⟩ = (lt_law04_IsaNamesAreOneToOne_5 s0 (lf_law04_IsaNamesAreOneToOne_5 F s0 fuel i0)).go K
  | 0, _ => rfl
  | fuel + 1, i0 => (rd_law04_IsaNamesAreOneToOne_5 F call dep K (iter fuel _) s0 i0).trans (go_cond (f := lt_law04_IsaNamesAreOneToOne_5 s0) (go_cond (f := lt_law04_IsaNamesAreOneToOne_5 s0) (go_cond (f := lt_law04_IsaNamesAreOneToOne_5 s0) (rfl) (it_law04_IsaNamesAreOneToOne_5 F call dep K s0 fuel (IntKind.i64.wrap (i0 + 1)))) (rfl)) (rfl))
theorem ok_law04_IsaNamesAreOneToOne_5 (F : Tab) {dep : Nat} {fr : Fr} {M : Mm} {t : LT} (ht : lp_law04_IsaNamesAreOneToOne_5 F dep fr M = some t) {R : Type} (K : AX → Fr → Mm → Option R) (r : R) (hgo : t.go K = some r) :
    iter 100000 (fun fr M' k => evC (cx F) 6 (evF (cx F) dep) dep code_law04_IsaNamesAreOneToOne_5 fr M' (roundK Pg M.rows.length (some ([5, 7], [4])) K k)) fr M = some r := by
  unfold lp_law04_IsaNamesAreOneToOne_5 at ht
  split at ht
  · rename_i hok
    split at ht
    · rename_i s0 i0 h5 h7 htf
      have he := okFr_eq hok
      simp only [List.map_cons, List.map_nil, h5, h7, htf] at he
      obtain rfl := Option.some.inj ht
      rw [he]
      exact (it_law04_IsaNamesAreOneToOne_5 F _ _ K s0 100000 i0).trans hgo
    · exact absurd ht (by simp)
  · exact absurd ht (by simp)
set_option maxRecDepth 100000 in
theorem at_law04_IsaNamesAreOneToOne_5 : (Try.f6.body.bind fun c => loopAt c 5) = some code_law04_IsaNamesAreOneToOne_5 := by kernel_rfl
noncomputable def code_law04_IsaTargetsTurnBack_5 : Code := ((Try.f7.body.bind fun c => loopAt c 5).getD .skip)
set_option maxRecDepth 100000 in
theorem rd_law04_IsaTargetsTurnBack_5 (F : Tab) {R : Type} (call : CallH R) (dep : Nat) (K : AX → Fr → Mm → Option R) (kk : Fr → Mm → Option R) (i0 : Int) (l0 l1 : List AV) (i1 i3 i4 i5 i6 i7 : Int) (i2 : Int) :
    evC (cx F) 7 call dep code_law04_IsaTargetsTurnBack_5 (mkFr 99 [(1, .int .u32 i0), (2, .ptr 0 [] 23 0), (5, .slice 3 l0 false), (20, .slice 3 l1 false), (21, .int .i64 i1), (22, .int .i64 i2)] []) ⟨[.var 23 (.agg 22 [.int .i64 i3, .int .i64 i4, .int .i64 i5, .int .i64 i6, .int .i64 i7])], []⟩ (roundK Pg 1 (some ([1, 2, 5, 20, 21, 22], [1, 2, 4])) K kk) =
    cond (decide (i2 < i1))
     (cond (inB i2 l1.length)
      (cond (condB (decide ((intOf (l1.getD i2.toNat .dead)) < 1)) true (condB (decide ((16 : Int) ≤ (intOf (l1.getD i2.toNat .dead)))) true (condB (decide ((0 : Int) < i2)) (cond (inB (IntKind.i64.wrap (i2 - 1)) l0.length) true false) true)))
       (cond (cond (decide ((intOf (l1.getD i2.toNat .dead)) < 1)) true (cond (decide ((16 : Int) ≤ (intOf (l1.getD i2.toNat .dead)))) true (cond (decide ((0 : Int) < i2)) (decide ((intOf (l1.getD i2.toNat .dead)) ≤ (intOf (l0.getD ((IntKind.i64.wrap (i2 - 1)).toNat) .dead)))) false)))
        (K .ret (mkFr 99 [(1, .int .u32 i0), (2, .ptr 0 [] 23 0), (4, .bool false)] []) ⟨[.var 23 (.agg 22 [.int .i64 i3, .int .i64 i4, .int .i64 i5, .int .i64 i6, .int .i64 i7])], []⟩)
        (kk (mkFr 99 [(1, .int .u32 i0), (2, .ptr 0 [] 23 0), (5, .slice 3 l0 false), (20, .slice 3 l1 false), (21, .int .i64 i1), (22, .int .i64 (IntKind.i64.wrap (i2 + 1)))] []) ⟨[.var 23 (.agg 22 [.int .i64 i3, .int .i64 i4, .int .i64 i5, .int .i64 i6, .int .i64 i7])], []⟩))
       (none))
      (none))
     (K (.exit 0) (mkFr 99 [(1, .int .u32 i0), (2, .ptr 0 [] 23 0)] []) ⟨[.var 23 (.agg 22 [.int .i64 i3, .int .i64 i4, .int .i64 i5, .int .i64 i6, .int .i64 i7])], []⟩) := by kernel_rfl
theorem it_law04_IsaTargetsTurnBack_5 (F : Tab) {R : Type} (call : CallH R) (dep : Nat) (K : AX → Fr → Mm → Option R) (i0 : Int) (l0 l1 : List AV) (i1 i3 i4 i5 i6 i7 : Int) : ∀ (fuel : Nat) (i2 : Int),
    iter fuel (fun fr M' k => evC (cx F) 7 call dep code_law04_IsaTargetsTurnBack_5 fr M' (roundK Pg 1 (some ([1, 2, 5, 20, 21, 22], [1, 2, 4])) K k)) (mkFr 99 [(1, .int .u32 i0), (2, .ptr 0 [] 23 0), (5, .slice 3 l0 false), (20, .slice 3 l1 false), (21, .int .i64 i1), (22, .int .i64 i2)] []) ⟨[.var 23 (.agg 22 [.int .i64 i3, .int .i64 i4, .int .i64 i5, .int .i64 i6, .int .i64 i7])], []⟩ = (lt_law04_IsaTargetsTurnBack_5 i0 l0 l1 i1 i3 i4 i5 i6 i7 (lf_law04_IsaTargetsTurnBack_5 F i0 l0 l1 i1 i3 i4 i5 i6 i7 fuel i2)).go K
  | 0, _ => rfl
  | fuel + 1, i2 => (rd_law04_IsaTargetsTurnBack_5 F call dep K (iter fuel _) i0 l0 l1 i1 i3 i4 i5 i6 i7 i2).trans (go_cond (f := lt_law04_IsaTargetsTurnBack_5 i0 l0 l1 i1 i3 i4 i5 i6 i7) (go_cond (f := lt_law04_IsaTargetsTurnBack_5 i0 l0 l1 i1 i3 i4 i5 i6 i7) (go_cond (f := lt_law04_IsaTargetsTurnBack_5 i0 l0 l1 i1 i3 i4 i5 i6 i7) (go_cond (f := lt_law04_IsaTargetsTurnBack_5 i0 l0 l1 i1 i3 i4 i5 i6 i7) (rfl) (it_law04_IsaTargetsTurnBack_5 F call dep K i0 l0 l1 i1 i3 i4 i5 i6 i7 fuel (IntKind.i64.wrap (i2 + 1)))) (rfl)) (rfl)) (rfl))
theorem ok_law04_IsaTargetsTurnBack_5 (F : Tab) {dep : Nat} {fr : Fr} {M : Mm} {t : LT} (ht : lp_law04_IsaTargetsTurnBack_5 F dep fr M = some t) {R : Type} (K : AX → Fr → Mm → Option R) (r : R) (hgo : t.go K = some r) :
    iter 100000 (fun fr M' k => evC (cx F) 7 (evF (cx F) dep) dep code_law04_IsaTargetsTurnBack_5 fr M' (roundK Pg M.rows.length (some ([1, 2, 5, 20, 21, 22], [1, 2, 4])) K k)) fr M = some r := by
  unfold lp_law04_IsaTargetsTurnBack_5 at ht
  split at ht
  · rename_i hok
    split at ht
    · rename_i i0 l0 l1 i1 i2 i3 i4 i5 i6 i7 h1 h2 h5 h20 h21 h22 htf
      have he := okFr_eq hok
      simp only [List.map_cons, List.map_nil, h1, h2, h5, h20, h21, h22, htf] at he
      obtain rfl := Option.some.inj ht
      rw [he]
      exact (it_law04_IsaTargetsTurnBack_5 F _ _ K i0 l0 l1 i1 i3 i4 i5 i6 i7 100000 i2).trans hgo
    · exact absurd ht (by simp)
  · exact absurd ht (by simp)
set_option maxRecDepth 100000 in
theorem at_law04_IsaTargetsTurnBack_5 : (Try.f7.body.bind fun c => loopAt c 5) = some code_law04_IsaTargetsTurnBack_5 := by kernel_rfl
noncomputable def code_ref04_Same_4 : Code := ((Try.f16.body.bind fun c => loopAt c 4).getD .skip)
set_option maxRecDepth 100000 in
theorem rd_ref04_Same_4 (F : Tab) {R : Type} (call : CallH R) (dep : Nat) (K : AX → Fr → Mm → Option R) (kk : Fr → Mm → Option R) (l0 l1 : List AV) (i0 : Int) :
    evC (cx F) 16 call dep code_ref04_Same_4 (mkFr 26 [(0, .slice 3 l0 false), (1, .slice 3 l1 false), (5, .int .i64 i0)] []) ⟨[], []⟩ (roundK Pg 0 (some ([0, 1, 5], [4])) K kk) =
    cond (decide (i0 < ((l0.length : Nat) : Int)))
     (cond (cond (inB i0 l0.length) (cond (inB i0 l1.length) true false) false)
      (cond ((intOf (l0.getD i0.toNat .dead)) != (intOf (l1.getD i0.toNat .dead)))
       (K .ret (mkFr 26 [(4, .bool false)] []) ⟨[], []⟩)
       (kk (mkFr 26 [(0, .slice 3 l0 false), (1, .slice 3 l1 false), (5, .int .i64 (IntKind.i64.wrap (i0 + 1)))] []) ⟨[], []⟩))
      (none))
     (K (.exit 0) (mkFr 26 [] []) ⟨[], []⟩) := by kernel_rfl
theorem it_ref04_Same_4 (F : Tab) {R : Type} (call : CallH R) (dep : Nat) (K : AX → Fr → Mm → Option R) (l0 l1 : List AV) : ∀ (fuel : Nat) (i0 : Int),
    iter fuel (fun fr M' k => evC (cx F) 16 call dep code_ref04_Same_4 fr M' (roundK Pg 0 (some ([0, 1, 5], [4])) K k)) (mkFr 26 [(0, .slice 3 l0 false), (1, .slice 3 l1 false), (5, .int .i64 i0)] []) ⟨[], []⟩ = (lt_ref04_Same_4 l0 l1 (lf_ref04_Same_4 F l0 l1 fuel i0)).go K
  | 0, _ => rfl
  | fuel + 1, i0 => (rd_ref04_Same_4 F call dep K (iter fuel _) l0 l1 i0).trans (go_cond (f := lt_ref04_Same_4 l0 l1) (go_cond (f := lt_ref04_Same_4 l0 l1) (go_cond (f := lt_ref04_Same_4 l0 l1) (rfl) (it_ref04_Same_4 F call dep K l0 l1 fuel (IntKind.i64.wrap (i0 + 1)))) (rfl)) (rfl))
theorem ok_ref04_Same_4 (F : Tab) {dep : Nat} {fr : Fr} {M : Mm} {t : LT} (ht : lp_ref04_Same_4 F dep fr M = some t) {R : Type} (K : AX → Fr → Mm → Option R) (r : R) (hgo : t.go K = some r) :
    iter 100000 (fun fr M' k => evC (cx F) 16 (evF (cx F) dep) dep code_ref04_Same_4 fr M' (roundK Pg M.rows.length (some ([0, 1, 5], [4])) K k)) fr M = some r := by
  unfold lp_ref04_Same_4 at ht
  split at ht
  · rename_i hok
    split at ht
    · rename_i l0 l1 i0 h0 h1 h5 htf
      have he := okFr_eq hok
      simp only [List.map_cons, List.map_nil, h0, h1, h5, htf] at he
      obtain rfl := Option.some.inj ht
      rw [he]
      exact (it_ref04_Same_4 F _ _ K l0 l1 100000 i0).trans hgo
    · exact absurd ht (by simp)
  · exact absurd ht (by simp)
set_option maxRecDepth 100000 in
theorem at_ref04_Same_4 : (Try.f16.body.bind fun c => loopAt c 4) = some code_ref04_Same_4 := by kernel_rfl
noncomputable def code_isa_Reads_10 : Code := ((Try.f17.body.bind fun c => loopAt c 10).getD .skip)
set_option maxRecDepth 100000 in
theorem rd_isa_Reads_10 (F : Tab) {R : Type} (call : CallH R) (dep : Nat) (K : AX → Fr → Mm → Option R) (kk : Fr → Mm → Option R) (l1 : List AV) (i1 i2 i3 i4 i5 : Int) (l2 : List AV) (l0 : List AV) (i0 : Int) :
    evC (cx F) 17 call dep code_isa_Reads_10 (mkFr 71 [(4, .slice 3 l0 false), (55, .agg 63 l1), (56, .int .i64 i0)] [(4, .own)]) ⟨[.var 23 (.agg 22 [.int .i64 i1, .int .i64 i2, .int .i64 i3, .int .i64 i4, .int .i64 i5]), .var 63 (.agg 63 l2)], []⟩ (roundK Pg 2 (some ([4, 55, 56], [4])) K kk) =
    cond (decide (i0 < 16))
     (cond (inB i0 16)
      (cond (cond (boolOf (l1.getD i0.toNat .dead)) (decide ((0 : Int) < i0)) false)
       (cond (decide (((l0.length + 1) * 8) ≤ 140737488355328))
        (kk (mkFr 71 [(4, .slice 3 (l0 ++ [.int .i64 i0]) false), (55, .agg 63 l1), (56, .int .i64 (IntKind.i64.wrap (i0 + 1)))] [(4, .own)]) ⟨[.var 23 (.agg 22 [.int .i64 i1, .int .i64 i2, .int .i64 i3, .int .i64 i4, .int .i64 i5]), .var 63 (.agg 63 l2)], []⟩)
        (none))
       (kk (mkFr 71 [(4, .slice 3 l0 false), (55, .agg 63 l1), (56, .int .i64 (IntKind.i64.wrap (i0 + 1)))] [(4, .own)]) ⟨[.var 23 (.agg 22 [.int .i64 i1, .int .i64 i2, .int .i64 i3, .int .i64 i4, .int .i64 i5]), .var 63 (.agg 63 l2)], []⟩))
      (none))
     (K (.exit 1) (mkFr 71 [(4, .slice 3 l0 false)] [(4, .own)]) ⟨[.var 23 (.agg 22 [.int .i64 i1, .int .i64 i2, .int .i64 i3, .int .i64 i4, .int .i64 i5]), .var 63 (.agg 63 l2)], []⟩) := by kernel_rfl
theorem it_isa_Reads_10 (F : Tab) {R : Type} (call : CallH R) (dep : Nat) (K : AX → Fr → Mm → Option R) (l1 : List AV) (i1 i2 i3 i4 i5 : Int) (l2 : List AV) : ∀ (fuel : Nat) (l0 : List AV) (i0 : Int),
    iter fuel (fun fr M' k => evC (cx F) 17 call dep code_isa_Reads_10 fr M' (roundK Pg 2 (some ([4, 55, 56], [4])) K k)) (mkFr 71 [(4, .slice 3 l0 false), (55, .agg 63 l1), (56, .int .i64 i0)] [(4, .own)]) ⟨[.var 23 (.agg 22 [.int .i64 i1, .int .i64 i2, .int .i64 i3, .int .i64 i4, .int .i64 i5]), .var 63 (.agg 63 l2)], []⟩ = (lt_isa_Reads_10 l1 i1 i2 i3 i4 i5 l2 (lf_isa_Reads_10 F l1 i1 i2 i3 i4 i5 l2 fuel l0 i0)).go K
  | 0, _, _ => rfl
  | fuel + 1, l0, i0 => (rd_isa_Reads_10 F call dep K (iter fuel _) l1 i1 i2 i3 i4 i5 l2 l0 i0).trans (go_cond (f := lt_isa_Reads_10 l1 i1 i2 i3 i4 i5 l2) (go_cond (f := lt_isa_Reads_10 l1 i1 i2 i3 i4 i5 l2) (go_cond (f := lt_isa_Reads_10 l1 i1 i2 i3 i4 i5 l2) (go_cond (f := lt_isa_Reads_10 l1 i1 i2 i3 i4 i5 l2) (it_isa_Reads_10 F call dep K l1 i1 i2 i3 i4 i5 l2 fuel (l0 ++ [.int .i64 i0]) (IntKind.i64.wrap (i0 + 1))) (rfl)) (it_isa_Reads_10 F call dep K l1 i1 i2 i3 i4 i5 l2 fuel l0 (IntKind.i64.wrap (i0 + 1)))) (rfl)) (rfl))
theorem ok_isa_Reads_10 (F : Tab) {dep : Nat} {fr : Fr} {M : Mm} {t : LT} (ht : lp_isa_Reads_10 F dep fr M = some t) {R : Type} (K : AX → Fr → Mm → Option R) (r : R) (hgo : t.go K = some r) :
    iter 100000 (fun fr M' k => evC (cx F) 17 (evF (cx F) dep) dep code_isa_Reads_10 fr M' (roundK Pg M.rows.length (some ([4, 55, 56], [4])) K k)) fr M = some r := by
  unfold lp_isa_Reads_10 at ht
  split at ht
  · rename_i hok
    split at ht
    · rename_i l0 l1 i0 i1 i2 i3 i4 i5 l2 h4 h55 h56 htf
      have he := okFr_eq hok
      simp only [List.map_cons, List.map_nil, h4, h55, h56, htf] at he
      obtain rfl := Option.some.inj ht
      rw [he]
      exact (it_isa_Reads_10 F _ _ K l1 i1 i2 i3 i4 i5 l2 100000 l0 i0).trans hgo
    · exact absurd ht (by simp)
  · exact absurd ht (by simp)
set_option maxRecDepth 100000 in
theorem at_isa_Reads_10 : (Try.f17.body.bind fun c => loopAt c 10) = some code_isa_Reads_10 := by kernel_rfl
noncomputable def code_ref04_Reads_5 : Code := ((Try.f18.body.bind fun c => loopAt c 5).getD .skip)
set_option maxRecDepth 100000 in
theorem rd_ref04_Reads_5 (F : Tab) {R : Type} (call : CallH R) (dep : Nat) (K : AX → Fr → Mm → Option R) (kk : Fr → Mm → Option R) (b0 b1 : Bool) (i1 i2 i3 i4 i5 : Int) (l0 : List AV) (i0 : Int) :
    evC (cx F) 18 call dep code_ref04_Reads_5 (mkFr 81 [(1, .ptr 0 [] 23 0), (3, .bool b0), (4, .bool b1), (5, .slice 3 l0 false), (6, .int .i64 i0)] [(5, .own)]) ⟨[.var 23 (.agg 22 [.int .i64 i1, .int .i64 i2, .int .i64 i3, .int .i64 i4, .int .i64 i5])], []⟩ (roundK Pg 1 (some ([1, 3, 4, 5, 6], [5])) K kk) =
    cond (decide (i0 < 16))
     (cond (cond b0 (cond (i2 == i0) true (cond b1 (cond (i3 == i0) true (i4 == i0)) (i4 == i0))) (cond b1 (cond (i3 == i0) true (i4 == i0)) (i4 == i0)))
      (cond (decide (((l0.length + 1) * 8) ≤ 140737488355328))
       (kk (mkFr 81 [(1, .ptr 0 [] 23 0), (3, .bool b0), (4, .bool b1), (5, .slice 3 (l0 ++ [.int .i64 i0]) false), (6, .int .i64 (IntKind.i64.wrap (i0 + 1)))] [(5, .own)]) ⟨[.var 23 (.agg 22 [.int .i64 i1, .int .i64 i2, .int .i64 i3, .int .i64 i4, .int .i64 i5])], []⟩)
       (none))
      (kk (mkFr 81 [(1, .ptr 0 [] 23 0), (3, .bool b0), (4, .bool b1), (5, .slice 3 l0 false), (6, .int .i64 (IntKind.i64.wrap (i0 + 1)))] [(5, .own)]) ⟨[.var 23 (.agg 22 [.int .i64 i1, .int .i64 i2, .int .i64 i3, .int .i64 i4, .int .i64 i5])], []⟩))
     (K (.exit 0) (mkFr 81 [(5, .slice 3 l0 false)] [(5, .own)]) ⟨[.var 23 (.agg 22 [.int .i64 i1, .int .i64 i2, .int .i64 i3, .int .i64 i4, .int .i64 i5])], []⟩) := by kernel_rfl
theorem it_ref04_Reads_5 (F : Tab) {R : Type} (call : CallH R) (dep : Nat) (K : AX → Fr → Mm → Option R) (b0 b1 : Bool) (i1 i2 i3 i4 i5 : Int) : ∀ (fuel : Nat) (l0 : List AV) (i0 : Int),
    iter fuel (fun fr M' k => evC (cx F) 18 call dep code_ref04_Reads_5 fr M' (roundK Pg 1 (some ([1, 3, 4, 5, 6], [5])) K k)) (mkFr 81 [(1, .ptr 0 [] 23 0), (3, .bool b0), (4, .bool b1), (5, .slice 3 l0 false), (6, .int .i64 i0)] [(5, .own)]) ⟨[.var 23 (.agg 22 [.int .i64 i1, .int .i64 i2, .int .i64 i3, .int .i64 i4, .int .i64 i5])], []⟩ = (lt_ref04_Reads_5 b0 b1 i1 i2 i3 i4 i5 (lf_ref04_Reads_5 F b0 b1 i1 i2 i3 i4 i5 fuel l0 i0)).go K
  | 0, _, _ => rfl
  | fuel + 1, l0, i0 => (rd_ref04_Reads_5 F call dep K (iter fuel _) b0 b1 i1 i2 i3 i4 i5 l0 i0).trans (go_cond (f := lt_ref04_Reads_5 b0 b1 i1 i2 i3 i4 i5) (go_cond (f := lt_ref04_Reads_5 b0 b1 i1 i2 i3 i4 i5) (go_cond (f := lt_ref04_Reads_5 b0 b1 i1 i2 i3 i4 i5) (it_ref04_Reads_5 F call dep K b0 b1 i1 i2 i3 i4 i5 fuel (l0 ++ [.int .i64 i0]) (IntKind.i64.wrap (i0 + 1))) (rfl)) (it_ref04_Reads_5 F call dep K b0 b1 i1 i2 i3 i4 i5 fuel l0 (IntKind.i64.wrap (i0 + 1)))) (rfl))
theorem ok_ref04_Reads_5 (F : Tab) {dep : Nat} {fr : Fr} {M : Mm} {t : LT} (ht : lp_ref04_Reads_5 F dep fr M = some t) {R : Type} (K : AX → Fr → Mm → Option R) (r : R) (hgo : t.go K = some r) :
    iter 100000 (fun fr M' k => evC (cx F) 18 (evF (cx F) dep) dep code_ref04_Reads_5 fr M' (roundK Pg M.rows.length (some ([1, 3, 4, 5, 6], [5])) K k)) fr M = some r := by
  unfold lp_ref04_Reads_5 at ht
  split at ht
  · rename_i hok
    split at ht
    · rename_i b0 b1 l0 i0 i1 i2 i3 i4 i5 h1 h3 h4 h5 h6 htf
      have he := okFr_eq hok
      simp only [List.map_cons, List.map_nil, h1, h3, h4, h5, h6, htf] at he
      obtain rfl := Option.some.inj ht
      rw [he]
      exact (it_ref04_Reads_5 F _ _ K b0 b1 i1 i2 i3 i4 i5 100000 l0 i0).trans hgo
    · exact absurd ht (by simp)
  · exact absurd ht (by simp)
set_option maxRecDepth 100000 in
theorem at_ref04_Reads_5 : (Try.f18.body.bind fun c => loopAt c 5) = some code_ref04_Reads_5 := by kernel_rfl
noncomputable def code_isa_Find_2 : Code := ((Try.f25.body.bind fun c => loopAt c 2).getD .skip)
set_option maxRecDepth 100000 in
theorem rd_isa_Find_2 (F : Tab) {R : Type} (call : CallH R) (dep : Nat) (K : AX → Fr → Mm → Option R) (kk : Fr → Mm → Option R) (s0 : List UInt8) (l0 : List AV) (i0 : Int) :
    evC (cx F) 25 call dep code_isa_Find_2 (mkFr 20 [(0, .str s0), (5, .agg 67 l0), (6, .int .i64 i0)] []) ⟨[], []⟩ (roundK Pg 0 (some ([0, 5, 6], [2])) K kk) =
    cond (decide (i0 < 49))
     (cond (inB i0 49)
      (cond (cond (!(s0 == [])) ((strOf ((partsOf (l0.getD i0.toNat .dead)).getD 0 .dead)) == s0) false)
       (K .ret (mkFr 20 [(2, .int .i64 i0)] []) ⟨[], []⟩)
       (kk (mkFr 20 [(0, .str s0), (5, .agg 67 l0), (6, .int .i64 (IntKind.i64.wrap (i0 + 1)))] []) ⟨[], []⟩))
      (none))
     (K (.exit 0) (mkFr 20 [] []) ⟨[], []⟩) := by kernel_rfl
theorem it_isa_Find_2 (F : Tab) {R : Type} (call : CallH R) (dep : Nat) (K : AX → Fr → Mm → Option R) (s0 : List UInt8) (l0 : List AV) : ∀ (fuel : Nat) (i0 : Int),
    iter fuel (fun fr M' k => evC (cx F) 25 call dep code_isa_Find_2 fr M' (roundK Pg 0 (some ([0, 5, 6], [2])) K k)) (mkFr 20 [(0, .str s0), (5, .agg 67 l0), (6, .int .i64 i0)] []) ⟨[], []⟩ = (lt_isa_Find_2 s0 l0 (lf_isa_Find_2 F s0 l0 fuel i0)).go K
  | 0, _ => rfl
  | fuel + 1, i0 => (rd_isa_Find_2 F call dep K (iter fuel _) s0 l0 i0).trans (go_cond (f := lt_isa_Find_2 s0 l0) (go_cond (f := lt_isa_Find_2 s0 l0) (go_cond (f := lt_isa_Find_2 s0 l0) (rfl) (it_isa_Find_2 F call dep K s0 l0 fuel (IntKind.i64.wrap (i0 + 1)))) (rfl)) (rfl))
theorem ok_isa_Find_2 (F : Tab) {dep : Nat} {fr : Fr} {M : Mm} {t : LT} (ht : lp_isa_Find_2 F dep fr M = some t) {R : Type} (K : AX → Fr → Mm → Option R) (r : R) (hgo : t.go K = some r) :
    iter 100000 (fun fr M' k => evC (cx F) 25 (evF (cx F) dep) dep code_isa_Find_2 fr M' (roundK Pg M.rows.length (some ([0, 5, 6], [2])) K k)) fr M = some r := by
  unfold lp_isa_Find_2 at ht
  split at ht
  · rename_i hok
    split at ht
    · rename_i s0 l0 i0 h0 h5 h6 htf
      have he := okFr_eq hok
      simp only [List.map_cons, List.map_nil, h0, h5, h6, htf] at he
      obtain rfl := Option.some.inj ht
      rw [he]
      exact (it_isa_Find_2 F _ _ K s0 l0 100000 i0).trans hgo
    · exact absurd ht (by simp)
  · exact absurd ht (by simp)
set_option maxRecDepth 100000 in
theorem at_isa_Find_2 : (Try.f25.body.bind fun c => loopAt c 2) = some code_isa_Find_2 := by kernel_rfl
noncomputable def code_ref04_Find_3 : Code := ((Try.f32.body.bind fun c => loopAt c 3).getD .skip)
set_option maxRecDepth 100000 in
theorem rd_ref04_Find_3 (F : Tab) {R : Type} (call : CallH R) (dep : Nat) (K : AX → Fr → Mm → Option R) (kk : Fr → Mm → Option R) (s0 : List UInt8) (l0 : List AV) (i0 : Int) :
    evC (cx F) 32 call dep code_ref04_Find_3 (mkFr 23 [(0, .str s0), (3, .slice 9 l0 false), (4, .int .i64 i0)] []) ⟨[], []⟩ (roundK Pg 0 (some ([0, 3, 4], [2])) K kk) =
    cond (decide (i0 < ((l0.length : Nat) : Int)))
     (cond (cond (inB i0 l0.length) true false)
      (cond (cond ((strOf (l0.getD i0.toNat .dead)) == s0) (!(s0 == [])) false)
       (K .ret (mkFr 23 [(2, .int .i64 i0)] []) ⟨[], []⟩)
       (kk (mkFr 23 [(0, .str s0), (3, .slice 9 l0 false), (4, .int .i64 (IntKind.i64.wrap (i0 + 1)))] []) ⟨[], []⟩))
      (none))
     (K (.exit 0) (mkFr 23 [] []) ⟨[], []⟩) := by kernel_rfl
theorem it_ref04_Find_3 (F : Tab) {R : Type} (call : CallH R) (dep : Nat) (K : AX → Fr → Mm → Option R) (s0 : List UInt8) (l0 : List AV) : ∀ (fuel : Nat) (i0 : Int),
    iter fuel (fun fr M' k => evC (cx F) 32 call dep code_ref04_Find_3 fr M' (roundK Pg 0 (some ([0, 3, 4], [2])) K k)) (mkFr 23 [(0, .str s0), (3, .slice 9 l0 false), (4, .int .i64 i0)] []) ⟨[], []⟩ = (lt_ref04_Find_3 s0 l0 (lf_ref04_Find_3 F s0 l0 fuel i0)).go K
  | 0, _ => rfl
  | fuel + 1, i0 => (rd_ref04_Find_3 F call dep K (iter fuel _) s0 l0 i0).trans (go_cond (f := lt_ref04_Find_3 s0 l0) (go_cond (f := lt_ref04_Find_3 s0 l0) (go_cond (f := lt_ref04_Find_3 s0 l0) (rfl) (it_ref04_Find_3 F call dep K s0 l0 fuel (IntKind.i64.wrap (i0 + 1)))) (rfl)) (rfl))
theorem ok_ref04_Find_3 (F : Tab) {dep : Nat} {fr : Fr} {M : Mm} {t : LT} (ht : lp_ref04_Find_3 F dep fr M = some t) {R : Type} (K : AX → Fr → Mm → Option R) (r : R) (hgo : t.go K = some r) :
    iter 100000 (fun fr M' k => evC (cx F) 32 (evF (cx F) dep) dep code_ref04_Find_3 fr M' (roundK Pg M.rows.length (some ([0, 3, 4], [2])) K k)) fr M = some r := by
  unfold lp_ref04_Find_3 at ht
  split at ht
  · rename_i hok
    split at ht
    · rename_i s0 l0 i0 h0 h3 h4 htf
      have he := okFr_eq hok
      simp only [List.map_cons, List.map_nil, h0, h3, h4, htf] at he
      obtain rfl := Option.some.inj ht
      rw [he]
      exact (it_ref04_Find_3 F _ _ K s0 l0 100000 i0).trans hgo
    · exact absurd ht (by simp)
  · exact absurd ht (by simp)
set_option maxRecDepth 100000 in
theorem at_ref04_Find_3 : (Try.f32.body.bind fun c => loopAt c 3) = some code_ref04_Find_3 := by kernel_rfl
end Go.Proofs.Ytadjlohgmfclpaa
