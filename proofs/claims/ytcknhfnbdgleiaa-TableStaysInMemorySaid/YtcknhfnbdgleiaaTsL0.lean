/- The loops come to what their functions say. (Printed by a program of mine, gen.py.) -/
import Derived.Test.YtcknhfnbdgleiaaTsC
set_option linter.unusedVariables false
set_option linter.unusedSimpArgs false
namespace Go.Proofs.Ytcknhfnbdgleiaa.S2
open Go.AE
noncomputable section
theorem bad_law10_TableStaysInMemory_13 {R : Type} (i0 i1 i2 : Int) (b0 : Bool) (l0 : List AV) (i3 : Int) (l1 : List AV) (i5 i6 : Int) (l2 l3 : List AV) (K : AX → Fr → Mm → Option R) : (lt_law10_TableStaysInMemory_13 i0 i1 i2 b0 l0 i3 l1 i5 i6 l2 l3 LO.bad).go K = none := by kernel_rfl
noncomputable def code_law10_TableStaysInMemory_13 : Code := ((Try.f4.body.bind fun c => loopAt c 13).getD .skip)
set_option maxRecDepth 100000 in
theorem rd_law10_TableStaysInMemory_13 (F : Tab) {R : Type} (call : CallH R) (dep : Nat) (K : AX → Fr → Mm → Option R) (kk : Fr → Mm → Option R) (i0 i1 i2 : Int) (b0 : Bool) (l0 : List AV) (i3 : Int) (l1 : List AV) (i5 i6 : Int) (l2 l3 : List AV) (s : Int) :
    evC (cx F) 4 call dep code_law10_TableStaysInMemory_13 (sF_law10_TableStaysInMemory_13 i0 i1 i2 b0 l0 i3 l1 i5 i6 l2 l3 s) (sM_law10_TableStaysInMemory_13 i0 i1 i2 b0 l0 i3 l1 i5 i6 l2 l3 s) (roundK Pg [] 2 (some ([1, 2, 3, 4, 5, 11, 143, 144, 145], [1, 2, 3, 4, 5, 10, 11])) K kk) =
    (st_law10_TableStaysInMemory_13 F i0 i1 i2 b0 l0 i3 l1 i5 i6 l2 l3 s).go (lt_law10_TableStaysInMemory_13 i0 i1 i2 b0 l0 i3 l1 i5 i6 l2 l3) K (fun s => kk (sF_law10_TableStaysInMemory_13 i0 i1 i2 b0 l0 i3 l1 i5 i6 l2 l3 s) (sM_law10_TableStaysInMemory_13 i0 i1 i2 b0 l0 i3 l1 i5 i6 l2 l3 s)) := by kernel_rfl
set_option maxRecDepth 100000 in
theorem it_law10_TableStaysInMemory_13 (F : Tab) {R : Type} (call : CallH R) (dep : Nat) (K : AX → Fr → Mm → Option R) (i0 i1 i2 : Int) (b0 : Bool) (l0 : List AV) (i3 : Int) (l1 : List AV) (i5 i6 : Int) (l2 l3 : List AV) (fuel : Nat) (s : Int) :
    iter fuel (fun fr M' k => evC (cx F) 4 call dep code_law10_TableStaysInMemory_13 fr M' (roundK Pg [] 2 (some ([1, 2, 3, 4, 5, 11, 143, 144, 145], [1, 2, 3, 4, 5, 10, 11])) K k)) (sF_law10_TableStaysInMemory_13 i0 i1 i2 b0 l0 i3 l1 i5 i6 l2 l3 s) (sM_law10_TableStaysInMemory_13 i0 i1 i2 b0 l0 i3 l1 i5 i6 l2 l3 s) = (lt_law10_TableStaysInMemory_13 i0 i1 i2 b0 l0 i3 l1 i5 i6 l2 l3 (Tr.run (st_law10_TableStaysInMemory_13 F i0 i1 i2 b0 l0 i3 l1 i5 i6 l2 l3) fuel s)).go K :=
  iter_tr (B := fun fr M' k => evC (cx F) 4 call dep code_law10_TableStaysInMemory_13 fr M' (roundK Pg [] 2 (some ([1, 2, 3, 4, 5, 11, 143, 144, 145], [1, 2, 3, 4, 5, 10, 11])) K k)) (step := st_law10_TableStaysInMemory_13 F i0 i1 i2 b0 l0 i3 l1 i5 i6 l2 l3) (lt := lt_law10_TableStaysInMemory_13 i0 i1 i2 b0 l0 i3 l1 i5 i6 l2 l3) (sF := sF_law10_TableStaysInMemory_13 i0 i1 i2 b0 l0 i3 l1 i5 i6 l2 l3) (sM := sM_law10_TableStaysInMemory_13 i0 i1 i2 b0 l0 i3 l1 i5 i6 l2 l3) (K := K) (bad_law10_TableStaysInMemory_13 i0 i1 i2 b0 l0 i3 l1 i5 i6 l2 l3 K) (fun s kk => rd_law10_TableStaysInMemory_13 F call dep K kk i0 i1 i2 b0 l0 i3 l1 i5 i6 l2 l3 s) fuel s
set_option maxRecDepth 100000 in
theorem e1_law10_TableStaysInMemory_13 (fr : Fr) (M : Mm) : pt_law10_TableStaysInMemory_13.fr fr = sF_law10_TableStaysInMemory_13 (intOf (fr.tmps.getD 1 .dead)) (intOf (fr.tmps.getD 2 .dead)) (intOf (fr.tmps.getD 3 .dead)) (boolOf (fr.tmps.getD 4 .dead)) (listOf (fr.tmps.getD 143 .dead)) (intOf (fr.tmps.getD 144 .dead)) (listOf ((partsOf (valR (M.rows.getD 0 (.arr 0 [])))).getD 0 .dead)) (intOf ((partsOf (valR (M.rows.getD 1 (.arr 0 [])))).getD 0 .dead)) (intOf ((partsOf (valR (M.rows.getD 1 (.arr 0 [])))).getD 1 .dead)) (listOf ((partsOf (valR (M.rows.getD 1 (.arr 0 [])))).getD 2 .dead)) (listOf ((partsOf (valR (M.rows.getD 1 (.arr 0 [])))).getD 3 .dead)) ((intOf (fr.tmps.getD 145 .dead))) := by kernel_rfl
set_option maxRecDepth 100000 in
theorem e2_law10_TableStaysInMemory_13 (fr : Fr) (M : Mm) : pt_law10_TableStaysInMemory_13.mm M = sM_law10_TableStaysInMemory_13 (intOf (fr.tmps.getD 1 .dead)) (intOf (fr.tmps.getD 2 .dead)) (intOf (fr.tmps.getD 3 .dead)) (boolOf (fr.tmps.getD 4 .dead)) (listOf (fr.tmps.getD 143 .dead)) (intOf (fr.tmps.getD 144 .dead)) (listOf ((partsOf (valR (M.rows.getD 0 (.arr 0 [])))).getD 0 .dead)) (intOf ((partsOf (valR (M.rows.getD 1 (.arr 0 [])))).getD 0 .dead)) (intOf ((partsOf (valR (M.rows.getD 1 (.arr 0 [])))).getD 1 .dead)) (listOf ((partsOf (valR (M.rows.getD 1 (.arr 0 [])))).getD 2 .dead)) (listOf ((partsOf (valR (M.rows.getD 1 (.arr 0 [])))).getD 3 .dead)) ((intOf (fr.tmps.getD 145 .dead))) := by kernel_rfl
set_option maxRecDepth 100000 in
theorem ok_law10_TableStaysInMemory_13 (F : Tab) {dep : Nat} {fr : Fr} {M : Mm} {t : LT} (ht : lp_law10_TableStaysInMemory_13 F dep fr M = some t) {R : Type} (K : AX → Fr → Mm → Option R) (r : R) (hgo : t.go K = some r) :
    iter 100000 (fun fr' M' k => evC (cx F) 4 (evF (cx F) dep) dep code_law10_TableStaysInMemory_13 fr' M' (roundK Pg [] M.rows.length (some ([1, 2, 3, 4, 5, 11, 143, 144, 145], [1, 2, 3, 4, 5, 10, 11])) K k)) fr M = some r := by
  unfold lp_law10_TableStaysInMemory_13 at ht
  split at ht
  · rename_i hok
    obtain ⟨h1, h2⟩ := StP.ok_eq hok
    obtain rfl := Option.some.inj ht
    exact ok_of (X := fun fr M => iter 100000 (fun fr' M' k => evC (cx F) 4 (evF (cx F) dep) dep code_law10_TableStaysInMemory_13 fr' M' (roundK Pg [] M.rows.length (some ([1, 2, 3, 4, 5, 11, 143, 144, 145], [1, 2, 3, 4, 5, 10, 11])) K k)) fr M) (h1.trans (e1_law10_TableStaysInMemory_13 fr M)) (h2.trans (e2_law10_TableStaysInMemory_13 fr M)) (it_law10_TableStaysInMemory_13 F _ _ K (intOf (fr.tmps.getD 1 .dead)) (intOf (fr.tmps.getD 2 .dead)) (intOf (fr.tmps.getD 3 .dead)) (boolOf (fr.tmps.getD 4 .dead)) (listOf (fr.tmps.getD 143 .dead)) (intOf (fr.tmps.getD 144 .dead)) (listOf ((partsOf (valR (M.rows.getD 0 (.arr 0 [])))).getD 0 .dead)) (intOf ((partsOf (valR (M.rows.getD 1 (.arr 0 [])))).getD 0 .dead)) (intOf ((partsOf (valR (M.rows.getD 1 (.arr 0 [])))).getD 1 .dead)) (listOf ((partsOf (valR (M.rows.getD 1 (.arr 0 [])))).getD 2 .dead)) (listOf ((partsOf (valR (M.rows.getD 1 (.arr 0 [])))).getD 3 .dead)) 100000 ((intOf (fr.tmps.getD 145 .dead)))) hgo
  · exact absurd ht (by simp)
set_option maxRecDepth 100000 in
theorem at_law10_TableStaysInMemory_13 : (Try.f4.body.bind fun c => loopAt c 13) = some code_law10_TableStaysInMemory_13 := by kernel_rfl
end
end Go.Proofs.Ytcknhfnbdgleiaa.S2
