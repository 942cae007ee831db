/- The loops come to what their functions say. (Printed by a program of mine, gen.py.) -/
import Derived.Test.YtcknhfnbdgleiaaTaC
set_option linter.unusedVariables false
set_option linter.unusedSimpArgs false
namespace Go.Proofs.Ytcknhfnbdgleiaa
open Go.AE
noncomputable section
theorem bad_ref06_Write_5 {R : Type} (i0 : Int) (s0 : List UInt8) (l0 l1 : List AV) (n0 n1 : Nat) (K : AX → Fr → Mm → Option R) : (lt_ref06_Write_5 i0 s0 l0 l1 n0 n1 LO.bad).go K = none := by kernel_rfl
noncomputable def code_ref06_Write_5 : Code := ((Try.f86.body.bind fun c => loopAt c 5).getD .skip)
set_option maxRecDepth 100000 in
theorem rd_ref06_Write_5 (F : Tab) {R : Type} (call : CallH R) (dep : Nat) (K : AX → Fr → Mm → Option R) (kk : Fr → Mm → Option R) (i0 : Int) (s0 : List UInt8) (l0 l1 : List AV) (n0 n1 : Nat) (s : Int × List AV) :
    evC (cx F) 86 call dep code_ref06_Write_5 (sF_ref06_Write_5 i0 s0 l0 l1 n0 n1 s) (sM_ref06_Write_5 i0 s0 l0 l1 n0 n1 s) (roundK Pg [] 6 (some ([1, 2, 6, 7, 8], [6, 7])) K kk) =
    (st_ref06_Write_5 F i0 s0 l0 l1 n0 n1 s).go (lt_ref06_Write_5 i0 s0 l0 l1 n0 n1) K (fun s => kk (sF_ref06_Write_5 i0 s0 l0 l1 n0 n1 s) (sM_ref06_Write_5 i0 s0 l0 l1 n0 n1 s)) := by kernel_rfl
set_option maxRecDepth 100000 in
theorem it_ref06_Write_5 (F : Tab) {R : Type} (call : CallH R) (dep : Nat) (K : AX → Fr → Mm → Option R) (i0 : Int) (s0 : List UInt8) (l0 l1 : List AV) (n0 n1 : Nat) (fuel : Nat) (s : Int × List AV) :
    iter fuel (fun fr M' k => evC (cx F) 86 call dep code_ref06_Write_5 fr M' (roundK Pg [] 6 (some ([1, 2, 6, 7, 8], [6, 7])) K k)) (sF_ref06_Write_5 i0 s0 l0 l1 n0 n1 s) (sM_ref06_Write_5 i0 s0 l0 l1 n0 n1 s) = (lt_ref06_Write_5 i0 s0 l0 l1 n0 n1 (Tr.run (st_ref06_Write_5 F i0 s0 l0 l1 n0 n1) fuel s)).go K :=
  iter_tr (B := fun fr M' k => evC (cx F) 86 call dep code_ref06_Write_5 fr M' (roundK Pg [] 6 (some ([1, 2, 6, 7, 8], [6, 7])) K k)) (step := st_ref06_Write_5 F i0 s0 l0 l1 n0 n1) (lt := lt_ref06_Write_5 i0 s0 l0 l1 n0 n1) (sF := sF_ref06_Write_5 i0 s0 l0 l1 n0 n1) (sM := sM_ref06_Write_5 i0 s0 l0 l1 n0 n1) (K := K) (bad_ref06_Write_5 i0 s0 l0 l1 n0 n1 K) (fun s kk => rd_ref06_Write_5 F call dep K kk i0 s0 l0 l1 n0 n1 s) fuel s
set_option maxRecDepth 100000 in
theorem e1_ref06_Write_5 (fr : Fr) (M : Mm) : pt_ref06_Write_5.fr fr = sF_ref06_Write_5 (intOf (fr.tmps.getD 1 .dead)) (strOf (fr.tmps.getD 2 .dead)) (listOf ((partsOf (valR (M.rows.getD 0 (.arr 0 [])))).getD 0 .dead)) (listOf ((partsOf (valR (M.rows.getD 2 (.arr 0 [])))).getD 0 .dead)) (mlenOf ((partsOf (valR (M.rows.getD 3 (.arr 0 [])))).getD 0 .dead)) (mlenOf ((partsOf (valR (M.rows.getD 5 (.arr 0 [])))).getD 0 .dead)) ((intOf (fr.tmps.getD 8 .dead)), (listR (M.rows.getD 4 (.arr 0 [])))) := by kernel_rfl
set_option maxRecDepth 100000 in
theorem e2_ref06_Write_5 (fr : Fr) (M : Mm) : pt_ref06_Write_5.mm M = sM_ref06_Write_5 (intOf (fr.tmps.getD 1 .dead)) (strOf (fr.tmps.getD 2 .dead)) (listOf ((partsOf (valR (M.rows.getD 0 (.arr 0 [])))).getD 0 .dead)) (listOf ((partsOf (valR (M.rows.getD 2 (.arr 0 [])))).getD 0 .dead)) (mlenOf ((partsOf (valR (M.rows.getD 3 (.arr 0 [])))).getD 0 .dead)) (mlenOf ((partsOf (valR (M.rows.getD 5 (.arr 0 [])))).getD 0 .dead)) ((intOf (fr.tmps.getD 8 .dead)), (listR (M.rows.getD 4 (.arr 0 [])))) := by kernel_rfl
set_option maxRecDepth 100000 in
theorem ok_ref06_Write_5 (F : Tab) {dep : Nat} {fr : Fr} {M : Mm} {t : LT} (ht : lp_ref06_Write_5 F dep fr M = some t) {R : Type} (K : AX → Fr → Mm → Option R) (r : R) (hgo : t.go K = some r) :
    iter 100000 (fun fr' M' k => evC (cx F) 86 (evF (cx F) dep) dep code_ref06_Write_5 fr' M' (roundK Pg [] M.rows.length (some ([1, 2, 6, 7, 8], [6, 7])) K k)) fr M = some r := by
  unfold lp_ref06_Write_5 at ht
  split at ht
  · rename_i hok
    obtain ⟨h1, h2⟩ := StP.ok_eq hok
    obtain rfl := Option.some.inj ht
    exact ok_of (X := fun fr M => iter 100000 (fun fr' M' k => evC (cx F) 86 (evF (cx F) dep) dep code_ref06_Write_5 fr' M' (roundK Pg [] M.rows.length (some ([1, 2, 6, 7, 8], [6, 7])) K k)) fr M) (h1.trans (e1_ref06_Write_5 fr M)) (h2.trans (e2_ref06_Write_5 fr M)) (it_ref06_Write_5 F _ _ K (intOf (fr.tmps.getD 1 .dead)) (strOf (fr.tmps.getD 2 .dead)) (listOf ((partsOf (valR (M.rows.getD 0 (.arr 0 [])))).getD 0 .dead)) (listOf ((partsOf (valR (M.rows.getD 2 (.arr 0 [])))).getD 0 .dead)) (mlenOf ((partsOf (valR (M.rows.getD 3 (.arr 0 [])))).getD 0 .dead)) (mlenOf ((partsOf (valR (M.rows.getD 5 (.arr 0 [])))).getD 0 .dead)) 100000 ((intOf (fr.tmps.getD 8 .dead)), (listR (M.rows.getD 4 (.arr 0 []))))) hgo
  · exact absurd ht (by simp)
set_option maxRecDepth 100000 in
theorem at_ref06_Write_5 : (Try.f86.body.bind fun c => loopAt c 5) = some code_ref06_Write_5 := by kernel_rfl
theorem bad_ref06_Diff_3 {R : Type} (l1 l2 : List AV) (K : AX → Fr → Mm → Option R) : (lt_ref06_Diff_3 l1 l2 LO.bad).go K = none := by kernel_rfl
noncomputable def code_ref06_Diff_3 : Code := ((Try.f89.body.bind fun c => loopAt c 3).getD .skip)
set_option maxRecDepth 100000 in
theorem rd_ref06_Diff_3 (F : Tab) {R : Type} (call : CallH R) (dep : Nat) (K : AX → Fr → Mm → Option R) (kk : Fr → Mm → Option R) (l1 l2 : List AV) (s : List AV × Int) :
    evC (cx F) 89 call dep code_ref06_Diff_3 (sF_ref06_Diff_3 l1 l2 s) (sM_ref06_Diff_3 l1 l2 s) (roundK Pg [] 2 (some ([2, 3, 5, 6], [5])) K kk) =
    (st_ref06_Diff_3 F l1 l2 s).go (lt_ref06_Diff_3 l1 l2) K (fun s => kk (sF_ref06_Diff_3 l1 l2 s) (sM_ref06_Diff_3 l1 l2 s)) := by kernel_rfl
set_option maxRecDepth 100000 in
theorem it_ref06_Diff_3 (F : Tab) {R : Type} (call : CallH R) (dep : Nat) (K : AX → Fr → Mm → Option R) (l1 l2 : List AV) (fuel : Nat) (s : List AV × Int) :
    iter fuel (fun fr M' k => evC (cx F) 89 call dep code_ref06_Diff_3 fr M' (roundK Pg [] 2 (some ([2, 3, 5, 6], [5])) K k)) (sF_ref06_Diff_3 l1 l2 s) (sM_ref06_Diff_3 l1 l2 s) = (lt_ref06_Diff_3 l1 l2 (Tr.run (st_ref06_Diff_3 F l1 l2) fuel s)).go K :=
  iter_tr (B := fun fr M' k => evC (cx F) 89 call dep code_ref06_Diff_3 fr M' (roundK Pg [] 2 (some ([2, 3, 5, 6], [5])) K k)) (step := st_ref06_Diff_3 F l1 l2) (lt := lt_ref06_Diff_3 l1 l2) (sF := sF_ref06_Diff_3 l1 l2) (sM := sM_ref06_Diff_3 l1 l2) (K := K) (bad_ref06_Diff_3 l1 l2 K) (fun s kk => rd_ref06_Diff_3 F call dep K kk l1 l2 s) fuel s
set_option maxRecDepth 100000 in
theorem e1_ref06_Diff_3 (fr : Fr) (M : Mm) : pt_ref06_Diff_3.fr fr = sF_ref06_Diff_3 (listOf ((partsOf (valR (M.rows.getD 0 (.arr 0 [])))).getD 0 .dead)) (listOf ((partsOf (valR (M.rows.getD 1 (.arr 0 [])))).getD 0 .dead)) ((listOf (fr.tmps.getD 5 .dead)), (intOf (fr.tmps.getD 6 .dead))) := by kernel_rfl
set_option maxRecDepth 100000 in
theorem e2_ref06_Diff_3 (fr : Fr) (M : Mm) : pt_ref06_Diff_3.mm M = sM_ref06_Diff_3 (listOf ((partsOf (valR (M.rows.getD 0 (.arr 0 [])))).getD 0 .dead)) (listOf ((partsOf (valR (M.rows.getD 1 (.arr 0 [])))).getD 0 .dead)) ((listOf (fr.tmps.getD 5 .dead)), (intOf (fr.tmps.getD 6 .dead))) := by kernel_rfl
set_option maxRecDepth 100000 in
theorem ok_ref06_Diff_3 (F : Tab) {dep : Nat} {fr : Fr} {M : Mm} {t : LT} (ht : lp_ref06_Diff_3 F dep fr M = some t) {R : Type} (K : AX → Fr → Mm → Option R) (r : R) (hgo : t.go K = some r) :
    iter 100000 (fun fr' M' k => evC (cx F) 89 (evF (cx F) dep) dep code_ref06_Diff_3 fr' M' (roundK Pg [] M.rows.length (some ([2, 3, 5, 6], [5])) K k)) fr M = some r := by
  unfold lp_ref06_Diff_3 at ht
  split at ht
  · rename_i hok
    obtain ⟨h1, h2⟩ := StP.ok_eq hok
    obtain rfl := Option.some.inj ht
    exact ok_of (X := fun fr M => iter 100000 (fun fr' M' k => evC (cx F) 89 (evF (cx F) dep) dep code_ref06_Diff_3 fr' M' (roundK Pg [] M.rows.length (some ([2, 3, 5, 6], [5])) K k)) fr M) (h1.trans (e1_ref06_Diff_3 fr M)) (h2.trans (e2_ref06_Diff_3 fr M)) (it_ref06_Diff_3 F _ _ K (listOf ((partsOf (valR (M.rows.getD 0 (.arr 0 [])))).getD 0 .dead)) (listOf ((partsOf (valR (M.rows.getD 1 (.arr 0 [])))).getD 0 .dead)) 100000 ((listOf (fr.tmps.getD 5 .dead)), (intOf (fr.tmps.getD 6 .dead)))) hgo
  · exact absurd ht (by simp)
set_option maxRecDepth 100000 in
theorem at_ref06_Diff_3 : (Try.f89.body.bind fun c => loopAt c 3) = some code_ref06_Diff_3 := by kernel_rfl
theorem bad_ref06_Load_6 {R : Type} (i0 : Int) (l0 : List AV) (K : AX → Fr → Mm → Option R) : (lt_ref06_Load_6 i0 l0 LO.bad).go K = none := by kernel_rfl
noncomputable def code_ref06_Load_6 : Code := ((Try.f123.body.bind fun c => loopAt c 6).getD .skip)
set_option maxRecDepth 100000 in
theorem rd_ref06_Load_6 (F : Tab) {R : Type} (call : CallH R) (dep : Nat) (K : AX → Fr → Mm → Option R) (kk : Fr → Mm → Option R) (i0 : Int) (l0 : List AV) (s : Int × Int) :
    evC (cx F) 123 call dep code_ref06_Load_6 (sF_ref06_Load_6 i0 l0 s) (sM_ref06_Load_6 i0 l0 s) (roundK Pg [] 2 (some ([1, 3, 6, 8, 9], [6, 8])) K kk) =
    (st_ref06_Load_6 F i0 l0 s).go (lt_ref06_Load_6 i0 l0) K (fun s => kk (sF_ref06_Load_6 i0 l0 s) (sM_ref06_Load_6 i0 l0 s)) := by kernel_rfl
set_option maxRecDepth 100000 in
theorem it_ref06_Load_6 (F : Tab) {R : Type} (call : CallH R) (dep : Nat) (K : AX → Fr → Mm → Option R) (i0 : Int) (l0 : List AV) (fuel : Nat) (s : Int × Int) :
    iter fuel (fun fr M' k => evC (cx F) 123 call dep code_ref06_Load_6 fr M' (roundK Pg [] 2 (some ([1, 3, 6, 8, 9], [6, 8])) K k)) (sF_ref06_Load_6 i0 l0 s) (sM_ref06_Load_6 i0 l0 s) = (lt_ref06_Load_6 i0 l0 (Tr.run (st_ref06_Load_6 F i0 l0) fuel s)).go K :=
  iter_tr (B := fun fr M' k => evC (cx F) 123 call dep code_ref06_Load_6 fr M' (roundK Pg [] 2 (some ([1, 3, 6, 8, 9], [6, 8])) K k)) (step := st_ref06_Load_6 F i0 l0) (lt := lt_ref06_Load_6 i0 l0) (sF := sF_ref06_Load_6 i0 l0) (sM := sM_ref06_Load_6 i0 l0) (K := K) (bad_ref06_Load_6 i0 l0 K) (fun s kk => rd_ref06_Load_6 F call dep K kk i0 l0 s) fuel s
set_option maxRecDepth 100000 in
theorem e1_ref06_Load_6 (fr : Fr) (M : Mm) : pt_ref06_Load_6.fr fr = sF_ref06_Load_6 (intOf (fr.tmps.getD 1 .dead)) (listOf ((partsOf (valR (M.rows.getD 0 (.arr 0 [])))).getD 0 .dead)) ((intOf (fr.tmps.getD 8 .dead)), (intOf (fr.tmps.getD 9 .dead))) := by kernel_rfl
set_option maxRecDepth 100000 in
theorem e2_ref06_Load_6 (fr : Fr) (M : Mm) : pt_ref06_Load_6.mm M = sM_ref06_Load_6 (intOf (fr.tmps.getD 1 .dead)) (listOf ((partsOf (valR (M.rows.getD 0 (.arr 0 [])))).getD 0 .dead)) ((intOf (fr.tmps.getD 8 .dead)), (intOf (fr.tmps.getD 9 .dead))) := by kernel_rfl
set_option maxRecDepth 100000 in
theorem ok_ref06_Load_6 (F : Tab) {dep : Nat} {fr : Fr} {M : Mm} {t : LT} (ht : lp_ref06_Load_6 F dep fr M = some t) {R : Type} (K : AX → Fr → Mm → Option R) (r : R) (hgo : t.go K = some r) :
    iter 100000 (fun fr' M' k => evC (cx F) 123 (evF (cx F) dep) dep code_ref06_Load_6 fr' M' (roundK Pg [] M.rows.length (some ([1, 3, 6, 8, 9], [6, 8])) K k)) fr M = some r := by
  unfold lp_ref06_Load_6 at ht
  split at ht
  · rename_i hok
    obtain ⟨h1, h2⟩ := StP.ok_eq hok
    obtain rfl := Option.some.inj ht
    exact ok_of (X := fun fr M => iter 100000 (fun fr' M' k => evC (cx F) 123 (evF (cx F) dep) dep code_ref06_Load_6 fr' M' (roundK Pg [] M.rows.length (some ([1, 3, 6, 8, 9], [6, 8])) K k)) fr M) (h1.trans (e1_ref06_Load_6 fr M)) (h2.trans (e2_ref06_Load_6 fr M)) (it_ref06_Load_6 F _ _ K (intOf (fr.tmps.getD 1 .dead)) (listOf ((partsOf (valR (M.rows.getD 0 (.arr 0 [])))).getD 0 .dead)) 100000 ((intOf (fr.tmps.getD 8 .dead)), (intOf (fr.tmps.getD 9 .dead)))) hgo
  · exact absurd ht (by simp)
set_option maxRecDepth 100000 in
theorem at_ref06_Load_6 : (Try.f123.body.bind fun c => loopAt c 6) = some code_ref06_Load_6 := by kernel_rfl
end
end Go.Proofs.Ytcknhfnbdgleiaa
