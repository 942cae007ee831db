/- The loops come to what their functions say. (Printed by a program of mine, gen.py.) -/
import Derived.Test.YtcknhfnbdgleiaaTbC
set_option linter.unusedVariables false
set_option linter.unusedSimpArgs false
namespace Go.Proofs.Ytcknhfnbdgleiaa
open Go.AE
noncomputable section
theorem bad_ref25_same_4 {R : Type} (i1 i2 i3 i4 i5 : Int) (l0 : List AV) (i6 i7 i8 i9 i10 : Int) (l1 : List AV) (K : AX → Fr → Mm → Option R) : (lt_ref25_same_4 i1 i2 i3 i4 i5 l0 i6 i7 i8 i9 i10 l1 LO.bad).go K = none := by kernel_rfl
noncomputable def code_ref25_same_4 : Code := ((Try.f103.body.bind fun c => loopAt c 4).getD .skip)
set_option maxRecDepth 100000 in
theorem rd_ref25_same_4 (F : Tab) {R : Type} (call : CallH R) (dep : Nat) (K : AX → Fr → Mm → Option R) (kk : Fr → Mm → Option R) (i1 i2 i3 i4 i5 : Int) (l0 : List AV) (i6 i7 i8 i9 i10 : Int) (l1 : List AV) (s : Int) :
    evC (cx F) 103 call dep code_ref25_same_4 (sF_ref25_same_4 i1 i2 i3 i4 i5 l0 i6 i7 i8 i9 i10 l1 s) (sM_ref25_same_4 i1 i2 i3 i4 i5 l0 i6 i7 i8 i9 i10 l1 s) (roundK Pg [] 2 (some ([2, 3, 5], [4])) K kk) =
    (st_ref25_same_4 F i1 i2 i3 i4 i5 l0 i6 i7 i8 i9 i10 l1 s).go (lt_ref25_same_4 i1 i2 i3 i4 i5 l0 i6 i7 i8 i9 i10 l1) K (fun s => kk (sF_ref25_same_4 i1 i2 i3 i4 i5 l0 i6 i7 i8 i9 i10 l1 s) (sM_ref25_same_4 i1 i2 i3 i4 i5 l0 i6 i7 i8 i9 i10 l1 s)) := by kernel_rfl
set_option maxRecDepth 100000 in
theorem it_ref25_same_4 (F : Tab) {R : Type} (call : CallH R) (dep : Nat) (K : AX → Fr → Mm → Option R) (i1 i2 i3 i4 i5 : Int) (l0 : List AV) (i6 i7 i8 i9 i10 : Int) (l1 : List AV) (fuel : Nat) (s : Int) :
    iter fuel (fun fr M' k => evC (cx F) 103 call dep code_ref25_same_4 fr M' (roundK Pg [] 2 (some ([2, 3, 5], [4])) K k)) (sF_ref25_same_4 i1 i2 i3 i4 i5 l0 i6 i7 i8 i9 i10 l1 s) (sM_ref25_same_4 i1 i2 i3 i4 i5 l0 i6 i7 i8 i9 i10 l1 s) = (lt_ref25_same_4 i1 i2 i3 i4 i5 l0 i6 i7 i8 i9 i10 l1 (Tr.run (st_ref25_same_4 F i1 i2 i3 i4 i5 l0 i6 i7 i8 i9 i10 l1) fuel s)).go K :=
  iter_tr (B := fun fr M' k => evC (cx F) 103 call dep code_ref25_same_4 fr M' (roundK Pg [] 2 (some ([2, 3, 5], [4])) K k)) (step := st_ref25_same_4 F i1 i2 i3 i4 i5 l0 i6 i7 i8 i9 i10 l1) (lt := lt_ref25_same_4 i1 i2 i3 i4 i5 l0 i6 i7 i8 i9 i10 l1) (sF := sF_ref25_same_4 i1 i2 i3 i4 i5 l0 i6 i7 i8 i9 i10 l1) (sM := sM_ref25_same_4 i1 i2 i3 i4 i5 l0 i6 i7 i8 i9 i10 l1) (K := K) (bad_ref25_same_4 i1 i2 i3 i4 i5 l0 i6 i7 i8 i9 i10 l1 K) (fun s kk => rd_ref25_same_4 F call dep K kk i1 i2 i3 i4 i5 l0 i6 i7 i8 i9 i10 l1 s) fuel s
set_option maxRecDepth 100000 in
theorem e1_ref25_same_4 (fr : Fr) (M : Mm) : pt_ref25_same_4.fr fr = sF_ref25_same_4 (intOf ((partsOf (valR (M.rows.getD 0 (.arr 0 [])))).getD 0 .dead)) (intOf ((partsOf (valR (M.rows.getD 0 (.arr 0 [])))).getD 1 .dead)) (intOf ((partsOf (valR (M.rows.getD 0 (.arr 0 [])))).getD 2 .dead)) (intOf ((partsOf (valR (M.rows.getD 0 (.arr 0 [])))).getD 3 .dead)) (intOf ((partsOf (valR (M.rows.getD 0 (.arr 0 [])))).getD 4 .dead)) (listOf ((partsOf (valR (M.rows.getD 0 (.arr 0 [])))).getD 5 .dead)) (intOf ((partsOf (valR (M.rows.getD 1 (.arr 0 [])))).getD 0 .dead)) (intOf ((partsOf (valR (M.rows.getD 1 (.arr 0 [])))).getD 1 .dead)) (intOf ((partsOf (valR (M.rows.getD 1 (.arr 0 [])))).getD 2 .dead)) (intOf ((partsOf (valR (M.rows.getD 1 (.arr 0 [])))).getD 3 .dead)) (intOf ((partsOf (valR (M.rows.getD 1 (.arr 0 [])))).getD 4 .dead)) (listOf ((partsOf (valR (M.rows.getD 1 (.arr 0 [])))).getD 5 .dead)) ((intOf (fr.tmps.getD 5 .dead))) := by kernel_rfl
set_option maxRecDepth 100000 in
theorem e2_ref25_same_4 (fr : Fr) (M : Mm) : pt_ref25_same_4.mm M = sM_ref25_same_4 (intOf ((partsOf (valR (M.rows.getD 0 (.arr 0 [])))).getD 0 .dead)) (intOf ((partsOf (valR (M.rows.getD 0 (.arr 0 [])))).getD 1 .dead)) (intOf ((partsOf (valR (M.rows.getD 0 (.arr 0 [])))).getD 2 .dead)) (intOf ((partsOf (valR (M.rows.getD 0 (.arr 0 [])))).getD 3 .dead)) (intOf ((partsOf (valR (M.rows.getD 0 (.arr 0 [])))).getD 4 .dead)) (listOf ((partsOf (valR (M.rows.getD 0 (.arr 0 [])))).getD 5 .dead)) (intOf ((partsOf (valR (M.rows.getD 1 (.arr 0 [])))).getD 0 .dead)) (intOf ((partsOf (valR (M.rows.getD 1 (.arr 0 [])))).getD 1 .dead)) (intOf ((partsOf (valR (M.rows.getD 1 (.arr 0 [])))).getD 2 .dead)) (intOf ((partsOf (valR (M.rows.getD 1 (.arr 0 [])))).getD 3 .dead)) (intOf ((partsOf (valR (M.rows.getD 1 (.arr 0 [])))).getD 4 .dead)) (listOf ((partsOf (valR (M.rows.getD 1 (.arr 0 [])))).getD 5 .dead)) ((intOf (fr.tmps.getD 5 .dead))) := by kernel_rfl
set_option maxRecDepth 100000 in
theorem ok_ref25_same_4 (F : Tab) {dep : Nat} {fr : Fr} {M : Mm} {t : LT} (ht : lp_ref25_same_4 F dep fr M = some t) {R : Type} (K : AX → Fr → Mm → Option R) (r : R) (hgo : t.go K = some r) :
    iter 100000 (fun fr' M' k => evC (cx F) 103 (evF (cx F) dep) dep code_ref25_same_4 fr' M' (roundK Pg [] M.rows.length (some ([2, 3, 5], [4])) K k)) fr M = some r := by
  unfold lp_ref25_same_4 at ht
  split at ht
  · rename_i hok
    obtain ⟨h1, h2⟩ := StP.ok_eq hok
    obtain rfl := Option.some.inj ht
    exact ok_of (X := fun fr M => iter 100000 (fun fr' M' k => evC (cx F) 103 (evF (cx F) dep) dep code_ref25_same_4 fr' M' (roundK Pg [] M.rows.length (some ([2, 3, 5], [4])) K k)) fr M) (h1.trans (e1_ref25_same_4 fr M)) (h2.trans (e2_ref25_same_4 fr M)) (it_ref25_same_4 F _ _ K (intOf ((partsOf (valR (M.rows.getD 0 (.arr 0 [])))).getD 0 .dead)) (intOf ((partsOf (valR (M.rows.getD 0 (.arr 0 [])))).getD 1 .dead)) (intOf ((partsOf (valR (M.rows.getD 0 (.arr 0 [])))).getD 2 .dead)) (intOf ((partsOf (valR (M.rows.getD 0 (.arr 0 [])))).getD 3 .dead)) (intOf ((partsOf (valR (M.rows.getD 0 (.arr 0 [])))).getD 4 .dead)) (listOf ((partsOf (valR (M.rows.getD 0 (.arr 0 [])))).getD 5 .dead)) (intOf ((partsOf (valR (M.rows.getD 1 (.arr 0 [])))).getD 0 .dead)) (intOf ((partsOf (valR (M.rows.getD 1 (.arr 0 [])))).getD 1 .dead)) (intOf ((partsOf (valR (M.rows.getD 1 (.arr 0 [])))).getD 2 .dead)) (intOf ((partsOf (valR (M.rows.getD 1 (.arr 0 [])))).getD 3 .dead)) (intOf ((partsOf (valR (M.rows.getD 1 (.arr 0 [])))).getD 4 .dead)) (listOf ((partsOf (valR (M.rows.getD 1 (.arr 0 [])))).getD 5 .dead)) 100000 ((intOf (fr.tmps.getD 5 .dead)))) hgo
  · exact absurd ht (by simp)
set_option maxRecDepth 100000 in
theorem at_ref25_same_4 : (Try.f103.body.bind fun c => loopAt c 4) = some code_ref25_same_4 := by kernel_rfl
theorem bad_ref06_Load_6 {R : Type} (i0 : Int) (l0 : List AV) (K : AX → Fr → Mm → Option R) : (lt_ref06_Load_6 i0 l0 LO.bad).go K = none := by kernel_rfl
noncomputable def code_ref06_Load_6 : Code := ((Try.f123.body.bind fun c => loopAt c 6).getD .skip)
set_option maxRecDepth 100000 in
theorem rd_ref06_Load_6 (F : Tab) {R : Type} (call : CallH R) (dep : Nat) (K : AX → Fr → Mm → Option R) (kk : Fr → Mm → Option R) (i0 : Int) (l0 : List AV) (s : Int × Int) :
    evC (cx F) 123 call dep code_ref06_Load_6 (sF_ref06_Load_6 i0 l0 s) (sM_ref06_Load_6 i0 l0 s) (roundK Pg [] 2 (some ([1, 3, 6, 8, 9], [6, 8])) K kk) =
    (st_ref06_Load_6 F i0 l0 s).go (lt_ref06_Load_6 i0 l0) K (fun s => kk (sF_ref06_Load_6 i0 l0 s) (sM_ref06_Load_6 i0 l0 s)) := by kernel_rfl
set_option maxRecDepth 100000 in
theorem it_ref06_Load_6 (F : Tab) {R : Type} (call : CallH R) (dep : Nat) (K : AX → Fr → Mm → Option R) (i0 : Int) (l0 : List AV) (fuel : Nat) (s : Int × Int) :
    iter fuel (fun fr M' k => evC (cx F) 123 call dep code_ref06_Load_6 fr M' (roundK Pg [] 2 (some ([1, 3, 6, 8, 9], [6, 8])) K k)) (sF_ref06_Load_6 i0 l0 s) (sM_ref06_Load_6 i0 l0 s) = (lt_ref06_Load_6 i0 l0 (Tr.run (st_ref06_Load_6 F i0 l0) fuel s)).go K :=
  iter_tr (B := fun fr M' k => evC (cx F) 123 call dep code_ref06_Load_6 fr M' (roundK Pg [] 2 (some ([1, 3, 6, 8, 9], [6, 8])) K k)) (step := st_ref06_Load_6 F i0 l0) (lt := lt_ref06_Load_6 i0 l0) (sF := sF_ref06_Load_6 i0 l0) (sM := sM_ref06_Load_6 i0 l0) (K := K) (bad_ref06_Load_6 i0 l0 K) (fun s kk => rd_ref06_Load_6 F call dep K kk i0 l0 s) fuel s
set_option maxRecDepth 100000 in
theorem e1_ref06_Load_6 (fr : Fr) (M : Mm) : pt_ref06_Load_6.fr fr = sF_ref06_Load_6 (intOf (fr.tmps.getD 1 .dead)) (listOf ((partsOf (valR (M.rows.getD 0 (.arr 0 [])))).getD 0 .dead)) ((intOf (fr.tmps.getD 8 .dead)), (intOf (fr.tmps.getD 9 .dead))) := by kernel_rfl
set_option maxRecDepth 100000 in
theorem e2_ref06_Load_6 (fr : Fr) (M : Mm) : pt_ref06_Load_6.mm M = sM_ref06_Load_6 (intOf (fr.tmps.getD 1 .dead)) (listOf ((partsOf (valR (M.rows.getD 0 (.arr 0 [])))).getD 0 .dead)) ((intOf (fr.tmps.getD 8 .dead)), (intOf (fr.tmps.getD 9 .dead))) := by kernel_rfl
set_option maxRecDepth 100000 in
theorem ok_ref06_Load_6 (F : Tab) {dep : Nat} {fr : Fr} {M : Mm} {t : LT} (ht : lp_ref06_Load_6 F dep fr M = some t) {R : Type} (K : AX → Fr → Mm → Option R) (r : R) (hgo : t.go K = some r) :
    iter 100000 (fun fr' M' k => evC (cx F) 123 (evF (cx F) dep) dep code_ref06_Load_6 fr' M' (roundK Pg [] M.rows.length (some ([1, 3, 6, 8, 9], [6, 8])) K k)) fr M = some r := by
  unfold lp_ref06_Load_6 at ht
  split at ht
  · rename_i hok
    obtain ⟨h1, h2⟩ := StP.ok_eq hok
    obtain rfl := Option.some.inj ht
    exact ok_of (X := fun fr M => iter 100000 (fun fr' M' k => evC (cx F) 123 (evF (cx F) dep) dep code_ref06_Load_6 fr' M' (roundK Pg [] M.rows.length (some ([1, 3, 6, 8, 9], [6, 8])) K k)) fr M) (h1.trans (e1_ref06_Load_6 fr M)) (h2.trans (e2_ref06_Load_6 fr M)) (it_ref06_Load_6 F _ _ K (intOf (fr.tmps.getD 1 .dead)) (listOf ((partsOf (valR (M.rows.getD 0 (.arr 0 [])))).getD 0 .dead)) 100000 ((intOf (fr.tmps.getD 8 .dead)), (intOf (fr.tmps.getD 9 .dead)))) hgo
  · exact absurd ht (by simp)
set_option maxRecDepth 100000 in
theorem at_ref06_Load_6 : (Try.f123.body.bind fun c => loopAt c 6) = some code_ref06_Load_6 := by kernel_rfl
theorem bad_ref25_reads_2 {R : Type} (i0 i1 i3 i4 i5 i6 i7 : Int) (l0 : List AV) (K : AX → Fr → Mm → Option R) : (lt_ref25_reads_2 i0 i1 i3 i4 i5 i6 i7 l0 LO.bad).go K = none := by kernel_rfl
noncomputable def code_ref25_reads_2 : Code := ((Try.f126.body.bind fun c => loopAt c 2).getD .skip)
set_option maxRecDepth 100000 in
theorem rd_ref25_reads_2 (F : Tab) {R : Type} (call : CallH R) (dep : Nat) (K : AX → Fr → Mm → Option R) (kk : Fr → Mm → Option R) (i0 i1 i3 i4 i5 i6 i7 : Int) (l0 : List AV) (s : Int) :
    evC (cx F) 126 call dep code_ref25_reads_2 (sF_ref25_reads_2 i0 i1 i3 i4 i5 i6 i7 l0 s) (sM_ref25_reads_2 i0 i1 i3 i4 i5 i6 i7 l0 s) (roundK Pg [] 1 (some ([1, 2, 3, 7], [6])) K kk) =
    (st_ref25_reads_2 F i0 i1 i3 i4 i5 i6 i7 l0 s).go (lt_ref25_reads_2 i0 i1 i3 i4 i5 i6 i7 l0) K (fun s => kk (sF_ref25_reads_2 i0 i1 i3 i4 i5 i6 i7 l0 s) (sM_ref25_reads_2 i0 i1 i3 i4 i5 i6 i7 l0 s)) := by kernel_rfl
set_option maxRecDepth 100000 in
theorem it_ref25_reads_2 (F : Tab) {R : Type} (call : CallH R) (dep : Nat) (K : AX → Fr → Mm → Option R) (i0 i1 i3 i4 i5 i6 i7 : Int) (l0 : List AV) (fuel : Nat) (s : Int) :
    iter fuel (fun fr M' k => evC (cx F) 126 call dep code_ref25_reads_2 fr M' (roundK Pg [] 1 (some ([1, 2, 3, 7], [6])) K k)) (sF_ref25_reads_2 i0 i1 i3 i4 i5 i6 i7 l0 s) (sM_ref25_reads_2 i0 i1 i3 i4 i5 i6 i7 l0 s) = (lt_ref25_reads_2 i0 i1 i3 i4 i5 i6 i7 l0 (Tr.run (st_ref25_reads_2 F i0 i1 i3 i4 i5 i6 i7 l0) fuel s)).go K :=
  iter_tr (B := fun fr M' k => evC (cx F) 126 call dep code_ref25_reads_2 fr M' (roundK Pg [] 1 (some ([1, 2, 3, 7], [6])) K k)) (step := st_ref25_reads_2 F i0 i1 i3 i4 i5 i6 i7 l0) (lt := lt_ref25_reads_2 i0 i1 i3 i4 i5 i6 i7 l0) (sF := sF_ref25_reads_2 i0 i1 i3 i4 i5 i6 i7 l0) (sM := sM_ref25_reads_2 i0 i1 i3 i4 i5 i6 i7 l0) (K := K) (bad_ref25_reads_2 i0 i1 i3 i4 i5 i6 i7 l0 K) (fun s kk => rd_ref25_reads_2 F call dep K kk i0 i1 i3 i4 i5 i6 i7 l0 s) fuel s
set_option maxRecDepth 100000 in
theorem e1_ref25_reads_2 (fr : Fr) (M : Mm) : pt_ref25_reads_2.fr fr = sF_ref25_reads_2 (intOf (fr.tmps.getD 1 .dead)) (intOf (fr.tmps.getD 2 .dead)) (intOf ((partsOf (valR (M.rows.getD 0 (.arr 0 [])))).getD 0 .dead)) (intOf ((partsOf (valR (M.rows.getD 0 (.arr 0 [])))).getD 1 .dead)) (intOf ((partsOf (valR (M.rows.getD 0 (.arr 0 [])))).getD 2 .dead)) (intOf ((partsOf (valR (M.rows.getD 0 (.arr 0 [])))).getD 3 .dead)) (intOf ((partsOf (valR (M.rows.getD 0 (.arr 0 [])))).getD 4 .dead)) (listOf ((partsOf (valR (M.rows.getD 0 (.arr 0 [])))).getD 5 .dead)) ((intOf (fr.tmps.getD 7 .dead))) := by kernel_rfl
set_option maxRecDepth 100000 in
theorem e2_ref25_reads_2 (fr : Fr) (M : Mm) : pt_ref25_reads_2.mm M = sM_ref25_reads_2 (intOf (fr.tmps.getD 1 .dead)) (intOf (fr.tmps.getD 2 .dead)) (intOf ((partsOf (valR (M.rows.getD 0 (.arr 0 [])))).getD 0 .dead)) (intOf ((partsOf (valR (M.rows.getD 0 (.arr 0 [])))).getD 1 .dead)) (intOf ((partsOf (valR (M.rows.getD 0 (.arr 0 [])))).getD 2 .dead)) (intOf ((partsOf (valR (M.rows.getD 0 (.arr 0 [])))).getD 3 .dead)) (intOf ((partsOf (valR (M.rows.getD 0 (.arr 0 [])))).getD 4 .dead)) (listOf ((partsOf (valR (M.rows.getD 0 (.arr 0 [])))).getD 5 .dead)) ((intOf (fr.tmps.getD 7 .dead))) := by kernel_rfl
set_option maxRecDepth 100000 in
theorem ok_ref25_reads_2 (F : Tab) {dep : Nat} {fr : Fr} {M : Mm} {t : LT} (ht : lp_ref25_reads_2 F dep fr M = some t) {R : Type} (K : AX → Fr → Mm → Option R) (r : R) (hgo : t.go K = some r) :
    iter 100000 (fun fr' M' k => evC (cx F) 126 (evF (cx F) dep) dep code_ref25_reads_2 fr' M' (roundK Pg [] M.rows.length (some ([1, 2, 3, 7], [6])) K k)) fr M = some r := by
  unfold lp_ref25_reads_2 at ht
  split at ht
  · rename_i hok
    obtain ⟨h1, h2⟩ := StP.ok_eq hok
    obtain rfl := Option.some.inj ht
    exact ok_of (X := fun fr M => iter 100000 (fun fr' M' k => evC (cx F) 126 (evF (cx F) dep) dep code_ref25_reads_2 fr' M' (roundK Pg [] M.rows.length (some ([1, 2, 3, 7], [6])) K k)) fr M) (h1.trans (e1_ref25_reads_2 fr M)) (h2.trans (e2_ref25_reads_2 fr M)) (it_ref25_reads_2 F _ _ K (intOf (fr.tmps.getD 1 .dead)) (intOf (fr.tmps.getD 2 .dead)) (intOf ((partsOf (valR (M.rows.getD 0 (.arr 0 [])))).getD 0 .dead)) (intOf ((partsOf (valR (M.rows.getD 0 (.arr 0 [])))).getD 1 .dead)) (intOf ((partsOf (valR (M.rows.getD 0 (.arr 0 [])))).getD 2 .dead)) (intOf ((partsOf (valR (M.rows.getD 0 (.arr 0 [])))).getD 3 .dead)) (intOf ((partsOf (valR (M.rows.getD 0 (.arr 0 [])))).getD 4 .dead)) (listOf ((partsOf (valR (M.rows.getD 0 (.arr 0 [])))).getD 5 .dead)) 100000 ((intOf (fr.tmps.getD 7 .dead)))) hgo
  · exact absurd ht (by simp)
set_option maxRecDepth 100000 in
theorem at_ref25_reads_2 : (Try.f126.body.bind fun c => loopAt c 2) = some code_ref25_reads_2 := by kernel_rfl
end
end Go.Proofs.Ytcknhfnbdgleiaa
