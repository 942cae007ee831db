/- The loops come to what their functions say. (Printed by a program of mine, gen.py.) -/
import Derived.Test.YtcknhfnbdgleiaaTbC
set_option linter.unusedVariables false
set_option linter.unusedSimpArgs false
namespace Go.Proofs.Ytcknhfnbdgleiaa
open Go.AE
noncomputable section
theorem bad_tlb_Valid_4 {R : Type} (i0 : Int) (l0 : List AV) (K : AX → Fr → Mm → Option R) : (lt_tlb_Valid_4 i0 l0 LO.bad).go K = none := by kernel_rfl
noncomputable def code_tlb_Valid_4 : Code := ((Try.f40.body.bind fun c => loopAt c 4).getD .skip)
set_option maxRecDepth 100000 in
theorem rd_tlb_Valid_4 (F : Tab) {R : Type} (K : AX → Fr → Mm → Option R) (kk : Fr → Mm → Option R) (i0 : Int) (l0 : List AV) (s : Int) :
    evC (cx F) 40 (evF (cx F) 5) 5 code_tlb_Valid_4 (sF_tlb_Valid_4 i0 l0 s) (sM_tlb_Valid_4 i0 l0 s) (roundK Pg [] 1 (some ([1, 12, 13], [2])) K kk) =
    (st_tlb_Valid_4 F i0 l0 s).go (lt_tlb_Valid_4 i0 l0) K (fun s => kk (sF_tlb_Valid_4 i0 l0 s) (sM_tlb_Valid_4 i0 l0 s)) := by kernel_rfl
set_option maxRecDepth 100000 in
theorem it_tlb_Valid_4 (F : Tab) {R : Type} (K : AX → Fr → Mm → Option R) (i0 : Int) (l0 : List AV) (fuel : Nat) (s : Int) :
    iter fuel (fun fr M' k => evC (cx F) 40 (evF (cx F) 5) 5 code_tlb_Valid_4 fr M' (roundK Pg [] 1 (some ([1, 12, 13], [2])) K k)) (sF_tlb_Valid_4 i0 l0 s) (sM_tlb_Valid_4 i0 l0 s) = (lt_tlb_Valid_4 i0 l0 (Tr.run (st_tlb_Valid_4 F i0 l0) fuel s)).go K :=
  iter_tr (B := fun fr M' k => evC (cx F) 40 (evF (cx F) 5) 5 code_tlb_Valid_4 fr M' (roundK Pg [] 1 (some ([1, 12, 13], [2])) K k)) (step := st_tlb_Valid_4 F i0 l0) (lt := lt_tlb_Valid_4 i0 l0) (sF := sF_tlb_Valid_4 i0 l0) (sM := sM_tlb_Valid_4 i0 l0) (K := K) (bad_tlb_Valid_4 i0 l0 K) (fun s kk => rd_tlb_Valid_4 F K kk i0 l0 s) fuel s
set_option maxRecDepth 100000 in
theorem e1_tlb_Valid_4 (fr : Fr) (M : Mm) : pt_tlb_Valid_4.fr fr = sF_tlb_Valid_4 (intOf (fr.tmps.getD 12 .dead)) (listOf ((partsOf (valR (M.rows.getD 0 (.arr 0 [])))).getD 0 .dead)) ((intOf (fr.tmps.getD 13 .dead))) := by kernel_rfl
set_option maxRecDepth 100000 in
theorem e2_tlb_Valid_4 (fr : Fr) (M : Mm) : pt_tlb_Valid_4.mm M = sM_tlb_Valid_4 (intOf (fr.tmps.getD 12 .dead)) (listOf ((partsOf (valR (M.rows.getD 0 (.arr 0 [])))).getD 0 .dead)) ((intOf (fr.tmps.getD 13 .dead))) := by kernel_rfl
set_option maxRecDepth 100000 in
theorem ok_tlb_Valid_4 (F : Tab) {dep : Nat} {fr : Fr} {M : Mm} {t : LT} (ht : lp_tlb_Valid_4 F dep fr M = some t) {R : Type} (K : AX → Fr → Mm → Option R) (r : R) (hgo : t.go K = some r) :
    iter 100000 (fun fr' M' k => evC (cx F) 40 (evF (cx F) dep) dep code_tlb_Valid_4 fr' M' (roundK Pg [] M.rows.length (some ([1, 12, 13], [2])) K k)) fr M = some r := by
  unfold lp_tlb_Valid_4 at ht
  split at ht
  · rename_i hok
    simp only [Bool.and_eq_true, Nat.beq_eq] at hok
    obtain ⟨rfl, hok⟩ := hok
    obtain ⟨h1, h2⟩ := StP.ok_eq hok
    obtain rfl := Option.some.inj ht
    exact ok_of (X := fun fr M => iter 100000 (fun fr' M' k => evC (cx F) 40 (evF (cx F) 5) 5 code_tlb_Valid_4 fr' M' (roundK Pg [] M.rows.length (some ([1, 12, 13], [2])) K k)) fr M) (h1.trans (e1_tlb_Valid_4 fr M)) (h2.trans (e2_tlb_Valid_4 fr M)) (it_tlb_Valid_4 F K (intOf (fr.tmps.getD 12 .dead)) (listOf ((partsOf (valR (M.rows.getD 0 (.arr 0 [])))).getD 0 .dead)) 100000 ((intOf (fr.tmps.getD 13 .dead)))) hgo
  · exact absurd ht (by simp)
set_option maxRecDepth 100000 in
theorem at_tlb_Valid_4 : (Try.f40.body.bind fun c => loopAt c 4) = some code_tlb_Valid_4 := by kernel_rfl
theorem bad_ref25_Same_4 {R : Type} (l0 l1 : List AV) (K : AX → Fr → Mm → Option R) : (lt_ref25_Same_4 l0 l1 LO.bad).go K = none := by kernel_rfl
noncomputable def code_ref25_Same_4 : Code := ((Try.f43.body.bind fun c => loopAt c 4).getD .skip)
set_option maxRecDepth 100000 in
theorem rd_ref25_Same_4 (F : Tab) {R : Type} (call : CallH R) (dep : Nat) (K : AX → Fr → Mm → Option R) (kk : Fr → Mm → Option R) (l0 l1 : List AV) (s : Int) :
    evC (cx F) 43 call dep code_ref25_Same_4 (sF_ref25_Same_4 l0 l1 s) (sM_ref25_Same_4 l0 l1 s) (roundK Pg [] 2 (some ([2, 3, 5], [4])) K kk) =
    (st_ref25_Same_4 F l0 l1 s).go (lt_ref25_Same_4 l0 l1) K (fun s => kk (sF_ref25_Same_4 l0 l1 s) (sM_ref25_Same_4 l0 l1 s)) := by kernel_rfl
set_option maxRecDepth 100000 in
theorem it_ref25_Same_4 (F : Tab) {R : Type} (call : CallH R) (dep : Nat) (K : AX → Fr → Mm → Option R) (l0 l1 : List AV) (fuel : Nat) (s : Int) :
    iter fuel (fun fr M' k => evC (cx F) 43 call dep code_ref25_Same_4 fr M' (roundK Pg [] 2 (some ([2, 3, 5], [4])) K k)) (sF_ref25_Same_4 l0 l1 s) (sM_ref25_Same_4 l0 l1 s) = (lt_ref25_Same_4 l0 l1 (Tr.run (st_ref25_Same_4 F l0 l1) fuel s)).go K :=
  iter_tr (B := fun fr M' k => evC (cx F) 43 call dep code_ref25_Same_4 fr M' (roundK Pg [] 2 (some ([2, 3, 5], [4])) K k)) (step := st_ref25_Same_4 F l0 l1) (lt := lt_ref25_Same_4 l0 l1) (sF := sF_ref25_Same_4 l0 l1) (sM := sM_ref25_Same_4 l0 l1) (K := K) (bad_ref25_Same_4 l0 l1 K) (fun s kk => rd_ref25_Same_4 F call dep K kk l0 l1 s) fuel s
set_option maxRecDepth 100000 in
theorem e1_ref25_Same_4 (fr : Fr) (M : Mm) : pt_ref25_Same_4.fr fr = sF_ref25_Same_4 (listOf ((partsOf (valR (M.rows.getD 0 (.arr 0 [])))).getD 0 .dead)) (listOf ((partsOf (valR (M.rows.getD 1 (.arr 0 [])))).getD 0 .dead)) ((intOf (fr.tmps.getD 5 .dead))) := by kernel_rfl
set_option maxRecDepth 100000 in
theorem e2_ref25_Same_4 (fr : Fr) (M : Mm) : pt_ref25_Same_4.mm M = sM_ref25_Same_4 (listOf ((partsOf (valR (M.rows.getD 0 (.arr 0 [])))).getD 0 .dead)) (listOf ((partsOf (valR (M.rows.getD 1 (.arr 0 [])))).getD 0 .dead)) ((intOf (fr.tmps.getD 5 .dead))) := by kernel_rfl
set_option maxRecDepth 100000 in
theorem ok_ref25_Same_4 (F : Tab) {dep : Nat} {fr : Fr} {M : Mm} {t : LT} (ht : lp_ref25_Same_4 F dep fr M = some t) {R : Type} (K : AX → Fr → Mm → Option R) (r : R) (hgo : t.go K = some r) :
    iter 100000 (fun fr' M' k => evC (cx F) 43 (evF (cx F) dep) dep code_ref25_Same_4 fr' M' (roundK Pg [] M.rows.length (some ([2, 3, 5], [4])) K k)) fr M = some r := by
  unfold lp_ref25_Same_4 at ht
  split at ht
  · rename_i hok
    obtain ⟨h1, h2⟩ := StP.ok_eq hok
    obtain rfl := Option.some.inj ht
    exact ok_of (X := fun fr M => iter 100000 (fun fr' M' k => evC (cx F) 43 (evF (cx F) dep) dep code_ref25_Same_4 fr' M' (roundK Pg [] M.rows.length (some ([2, 3, 5], [4])) K k)) fr M) (h1.trans (e1_ref25_Same_4 fr M)) (h2.trans (e2_ref25_Same_4 fr M)) (it_ref25_Same_4 F _ _ K (listOf ((partsOf (valR (M.rows.getD 0 (.arr 0 [])))).getD 0 .dead)) (listOf ((partsOf (valR (M.rows.getD 1 (.arr 0 [])))).getD 0 .dead)) 100000 ((intOf (fr.tmps.getD 5 .dead)))) hgo
  · exact absurd ht (by simp)
set_option maxRecDepth 100000 in
theorem at_ref25_Same_4 : (Try.f43.body.bind fun c => loopAt c 4) = some code_ref25_Same_4 := by kernel_rfl
theorem bad_ref25_Within_3 {R : Type} (l0 l1 : List AV) (K : AX → Fr → Mm → Option R) : (lt_ref25_Within_3 l0 l1 LO.bad).go K = none := by kernel_rfl
noncomputable def code_ref25_Within_3 : Code := ((Try.f47.body.bind fun c => loopAt c 3).getD .skip)
set_option maxRecDepth 100000 in
theorem rd_ref25_Within_3 (F : Tab) {R : Type} (call : CallH R) (dep : Nat) (K : AX → Fr → Mm → Option R) (kk : Fr → Mm → Option R) (l0 l1 : List AV) (s : Int × Int) :
    evC (cx F) 47 call dep code_ref25_Within_3 (sF_ref25_Within_3 l0 l1 s) (sM_ref25_Within_3 l0 l1 s) (roundK Pg [] 2 (some ([2, 3, 5, 6], [2, 5])) K kk) =
    (st_ref25_Within_3 F l0 l1 s).go (lt_ref25_Within_3 l0 l1) K (fun s => kk (sF_ref25_Within_3 l0 l1 s) (sM_ref25_Within_3 l0 l1 s)) := by kernel_rfl
set_option maxRecDepth 100000 in
theorem it_ref25_Within_3 (F : Tab) {R : Type} (call : CallH R) (dep : Nat) (K : AX → Fr → Mm → Option R) (l0 l1 : List AV) (fuel : Nat) (s : Int × Int) :
    iter fuel (fun fr M' k => evC (cx F) 47 call dep code_ref25_Within_3 fr M' (roundK Pg [] 2 (some ([2, 3, 5, 6], [2, 5])) K k)) (sF_ref25_Within_3 l0 l1 s) (sM_ref25_Within_3 l0 l1 s) = (lt_ref25_Within_3 l0 l1 (Tr.run (st_ref25_Within_3 F l0 l1) fuel s)).go K :=
  iter_tr (B := fun fr M' k => evC (cx F) 47 call dep code_ref25_Within_3 fr M' (roundK Pg [] 2 (some ([2, 3, 5, 6], [2, 5])) K k)) (step := st_ref25_Within_3 F l0 l1) (lt := lt_ref25_Within_3 l0 l1) (sF := sF_ref25_Within_3 l0 l1) (sM := sM_ref25_Within_3 l0 l1) (K := K) (bad_ref25_Within_3 l0 l1 K) (fun s kk => rd_ref25_Within_3 F call dep K kk l0 l1 s) fuel s
set_option maxRecDepth 100000 in
theorem e1_ref25_Within_3 (fr : Fr) (M : Mm) : pt_ref25_Within_3.fr fr = sF_ref25_Within_3 (listOf ((partsOf (valR (M.rows.getD 0 (.arr 0 [])))).getD 0 .dead)) (listOf ((partsOf (valR (M.rows.getD 1 (.arr 0 [])))).getD 0 .dead)) ((intOf (fr.tmps.getD 5 .dead)), (intOf (fr.tmps.getD 6 .dead))) := by kernel_rfl
set_option maxRecDepth 100000 in
theorem e2_ref25_Within_3 (fr : Fr) (M : Mm) : pt_ref25_Within_3.mm M = sM_ref25_Within_3 (listOf ((partsOf (valR (M.rows.getD 0 (.arr 0 [])))).getD 0 .dead)) (listOf ((partsOf (valR (M.rows.getD 1 (.arr 0 [])))).getD 0 .dead)) ((intOf (fr.tmps.getD 5 .dead)), (intOf (fr.tmps.getD 6 .dead))) := by kernel_rfl
set_option maxRecDepth 100000 in
theorem ok_ref25_Within_3 (F : Tab) {dep : Nat} {fr : Fr} {M : Mm} {t : LT} (ht : lp_ref25_Within_3 F dep fr M = some t) {R : Type} (K : AX → Fr → Mm → Option R) (r : R) (hgo : t.go K = some r) :
    iter 100000 (fun fr' M' k => evC (cx F) 47 (evF (cx F) dep) dep code_ref25_Within_3 fr' M' (roundK Pg [] M.rows.length (some ([2, 3, 5, 6], [2, 5])) K k)) fr M = some r := by
  unfold lp_ref25_Within_3 at ht
  split at ht
  · rename_i hok
    obtain ⟨h1, h2⟩ := StP.ok_eq hok
    obtain rfl := Option.some.inj ht
    exact ok_of (X := fun fr M => iter 100000 (fun fr' M' k => evC (cx F) 47 (evF (cx F) dep) dep code_ref25_Within_3 fr' M' (roundK Pg [] M.rows.length (some ([2, 3, 5, 6], [2, 5])) K k)) fr M) (h1.trans (e1_ref25_Within_3 fr M)) (h2.trans (e2_ref25_Within_3 fr M)) (it_ref25_Within_3 F _ _ K (listOf ((partsOf (valR (M.rows.getD 0 (.arr 0 [])))).getD 0 .dead)) (listOf ((partsOf (valR (M.rows.getD 1 (.arr 0 [])))).getD 0 .dead)) 100000 ((intOf (fr.tmps.getD 5 .dead)), (intOf (fr.tmps.getD 6 .dead)))) hgo
  · exact absurd ht (by simp)
set_option maxRecDepth 100000 in
theorem at_ref25_Within_3 : (Try.f47.body.bind fun c => loopAt c 3) = some code_ref25_Within_3 := by kernel_rfl
theorem bad_ref06_Store_6 {R : Type} (l0 : List AV) (i1 i2 i3 : Int) (l1 : List AV) (n0 n1 : Nat) (K : AX → Fr → Mm → Option R) : (lt_ref06_Store_6 l0 i1 i2 i3 l1 n0 n1 LO.bad).go K = none := by kernel_rfl
noncomputable def code_ref06_Store_6 : Code := ((Try.f57.body.bind fun c => loopAt c 6).getD .skip)
set_option maxRecDepth 100000 in
theorem rd_ref06_Store_6 (F : Tab) {R : Type} (call : CallH R) (dep : Nat) (K : AX → Fr → Mm → Option R) (kk : Fr → Mm → Option R) (l0 : List AV) (i1 i2 i3 : Int) (l1 : List AV) (n0 n1 : Nat) (s : Int × List AV) :
    evC (cx F) 57 call dep code_ref06_Store_6 (sF_ref06_Store_6 l0 i1 i2 i3 l1 n0 n1 s) (sM_ref06_Store_6 l0 i1 i2 i3 l1 n0 n1 s) (roundK Pg [] 7 (some ([3, 4, 6, 7], [4, 6])) K kk) =
    (st_ref06_Store_6 F l0 i1 i2 i3 l1 n0 n1 s).go (lt_ref06_Store_6 l0 i1 i2 i3 l1 n0 n1) K (fun s => kk (sF_ref06_Store_6 l0 i1 i2 i3 l1 n0 n1 s) (sM_ref06_Store_6 l0 i1 i2 i3 l1 n0 n1 s)) := by kernel_rfl
set_option maxRecDepth 100000 in
theorem it_ref06_Store_6 (F : Tab) {R : Type} (call : CallH R) (dep : Nat) (K : AX → Fr → Mm → Option R) (l0 : List AV) (i1 i2 i3 : Int) (l1 : List AV) (n0 n1 : Nat) (fuel : Nat) (s : Int × List AV) :
    iter fuel (fun fr M' k => evC (cx F) 57 call dep code_ref06_Store_6 fr M' (roundK Pg [] 7 (some ([3, 4, 6, 7], [4, 6])) K k)) (sF_ref06_Store_6 l0 i1 i2 i3 l1 n0 n1 s) (sM_ref06_Store_6 l0 i1 i2 i3 l1 n0 n1 s) = (lt_ref06_Store_6 l0 i1 i2 i3 l1 n0 n1 (Tr.run (st_ref06_Store_6 F l0 i1 i2 i3 l1 n0 n1) fuel s)).go K :=
  iter_tr (B := fun fr M' k => evC (cx F) 57 call dep code_ref06_Store_6 fr M' (roundK Pg [] 7 (some ([3, 4, 6, 7], [4, 6])) K k)) (step := st_ref06_Store_6 F l0 i1 i2 i3 l1 n0 n1) (lt := lt_ref06_Store_6 l0 i1 i2 i3 l1 n0 n1) (sF := sF_ref06_Store_6 l0 i1 i2 i3 l1 n0 n1) (sM := sM_ref06_Store_6 l0 i1 i2 i3 l1 n0 n1) (K := K) (bad_ref06_Store_6 l0 i1 i2 i3 l1 n0 n1 K) (fun s kk => rd_ref06_Store_6 F call dep K kk l0 i1 i2 i3 l1 n0 n1 s) fuel s
set_option maxRecDepth 100000 in
theorem e1_ref06_Store_6 (fr : Fr) (M : Mm) : pt_ref06_Store_6.fr fr = sF_ref06_Store_6 (listOf ((partsOf (valR (M.rows.getD 0 (.arr 0 [])))).getD 0 .dead)) (intOf ((partsOf (valR (M.rows.getD 1 (.arr 0 [])))).getD 0 .dead)) (intOf ((partsOf (valR (M.rows.getD 1 (.arr 0 [])))).getD 1 .dead)) (intOf ((partsOf (valR (M.rows.getD 1 (.arr 0 [])))).getD 2 .dead)) (listOf ((partsOf (valR (M.rows.getD 3 (.arr 0 [])))).getD 0 .dead)) (mlenOf ((partsOf (valR (M.rows.getD 4 (.arr 0 [])))).getD 0 .dead)) (mlenOf ((partsOf (valR (M.rows.getD 6 (.arr 0 [])))).getD 0 .dead)) ((intOf (fr.tmps.getD 7 .dead)), (listR (M.rows.getD 5 (.arr 0 [])))) := by kernel_rfl
set_option maxRecDepth 100000 in
theorem e2_ref06_Store_6 (fr : Fr) (M : Mm) : pt_ref06_Store_6.mm M = sM_ref06_Store_6 (listOf ((partsOf (valR (M.rows.getD 0 (.arr 0 [])))).getD 0 .dead)) (intOf ((partsOf (valR (M.rows.getD 1 (.arr 0 [])))).getD 0 .dead)) (intOf ((partsOf (valR (M.rows.getD 1 (.arr 0 [])))).getD 1 .dead)) (intOf ((partsOf (valR (M.rows.getD 1 (.arr 0 [])))).getD 2 .dead)) (listOf ((partsOf (valR (M.rows.getD 3 (.arr 0 [])))).getD 0 .dead)) (mlenOf ((partsOf (valR (M.rows.getD 4 (.arr 0 [])))).getD 0 .dead)) (mlenOf ((partsOf (valR (M.rows.getD 6 (.arr 0 [])))).getD 0 .dead)) ((intOf (fr.tmps.getD 7 .dead)), (listR (M.rows.getD 5 (.arr 0 [])))) := by kernel_rfl
set_option maxRecDepth 100000 in
theorem ok_ref06_Store_6 (F : Tab) {dep : Nat} {fr : Fr} {M : Mm} {t : LT} (ht : lp_ref06_Store_6 F dep fr M = some t) {R : Type} (K : AX → Fr → Mm → Option R) (r : R) (hgo : t.go K = some r) :
    iter 100000 (fun fr' M' k => evC (cx F) 57 (evF (cx F) dep) dep code_ref06_Store_6 fr' M' (roundK Pg [] M.rows.length (some ([3, 4, 6, 7], [4, 6])) K k)) fr M = some r := by
  unfold lp_ref06_Store_6 at ht
  split at ht
  · rename_i hok
    obtain ⟨h1, h2⟩ := StP.ok_eq hok
    obtain rfl := Option.some.inj ht
    exact ok_of (X := fun fr M => iter 100000 (fun fr' M' k => evC (cx F) 57 (evF (cx F) dep) dep code_ref06_Store_6 fr' M' (roundK Pg [] M.rows.length (some ([3, 4, 6, 7], [4, 6])) K k)) fr M) (h1.trans (e1_ref06_Store_6 fr M)) (h2.trans (e2_ref06_Store_6 fr M)) (it_ref06_Store_6 F _ _ K (listOf ((partsOf (valR (M.rows.getD 0 (.arr 0 [])))).getD 0 .dead)) (intOf ((partsOf (valR (M.rows.getD 1 (.arr 0 [])))).getD 0 .dead)) (intOf ((partsOf (valR (M.rows.getD 1 (.arr 0 [])))).getD 1 .dead)) (intOf ((partsOf (valR (M.rows.getD 1 (.arr 0 [])))).getD 2 .dead)) (listOf ((partsOf (valR (M.rows.getD 3 (.arr 0 [])))).getD 0 .dead)) (mlenOf ((partsOf (valR (M.rows.getD 4 (.arr 0 [])))).getD 0 .dead)) (mlenOf ((partsOf (valR (M.rows.getD 6 (.arr 0 [])))).getD 0 .dead)) 100000 ((intOf (fr.tmps.getD 7 .dead)), (listR (M.rows.getD 5 (.arr 0 []))))) hgo
  · exact absurd ht (by simp)
set_option maxRecDepth 100000 in
theorem at_ref06_Store_6 : (Try.f57.body.bind fun c => loopAt c 6) = some code_ref06_Store_6 := by kernel_rfl
theorem bad_ref06_SameInts_4 {R : Type} (l0 l1 : List AV) (K : AX → Fr → Mm → Option R) : (lt_ref06_SameInts_4 l0 l1 LO.bad).go K = none := by kernel_rfl
noncomputable def code_ref06_SameInts_4 : Code := ((Try.f75.body.bind fun c => loopAt c 4).getD .skip)
set_option maxRecDepth 100000 in
theorem rd_ref06_SameInts_4 (F : Tab) {R : Type} (call : CallH R) (dep : Nat) (K : AX → Fr → Mm → Option R) (kk : Fr → Mm → Option R) (l0 l1 : List AV) (s : Int) :
    evC (cx F) 75 call dep code_ref06_SameInts_4 (sF_ref06_SameInts_4 l0 l1 s) (sM_ref06_SameInts_4 l0 l1 s) (roundK Pg [] 0 (some ([0, 1, 5], [4])) K kk) =
    (st_ref06_SameInts_4 F l0 l1 s).go (lt_ref06_SameInts_4 l0 l1) K (fun s => kk (sF_ref06_SameInts_4 l0 l1 s) (sM_ref06_SameInts_4 l0 l1 s)) := by kernel_rfl
set_option maxRecDepth 100000 in
theorem it_ref06_SameInts_4 (F : Tab) {R : Type} (call : CallH R) (dep : Nat) (K : AX → Fr → Mm → Option R) (l0 l1 : List AV) (fuel : Nat) (s : Int) :
    iter fuel (fun fr M' k => evC (cx F) 75 call dep code_ref06_SameInts_4 fr M' (roundK Pg [] 0 (some ([0, 1, 5], [4])) K k)) (sF_ref06_SameInts_4 l0 l1 s) (sM_ref06_SameInts_4 l0 l1 s) = (lt_ref06_SameInts_4 l0 l1 (Tr.run (st_ref06_SameInts_4 F l0 l1) fuel s)).go K :=
  iter_tr (B := fun fr M' k => evC (cx F) 75 call dep code_ref06_SameInts_4 fr M' (roundK Pg [] 0 (some ([0, 1, 5], [4])) K k)) (step := st_ref06_SameInts_4 F l0 l1) (lt := lt_ref06_SameInts_4 l0 l1) (sF := sF_ref06_SameInts_4 l0 l1) (sM := sM_ref06_SameInts_4 l0 l1) (K := K) (bad_ref06_SameInts_4 l0 l1 K) (fun s kk => rd_ref06_SameInts_4 F call dep K kk l0 l1 s) fuel s
set_option maxRecDepth 100000 in
theorem e1_ref06_SameInts_4 (fr : Fr) (M : Mm) : pt_ref06_SameInts_4.fr fr = sF_ref06_SameInts_4 (listOf (fr.tmps.getD 0 .dead)) (listOf (fr.tmps.getD 1 .dead)) ((intOf (fr.tmps.getD 5 .dead))) := by kernel_rfl
set_option maxRecDepth 100000 in
theorem e2_ref06_SameInts_4 (fr : Fr) (M : Mm) : pt_ref06_SameInts_4.mm M = sM_ref06_SameInts_4 (listOf (fr.tmps.getD 0 .dead)) (listOf (fr.tmps.getD 1 .dead)) ((intOf (fr.tmps.getD 5 .dead))) := by kernel_rfl
set_option maxRecDepth 100000 in
theorem ok_ref06_SameInts_4 (F : Tab) {dep : Nat} {fr : Fr} {M : Mm} {t : LT} (ht : lp_ref06_SameInts_4 F dep fr M = some t) {R : Type} (K : AX → Fr → Mm → Option R) (r : R) (hgo : t.go K = some r) :
    iter 100000 (fun fr' M' k => evC (cx F) 75 (evF (cx F) dep) dep code_ref06_SameInts_4 fr' M' (roundK Pg [] M.rows.length (some ([0, 1, 5], [4])) K k)) fr M = some r := by
  unfold lp_ref06_SameInts_4 at ht
  split at ht
  · rename_i hok
    obtain ⟨h1, h2⟩ := StP.ok_eq hok
    obtain rfl := Option.some.inj ht
    exact ok_of (X := fun fr M => iter 100000 (fun fr' M' k => evC (cx F) 75 (evF (cx F) dep) dep code_ref06_SameInts_4 fr' M' (roundK Pg [] M.rows.length (some ([0, 1, 5], [4])) K k)) fr M) (h1.trans (e1_ref06_SameInts_4 fr M)) (h2.trans (e2_ref06_SameInts_4 fr M)) (it_ref06_SameInts_4 F _ _ K (listOf (fr.tmps.getD 0 .dead)) (listOf (fr.tmps.getD 1 .dead)) 100000 ((intOf (fr.tmps.getD 5 .dead)))) hgo
  · exact absurd ht (by simp)
set_option maxRecDepth 100000 in
theorem at_ref06_SameInts_4 : (Try.f75.body.bind fun c => loopAt c 4) = some code_ref06_SameInts_4 := by kernel_rfl
theorem bad_ref06_Write_5 {R : Type} (i0 : Int) (s0 : List UInt8) (l0 l1 : List AV) (n0 n1 : Nat) (K : AX → Fr → Mm → Option R) : (lt_ref06_Write_5 i0 s0 l0 l1 n0 n1 LO.bad).go K = none := by kernel_rfl
noncomputable def code_ref06_Write_5 : Code := ((Try.f86.body.bind fun c => loopAt c 5).getD .skip)
set_option maxRecDepth 100000 in
theorem rd_ref06_Write_5 (F : Tab) {R : Type} (call : CallH R) (dep : Nat) (K : AX → Fr → Mm → Option R) (kk : Fr → Mm → Option R) (i0 : Int) (s0 : List UInt8) (l0 l1 : List AV) (n0 n1 : Nat) (s : Int × List AV) :
    evC (cx F) 86 call dep code_ref06_Write_5 (sF_ref06_Write_5 i0 s0 l0 l1 n0 n1 s) (sM_ref06_Write_5 i0 s0 l0 l1 n0 n1 s) (roundK Pg [] 6 (some ([1, 2, 6, 7, 8], [6, 7])) K kk) =
    (st_ref06_Write_5 F i0 s0 l0 l1 n0 n1 s).go (lt_ref06_Write_5 i0 s0 l0 l1 n0 n1) K (fun s => kk (sF_ref06_Write_5 i0 s0 l0 l1 n0 n1 s) (sM_ref06_Write_5 i0 s0 l0 l1 n0 n1 s)) := by kernel_rfl
set_option maxRecDepth 100000 in
theorem it_ref06_Write_5 (F : Tab) {R : Type} (call : CallH R) (dep : Nat) (K : AX → Fr → Mm → Option R) (i0 : Int) (s0 : List UInt8) (l0 l1 : List AV) (n0 n1 : Nat) (fuel : Nat) (s : Int × List AV) :
    iter fuel (fun fr M' k => evC (cx F) 86 call dep code_ref06_Write_5 fr M' (roundK Pg [] 6 (some ([1, 2, 6, 7, 8], [6, 7])) K k)) (sF_ref06_Write_5 i0 s0 l0 l1 n0 n1 s) (sM_ref06_Write_5 i0 s0 l0 l1 n0 n1 s) = (lt_ref06_Write_5 i0 s0 l0 l1 n0 n1 (Tr.run (st_ref06_Write_5 F i0 s0 l0 l1 n0 n1) fuel s)).go K :=
  iter_tr (B := fun fr M' k => evC (cx F) 86 call dep code_ref06_Write_5 fr M' (roundK Pg [] 6 (some ([1, 2, 6, 7, 8], [6, 7])) K k)) (step := st_ref06_Write_5 F i0 s0 l0 l1 n0 n1) (lt := lt_ref06_Write_5 i0 s0 l0 l1 n0 n1) (sF := sF_ref06_Write_5 i0 s0 l0 l1 n0 n1) (sM := sM_ref06_Write_5 i0 s0 l0 l1 n0 n1) (K := K) (bad_ref06_Write_5 i0 s0 l0 l1 n0 n1 K) (fun s kk => rd_ref06_Write_5 F call dep K kk i0 s0 l0 l1 n0 n1 s) fuel s
set_option maxRecDepth 100000 in
theorem e1_ref06_Write_5 (fr : Fr) (M : Mm) : pt_ref06_Write_5.fr fr = sF_ref06_Write_5 (intOf (fr.tmps.getD 1 .dead)) (strOf (fr.tmps.getD 2 .dead)) (listOf ((partsOf (valR (M.rows.getD 0 (.arr 0 [])))).getD 0 .dead)) (listOf ((partsOf (valR (M.rows.getD 2 (.arr 0 [])))).getD 0 .dead)) (mlenOf ((partsOf (valR (M.rows.getD 3 (.arr 0 [])))).getD 0 .dead)) (mlenOf ((partsOf (valR (M.rows.getD 5 (.arr 0 [])))).getD 0 .dead)) ((intOf (fr.tmps.getD 8 .dead)), (listR (M.rows.getD 4 (.arr 0 [])))) := by kernel_rfl
set_option maxRecDepth 100000 in
theorem e2_ref06_Write_5 (fr : Fr) (M : Mm) : pt_ref06_Write_5.mm M = sM_ref06_Write_5 (intOf (fr.tmps.getD 1 .dead)) (strOf (fr.tmps.getD 2 .dead)) (listOf ((partsOf (valR (M.rows.getD 0 (.arr 0 [])))).getD 0 .dead)) (listOf ((partsOf (valR (M.rows.getD 2 (.arr 0 [])))).getD 0 .dead)) (mlenOf ((partsOf (valR (M.rows.getD 3 (.arr 0 [])))).getD 0 .dead)) (mlenOf ((partsOf (valR (M.rows.getD 5 (.arr 0 [])))).getD 0 .dead)) ((intOf (fr.tmps.getD 8 .dead)), (listR (M.rows.getD 4 (.arr 0 [])))) := by kernel_rfl
set_option maxRecDepth 100000 in
theorem ok_ref06_Write_5 (F : Tab) {dep : Nat} {fr : Fr} {M : Mm} {t : LT} (ht : lp_ref06_Write_5 F dep fr M = some t) {R : Type} (K : AX → Fr → Mm → Option R) (r : R) (hgo : t.go K = some r) :
    iter 100000 (fun fr' M' k => evC (cx F) 86 (evF (cx F) dep) dep code_ref06_Write_5 fr' M' (roundK Pg [] M.rows.length (some ([1, 2, 6, 7, 8], [6, 7])) K k)) fr M = some r := by
  unfold lp_ref06_Write_5 at ht
  split at ht
  · rename_i hok
    obtain ⟨h1, h2⟩ := StP.ok_eq hok
    obtain rfl := Option.some.inj ht
    exact ok_of (X := fun fr M => iter 100000 (fun fr' M' k => evC (cx F) 86 (evF (cx F) dep) dep code_ref06_Write_5 fr' M' (roundK Pg [] M.rows.length (some ([1, 2, 6, 7, 8], [6, 7])) K k)) fr M) (h1.trans (e1_ref06_Write_5 fr M)) (h2.trans (e2_ref06_Write_5 fr M)) (it_ref06_Write_5 F _ _ K (intOf (fr.tmps.getD 1 .dead)) (strOf (fr.tmps.getD 2 .dead)) (listOf ((partsOf (valR (M.rows.getD 0 (.arr 0 [])))).getD 0 .dead)) (listOf ((partsOf (valR (M.rows.getD 2 (.arr 0 [])))).getD 0 .dead)) (mlenOf ((partsOf (valR (M.rows.getD 3 (.arr 0 [])))).getD 0 .dead)) (mlenOf ((partsOf (valR (M.rows.getD 5 (.arr 0 [])))).getD 0 .dead)) 100000 ((intOf (fr.tmps.getD 8 .dead)), (listR (M.rows.getD 4 (.arr 0 []))))) hgo
  · exact absurd ht (by simp)
set_option maxRecDepth 100000 in
theorem at_ref06_Write_5 : (Try.f86.body.bind fun c => loopAt c 5) = some code_ref06_Write_5 := by kernel_rfl
theorem bad_ref06_Diff_3 {R : Type} (l1 l2 : List AV) (K : AX → Fr → Mm → Option R) : (lt_ref06_Diff_3 l1 l2 LO.bad).go K = none := by kernel_rfl
noncomputable def code_ref06_Diff_3 : Code := ((Try.f89.body.bind fun c => loopAt c 3).getD .skip)
set_option maxRecDepth 100000 in
theorem rd_ref06_Diff_3 (F : Tab) {R : Type} (call : CallH R) (dep : Nat) (K : AX → Fr → Mm → Option R) (kk : Fr → Mm → Option R) (l1 l2 : List AV) (s : List AV × Int) :
    evC (cx F) 89 call dep code_ref06_Diff_3 (sF_ref06_Diff_3 l1 l2 s) (sM_ref06_Diff_3 l1 l2 s) (roundK Pg [] 2 (some ([2, 3, 5, 6], [5])) K kk) =
    (st_ref06_Diff_3 F l1 l2 s).go (lt_ref06_Diff_3 l1 l2) K (fun s => kk (sF_ref06_Diff_3 l1 l2 s) (sM_ref06_Diff_3 l1 l2 s)) := by kernel_rfl
set_option maxRecDepth 100000 in
theorem it_ref06_Diff_3 (F : Tab) {R : Type} (call : CallH R) (dep : Nat) (K : AX → Fr → Mm → Option R) (l1 l2 : List AV) (fuel : Nat) (s : List AV × Int) :
    iter fuel (fun fr M' k => evC (cx F) 89 call dep code_ref06_Diff_3 fr M' (roundK Pg [] 2 (some ([2, 3, 5, 6], [5])) K k)) (sF_ref06_Diff_3 l1 l2 s) (sM_ref06_Diff_3 l1 l2 s) = (lt_ref06_Diff_3 l1 l2 (Tr.run (st_ref06_Diff_3 F l1 l2) fuel s)).go K :=
  iter_tr (B := fun fr M' k => evC (cx F) 89 call dep code_ref06_Diff_3 fr M' (roundK Pg [] 2 (some ([2, 3, 5, 6], [5])) K k)) (step := st_ref06_Diff_3 F l1 l2) (lt := lt_ref06_Diff_3 l1 l2) (sF := sF_ref06_Diff_3 l1 l2) (sM := sM_ref06_Diff_3 l1 l2) (K := K) (bad_ref06_Diff_3 l1 l2 K) (fun s kk => rd_ref06_Diff_3 F call dep K kk l1 l2 s) fuel s
set_option maxRecDepth 100000 in
theorem e1_ref06_Diff_3 (fr : Fr) (M : Mm) : pt_ref06_Diff_3.fr fr = sF_ref06_Diff_3 (listOf ((partsOf (valR (M.rows.getD 0 (.arr 0 [])))).getD 0 .dead)) (listOf ((partsOf (valR (M.rows.getD 1 (.arr 0 [])))).getD 0 .dead)) ((listOf (fr.tmps.getD 5 .dead)), (intOf (fr.tmps.getD 6 .dead))) := by kernel_rfl
set_option maxRecDepth 100000 in
theorem e2_ref06_Diff_3 (fr : Fr) (M : Mm) : pt_ref06_Diff_3.mm M = sM_ref06_Diff_3 (listOf ((partsOf (valR (M.rows.getD 0 (.arr 0 [])))).getD 0 .dead)) (listOf ((partsOf (valR (M.rows.getD 1 (.arr 0 [])))).getD 0 .dead)) ((listOf (fr.tmps.getD 5 .dead)), (intOf (fr.tmps.getD 6 .dead))) := by kernel_rfl
set_option maxRecDepth 100000 in
theorem ok_ref06_Diff_3 (F : Tab) {dep : Nat} {fr : Fr} {M : Mm} {t : LT} (ht : lp_ref06_Diff_3 F dep fr M = some t) {R : Type} (K : AX → Fr → Mm → Option R) (r : R) (hgo : t.go K = some r) :
    iter 100000 (fun fr' M' k => evC (cx F) 89 (evF (cx F) dep) dep code_ref06_Diff_3 fr' M' (roundK Pg [] M.rows.length (some ([2, 3, 5, 6], [5])) K k)) fr M = some r := by
  unfold lp_ref06_Diff_3 at ht
  split at ht
  · rename_i hok
    obtain ⟨h1, h2⟩ := StP.ok_eq hok
    obtain rfl := Option.some.inj ht
    exact ok_of (X := fun fr M => iter 100000 (fun fr' M' k => evC (cx F) 89 (evF (cx F) dep) dep code_ref06_Diff_3 fr' M' (roundK Pg [] M.rows.length (some ([2, 3, 5, 6], [5])) K k)) fr M) (h1.trans (e1_ref06_Diff_3 fr M)) (h2.trans (e2_ref06_Diff_3 fr M)) (it_ref06_Diff_3 F _ _ K (listOf ((partsOf (valR (M.rows.getD 0 (.arr 0 [])))).getD 0 .dead)) (listOf ((partsOf (valR (M.rows.getD 1 (.arr 0 [])))).getD 0 .dead)) 100000 ((listOf (fr.tmps.getD 5 .dead)), (intOf (fr.tmps.getD 6 .dead)))) hgo
  · exact absurd ht (by simp)
set_option maxRecDepth 100000 in
theorem at_ref06_Diff_3 : (Try.f89.body.bind fun c => loopAt c 3) = some code_ref06_Diff_3 := by kernel_rfl
theorem bad_ref25_find_2 {R : Type} (i0 i1 : Int) (l0 : List AV) (K : AX → Fr → Mm → Option R) : (lt_ref25_find_2 i0 i1 l0 LO.bad).go K = none := by kernel_rfl
noncomputable def code_ref25_find_2 : Code := ((Try.f91.body.bind fun c => loopAt c 2).getD .skip)
set_option maxRecDepth 100000 in
theorem rd_ref25_find_2 (F : Tab) {R : Type} (call : CallH R) (dep : Nat) (K : AX → Fr → Mm → Option R) (kk : Fr → Mm → Option R) (i0 i1 : Int) (l0 : List AV) (s : Int) :
    evC (cx F) 91 call dep code_ref25_find_2 (sF_ref25_find_2 i0 i1 l0 s) (sM_ref25_find_2 i0 i1 l0 s) (roundK Pg [] 1 (some ([1, 2, 3, 7], [6])) K kk) =
    (st_ref25_find_2 F i0 i1 l0 s).go (lt_ref25_find_2 i0 i1 l0) K (fun s => kk (sF_ref25_find_2 i0 i1 l0 s) (sM_ref25_find_2 i0 i1 l0 s)) := by kernel_rfl
set_option maxRecDepth 100000 in
theorem it_ref25_find_2 (F : Tab) {R : Type} (call : CallH R) (dep : Nat) (K : AX → Fr → Mm → Option R) (i0 i1 : Int) (l0 : List AV) (fuel : Nat) (s : Int) :
    iter fuel (fun fr M' k => evC (cx F) 91 call dep code_ref25_find_2 fr M' (roundK Pg [] 1 (some ([1, 2, 3, 7], [6])) K k)) (sF_ref25_find_2 i0 i1 l0 s) (sM_ref25_find_2 i0 i1 l0 s) = (lt_ref25_find_2 i0 i1 l0 (Tr.run (st_ref25_find_2 F i0 i1 l0) fuel s)).go K :=
  iter_tr (B := fun fr M' k => evC (cx F) 91 call dep code_ref25_find_2 fr M' (roundK Pg [] 1 (some ([1, 2, 3, 7], [6])) K k)) (step := st_ref25_find_2 F i0 i1 l0) (lt := lt_ref25_find_2 i0 i1 l0) (sF := sF_ref25_find_2 i0 i1 l0) (sM := sM_ref25_find_2 i0 i1 l0) (K := K) (bad_ref25_find_2 i0 i1 l0 K) (fun s kk => rd_ref25_find_2 F call dep K kk i0 i1 l0 s) fuel s
set_option maxRecDepth 100000 in
theorem e1_ref25_find_2 (fr : Fr) (M : Mm) : pt_ref25_find_2.fr fr = sF_ref25_find_2 (intOf (fr.tmps.getD 1 .dead)) (intOf (fr.tmps.getD 2 .dead)) (listOf ((partsOf (valR (M.rows.getD 0 (.arr 0 [])))).getD 0 .dead)) ((intOf (fr.tmps.getD 7 .dead))) := by kernel_rfl
set_option maxRecDepth 100000 in
theorem e2_ref25_find_2 (fr : Fr) (M : Mm) : pt_ref25_find_2.mm M = sM_ref25_find_2 (intOf (fr.tmps.getD 1 .dead)) (intOf (fr.tmps.getD 2 .dead)) (listOf ((partsOf (valR (M.rows.getD 0 (.arr 0 [])))).getD 0 .dead)) ((intOf (fr.tmps.getD 7 .dead))) := by kernel_rfl
set_option maxRecDepth 100000 in
theorem ok_ref25_find_2 (F : Tab) {dep : Nat} {fr : Fr} {M : Mm} {t : LT} (ht : lp_ref25_find_2 F dep fr M = some t) {R : Type} (K : AX → Fr → Mm → Option R) (r : R) (hgo : t.go K = some r) :
    iter 100000 (fun fr' M' k => evC (cx F) 91 (evF (cx F) dep) dep code_ref25_find_2 fr' M' (roundK Pg [] M.rows.length (some ([1, 2, 3, 7], [6])) K k)) fr M = some r := by
  unfold lp_ref25_find_2 at ht
  split at ht
  · rename_i hok
    obtain ⟨h1, h2⟩ := StP.ok_eq hok
    obtain rfl := Option.some.inj ht
    exact ok_of (X := fun fr M => iter 100000 (fun fr' M' k => evC (cx F) 91 (evF (cx F) dep) dep code_ref25_find_2 fr' M' (roundK Pg [] M.rows.length (some ([1, 2, 3, 7], [6])) K k)) fr M) (h1.trans (e1_ref25_find_2 fr M)) (h2.trans (e2_ref25_find_2 fr M)) (it_ref25_find_2 F _ _ K (intOf (fr.tmps.getD 1 .dead)) (intOf (fr.tmps.getD 2 .dead)) (listOf ((partsOf (valR (M.rows.getD 0 (.arr 0 [])))).getD 0 .dead)) 100000 ((intOf (fr.tmps.getD 7 .dead)))) hgo
  · exact absurd ht (by simp)
set_option maxRecDepth 100000 in
theorem at_ref25_find_2 : (Try.f91.body.bind fun c => loopAt c 2) = some code_ref25_find_2 := by kernel_rfl
theorem bad_ref25_bits_3 {R : Type} (i0 : Int) (K : AX → Fr → Mm → Option R) : (lt_ref25_bits_3 i0 LO.bad).go K = none := by kernel_rfl
noncomputable def code_ref25_bits_3 : Code := ((Try.f92.body.bind fun c => loopAt c 3).getD .skip)
set_option maxRecDepth 100000 in
theorem rd_ref25_bits_3 (F : Tab) {R : Type} (call : CallH R) (dep : Nat) (K : AX → Fr → Mm → Option R) (kk : Fr → Mm → Option R) (i0 : Int) (s : Int) :
    evC (cx F) 92 call dep code_ref25_bits_3 (sF_ref25_bits_3 i0 s) (sM_ref25_bits_3 i0 s) (roundK Pg [] 0 (some ([0, 3, 4], [0, 2])) K kk) =
    (st_ref25_bits_3 F i0 s).go (lt_ref25_bits_3 i0) K (fun s => kk (sF_ref25_bits_3 i0 s) (sM_ref25_bits_3 i0 s)) := by kernel_rfl
set_option maxRecDepth 100000 in
theorem it_ref25_bits_3 (F : Tab) {R : Type} (call : CallH R) (dep : Nat) (K : AX → Fr → Mm → Option R) (i0 : Int) (fuel : Nat) (s : Int) :
    iter fuel (fun fr M' k => evC (cx F) 92 call dep code_ref25_bits_3 fr M' (roundK Pg [] 0 (some ([0, 3, 4], [0, 2])) K k)) (sF_ref25_bits_3 i0 s) (sM_ref25_bits_3 i0 s) = (lt_ref25_bits_3 i0 (Tr.run (st_ref25_bits_3 F i0) fuel s)).go K :=
  iter_tr (B := fun fr M' k => evC (cx F) 92 call dep code_ref25_bits_3 fr M' (roundK Pg [] 0 (some ([0, 3, 4], [0, 2])) K k)) (step := st_ref25_bits_3 F i0) (lt := lt_ref25_bits_3 i0) (sF := sF_ref25_bits_3 i0) (sM := sM_ref25_bits_3 i0) (K := K) (bad_ref25_bits_3 i0 K) (fun s kk => rd_ref25_bits_3 F call dep K kk i0 s) fuel s
set_option maxRecDepth 100000 in
theorem e1_ref25_bits_3 (fr : Fr) (M : Mm) : pt_ref25_bits_3.fr fr = sF_ref25_bits_3 (intOf (fr.tmps.getD 0 .dead)) ((intOf (fr.tmps.getD 4 .dead))) := by kernel_rfl
set_option maxRecDepth 100000 in
theorem e2_ref25_bits_3 (fr : Fr) (M : Mm) : pt_ref25_bits_3.mm M = sM_ref25_bits_3 (intOf (fr.tmps.getD 0 .dead)) ((intOf (fr.tmps.getD 4 .dead))) := by kernel_rfl
set_option maxRecDepth 100000 in
theorem ok_ref25_bits_3 (F : Tab) {dep : Nat} {fr : Fr} {M : Mm} {t : LT} (ht : lp_ref25_bits_3 F dep fr M = some t) {R : Type} (K : AX → Fr → Mm → Option R) (r : R) (hgo : t.go K = some r) :
    iter 100000 (fun fr' M' k => evC (cx F) 92 (evF (cx F) dep) dep code_ref25_bits_3 fr' M' (roundK Pg [] M.rows.length (some ([0, 3, 4], [0, 2])) K k)) fr M = some r := by
  unfold lp_ref25_bits_3 at ht
  split at ht
  · rename_i hok
    obtain ⟨h1, h2⟩ := StP.ok_eq hok
    obtain rfl := Option.some.inj ht
    exact ok_of (X := fun fr M => iter 100000 (fun fr' M' k => evC (cx F) 92 (evF (cx F) dep) dep code_ref25_bits_3 fr' M' (roundK Pg [] M.rows.length (some ([0, 3, 4], [0, 2])) K k)) fr M) (h1.trans (e1_ref25_bits_3 fr M)) (h2.trans (e2_ref25_bits_3 fr M)) (it_ref25_bits_3 F _ _ K (intOf (fr.tmps.getD 0 .dead)) 100000 ((intOf (fr.tmps.getD 4 .dead)))) hgo
  · exact absurd ht (by simp)
set_option maxRecDepth 100000 in
theorem at_ref25_bits_3 : (Try.f92.body.bind fun c => loopAt c 3) = some code_ref25_bits_3 := by kernel_rfl
theorem bad_tlb_keep_int_3 {R : Type} (l1 : List AV) (i0 i2 i3 i4 i5 i6 : Int) (l2 : List AV) (K : AX → Fr → Mm → Option R) : (lt_tlb_keep_int_3 l1 i0 i2 i3 i4 i5 i6 l2 LO.bad).go K = none := by kernel_rfl
noncomputable def code_tlb_keep_int_3 : Code := ((Try.f124.body.bind fun c => loopAt c 3).getD .skip)
set_option maxRecDepth 100000 in
theorem rd_tlb_keep_int_3 (F : Tab) {R : Type} (K : AX → Fr → Mm → Option R) (kk : Fr → Mm → Option R) (l1 : List AV) (i0 i2 i3 i4 i5 i6 : Int) (l2 : List AV) (s : List AV × Int) :
    evC (cx F) 124 (evF (cx F) 4) 4 code_tlb_keep_int_3 (sF_tlb_keep_int_3 l1 i0 i2 i3 i4 i5 i6 l2 s) (sM_tlb_keep_int_3 l1 i0 i2 i3 i4 i5 i6 l2 s) (roundK Pg [] 1 (some ([1, 5, 8, 9, 10], [5])) K kk) =
    (st_tlb_keep_int_3 F l1 i0 i2 i3 i4 i5 i6 l2 s).go (lt_tlb_keep_int_3 l1 i0 i2 i3 i4 i5 i6 l2) K (fun s => kk (sF_tlb_keep_int_3 l1 i0 i2 i3 i4 i5 i6 l2 s) (sM_tlb_keep_int_3 l1 i0 i2 i3 i4 i5 i6 l2 s)) := by kernel_rfl
set_option maxRecDepth 100000 in
theorem it_tlb_keep_int_3 (F : Tab) {R : Type} (K : AX → Fr → Mm → Option R) (l1 : List AV) (i0 i2 i3 i4 i5 i6 : Int) (l2 : List AV) (fuel : Nat) (s : List AV × Int) :
    iter fuel (fun fr M' k => evC (cx F) 124 (evF (cx F) 4) 4 code_tlb_keep_int_3 fr M' (roundK Pg [] 1 (some ([1, 5, 8, 9, 10], [5])) K k)) (sF_tlb_keep_int_3 l1 i0 i2 i3 i4 i5 i6 l2 s) (sM_tlb_keep_int_3 l1 i0 i2 i3 i4 i5 i6 l2 s) = (lt_tlb_keep_int_3 l1 i0 i2 i3 i4 i5 i6 l2 (Tr.run (st_tlb_keep_int_3 F l1 i0 i2 i3 i4 i5 i6 l2) fuel s)).go K :=
  iter_tr (B := fun fr M' k => evC (cx F) 124 (evF (cx F) 4) 4 code_tlb_keep_int_3 fr M' (roundK Pg [] 1 (some ([1, 5, 8, 9, 10], [5])) K k)) (step := st_tlb_keep_int_3 F l1 i0 i2 i3 i4 i5 i6 l2) (lt := lt_tlb_keep_int_3 l1 i0 i2 i3 i4 i5 i6 l2) (sF := sF_tlb_keep_int_3 l1 i0 i2 i3 i4 i5 i6 l2) (sM := sM_tlb_keep_int_3 l1 i0 i2 i3 i4 i5 i6 l2) (K := K) (bad_tlb_keep_int_3 l1 i0 i2 i3 i4 i5 i6 l2 K) (fun s kk => rd_tlb_keep_int_3 F K kk l1 i0 i2 i3 i4 i5 i6 l2 s) fuel s
set_option maxRecDepth 100000 in
theorem e1_tlb_keep_int_3 (fr : Fr) (M : Mm) : pt_tlb_keep_int_3.fr fr = sF_tlb_keep_int_3 (listOf (fr.tmps.getD 8 .dead)) (intOf (fr.tmps.getD 9 .dead)) (intOf ((partsOf (valR (M.rows.getD 0 (.arr 0 [])))).getD 0 .dead)) (intOf ((partsOf (valR (M.rows.getD 0 (.arr 0 [])))).getD 1 .dead)) (intOf ((partsOf (valR (M.rows.getD 0 (.arr 0 [])))).getD 2 .dead)) (intOf ((partsOf (valR (M.rows.getD 0 (.arr 0 [])))).getD 3 .dead)) (intOf ((partsOf (valR (M.rows.getD 0 (.arr 0 [])))).getD 4 .dead)) (listOf ((partsOf (valR (M.rows.getD 0 (.arr 0 [])))).getD 5 .dead)) ((listOf (fr.tmps.getD 5 .dead)), (intOf (fr.tmps.getD 10 .dead))) := by kernel_rfl
set_option maxRecDepth 100000 in
theorem e2_tlb_keep_int_3 (fr : Fr) (M : Mm) : pt_tlb_keep_int_3.mm M = sM_tlb_keep_int_3 (listOf (fr.tmps.getD 8 .dead)) (intOf (fr.tmps.getD 9 .dead)) (intOf ((partsOf (valR (M.rows.getD 0 (.arr 0 [])))).getD 0 .dead)) (intOf ((partsOf (valR (M.rows.getD 0 (.arr 0 [])))).getD 1 .dead)) (intOf ((partsOf (valR (M.rows.getD 0 (.arr 0 [])))).getD 2 .dead)) (intOf ((partsOf (valR (M.rows.getD 0 (.arr 0 [])))).getD 3 .dead)) (intOf ((partsOf (valR (M.rows.getD 0 (.arr 0 [])))).getD 4 .dead)) (listOf ((partsOf (valR (M.rows.getD 0 (.arr 0 [])))).getD 5 .dead)) ((listOf (fr.tmps.getD 5 .dead)), (intOf (fr.tmps.getD 10 .dead))) := by kernel_rfl
set_option maxRecDepth 100000 in
theorem ok_tlb_keep_int_3 (F : Tab) {dep : Nat} {fr : Fr} {M : Mm} {t : LT} (ht : lp_tlb_keep_int_3 F dep fr M = some t) {R : Type} (K : AX → Fr → Mm → Option R) (r : R) (hgo : t.go K = some r) :
    iter 100000 (fun fr' M' k => evC (cx F) 124 (evF (cx F) dep) dep code_tlb_keep_int_3 fr' M' (roundK Pg [] M.rows.length (some ([1, 5, 8, 9, 10], [5])) K k)) fr M = some r := by
  unfold lp_tlb_keep_int_3 at ht
  split at ht
  · rename_i hok
    simp only [Bool.and_eq_true, Nat.beq_eq] at hok
    obtain ⟨rfl, hok⟩ := hok
    obtain ⟨h1, h2⟩ := StP.ok_eq hok
    obtain rfl := Option.some.inj ht
    exact ok_of (X := fun fr M => iter 100000 (fun fr' M' k => evC (cx F) 124 (evF (cx F) 4) 4 code_tlb_keep_int_3 fr' M' (roundK Pg [] M.rows.length (some ([1, 5, 8, 9, 10], [5])) K k)) fr M) (h1.trans (e1_tlb_keep_int_3 fr M)) (h2.trans (e2_tlb_keep_int_3 fr M)) (it_tlb_keep_int_3 F K (listOf (fr.tmps.getD 8 .dead)) (intOf (fr.tmps.getD 9 .dead)) (intOf ((partsOf (valR (M.rows.getD 0 (.arr 0 [])))).getD 0 .dead)) (intOf ((partsOf (valR (M.rows.getD 0 (.arr 0 [])))).getD 1 .dead)) (intOf ((partsOf (valR (M.rows.getD 0 (.arr 0 [])))).getD 2 .dead)) (intOf ((partsOf (valR (M.rows.getD 0 (.arr 0 [])))).getD 3 .dead)) (intOf ((partsOf (valR (M.rows.getD 0 (.arr 0 [])))).getD 4 .dead)) (listOf ((partsOf (valR (M.rows.getD 0 (.arr 0 [])))).getD 5 .dead)) 100000 ((listOf (fr.tmps.getD 5 .dead)), (intOf (fr.tmps.getD 10 .dead)))) hgo
  · exact absurd ht (by simp)
set_option maxRecDepth 100000 in
theorem at_tlb_keep_int_3 : (Try.f124.body.bind fun c => loopAt c 3) = some code_tlb_keep_int_3 := by kernel_rfl
theorem bad_tlb_keep_int_3a {R : Type} (l1 : List AV) (i0 i2 i3 i4 i5 i6 : Int) (l2 : List AV) (i7 i8 : Int) (K : AX → Fr → Mm → Option R) : (lt_tlb_keep_int_3a l1 i0 i2 i3 i4 i5 i6 l2 i7 i8 LO.bad).go K = none := by kernel_rfl
noncomputable def code_tlb_keep_int_3a : Code := ((Try.f124.body.bind fun c => loopAt c 3).getD .skip)
set_option maxRecDepth 100000 in
theorem rd_tlb_keep_int_3a (F : Tab) {R : Type} (K : AX → Fr → Mm → Option R) (kk : Fr → Mm → Option R) (l1 : List AV) (i0 i2 i3 i4 i5 i6 : Int) (l2 : List AV) (i7 i8 : Int) (s : List AV × Int) :
    evC (cx F) 124 (evF (cx F) 4) 4 code_tlb_keep_int_3a (sF_tlb_keep_int_3a l1 i0 i2 i3 i4 i5 i6 l2 i7 i8 s) (sM_tlb_keep_int_3a l1 i0 i2 i3 i4 i5 i6 l2 i7 i8 s) (roundK Pg [] 3 (some ([1, 5, 8, 9, 10], [5])) K kk) =
    (st_tlb_keep_int_3a F l1 i0 i2 i3 i4 i5 i6 l2 i7 i8 s).go (lt_tlb_keep_int_3a l1 i0 i2 i3 i4 i5 i6 l2 i7 i8) K (fun s => kk (sF_tlb_keep_int_3a l1 i0 i2 i3 i4 i5 i6 l2 i7 i8 s) (sM_tlb_keep_int_3a l1 i0 i2 i3 i4 i5 i6 l2 i7 i8 s)) := by kernel_rfl
set_option maxRecDepth 100000 in
theorem it_tlb_keep_int_3a (F : Tab) {R : Type} (K : AX → Fr → Mm → Option R) (l1 : List AV) (i0 i2 i3 i4 i5 i6 : Int) (l2 : List AV) (i7 i8 : Int) (fuel : Nat) (s : List AV × Int) :
    iter fuel (fun fr M' k => evC (cx F) 124 (evF (cx F) 4) 4 code_tlb_keep_int_3a fr M' (roundK Pg [] 3 (some ([1, 5, 8, 9, 10], [5])) K k)) (sF_tlb_keep_int_3a l1 i0 i2 i3 i4 i5 i6 l2 i7 i8 s) (sM_tlb_keep_int_3a l1 i0 i2 i3 i4 i5 i6 l2 i7 i8 s) = (lt_tlb_keep_int_3a l1 i0 i2 i3 i4 i5 i6 l2 i7 i8 (Tr.run (st_tlb_keep_int_3a F l1 i0 i2 i3 i4 i5 i6 l2 i7 i8) fuel s)).go K :=
  iter_tr (B := fun fr M' k => evC (cx F) 124 (evF (cx F) 4) 4 code_tlb_keep_int_3a fr M' (roundK Pg [] 3 (some ([1, 5, 8, 9, 10], [5])) K k)) (step := st_tlb_keep_int_3a F l1 i0 i2 i3 i4 i5 i6 l2 i7 i8) (lt := lt_tlb_keep_int_3a l1 i0 i2 i3 i4 i5 i6 l2 i7 i8) (sF := sF_tlb_keep_int_3a l1 i0 i2 i3 i4 i5 i6 l2 i7 i8) (sM := sM_tlb_keep_int_3a l1 i0 i2 i3 i4 i5 i6 l2 i7 i8) (K := K) (bad_tlb_keep_int_3a l1 i0 i2 i3 i4 i5 i6 l2 i7 i8 K) (fun s kk => rd_tlb_keep_int_3a F K kk l1 i0 i2 i3 i4 i5 i6 l2 i7 i8 s) fuel s
set_option maxRecDepth 100000 in
theorem e1_tlb_keep_int_3a (fr : Fr) (M : Mm) : pt_tlb_keep_int_3a.fr fr = sF_tlb_keep_int_3a (listOf (fr.tmps.getD 8 .dead)) (intOf (fr.tmps.getD 9 .dead)) (intOf ((partsOf (valR (M.rows.getD 0 (.arr 0 [])))).getD 0 .dead)) (intOf ((partsOf (valR (M.rows.getD 0 (.arr 0 [])))).getD 1 .dead)) (intOf ((partsOf (valR (M.rows.getD 0 (.arr 0 [])))).getD 2 .dead)) (intOf ((partsOf (valR (M.rows.getD 0 (.arr 0 [])))).getD 3 .dead)) (intOf ((partsOf (valR (M.rows.getD 0 (.arr 0 [])))).getD 4 .dead)) (listOf ((partsOf (valR (M.rows.getD 0 (.arr 0 [])))).getD 5 .dead)) (intOf (valR (M.rows.getD 1 (.arr 0 [])))) (intOf (valR (M.rows.getD 2 (.arr 0 [])))) ((listOf (fr.tmps.getD 5 .dead)), (intOf (fr.tmps.getD 10 .dead))) := by kernel_rfl
set_option maxRecDepth 100000 in
theorem e2_tlb_keep_int_3a (fr : Fr) (M : Mm) : pt_tlb_keep_int_3a.mm M = sM_tlb_keep_int_3a (listOf (fr.tmps.getD 8 .dead)) (intOf (fr.tmps.getD 9 .dead)) (intOf ((partsOf (valR (M.rows.getD 0 (.arr 0 [])))).getD 0 .dead)) (intOf ((partsOf (valR (M.rows.getD 0 (.arr 0 [])))).getD 1 .dead)) (intOf ((partsOf (valR (M.rows.getD 0 (.arr 0 [])))).getD 2 .dead)) (intOf ((partsOf (valR (M.rows.getD 0 (.arr 0 [])))).getD 3 .dead)) (intOf ((partsOf (valR (M.rows.getD 0 (.arr 0 [])))).getD 4 .dead)) (listOf ((partsOf (valR (M.rows.getD 0 (.arr 0 [])))).getD 5 .dead)) (intOf (valR (M.rows.getD 1 (.arr 0 [])))) (intOf (valR (M.rows.getD 2 (.arr 0 [])))) ((listOf (fr.tmps.getD 5 .dead)), (intOf (fr.tmps.getD 10 .dead))) := by kernel_rfl
set_option maxRecDepth 100000 in
theorem ok_tlb_keep_int_3a (F : Tab) {dep : Nat} {fr : Fr} {M : Mm} {t : LT} (ht : lp_tlb_keep_int_3a F dep fr M = some t) {R : Type} (K : AX → Fr → Mm → Option R) (r : R) (hgo : t.go K = some r) :
    iter 100000 (fun fr' M' k => evC (cx F) 124 (evF (cx F) dep) dep code_tlb_keep_int_3a fr' M' (roundK Pg [] M.rows.length (some ([1, 5, 8, 9, 10], [5])) K k)) fr M = some r := by
  unfold lp_tlb_keep_int_3a at ht
  split at ht
  · rename_i hok
    simp only [Bool.and_eq_true, Nat.beq_eq] at hok
    obtain ⟨rfl, hok⟩ := hok
    obtain ⟨h1, h2⟩ := StP.ok_eq hok
    obtain rfl := Option.some.inj ht
    exact ok_of (X := fun fr M => iter 100000 (fun fr' M' k => evC (cx F) 124 (evF (cx F) 4) 4 code_tlb_keep_int_3a fr' M' (roundK Pg [] M.rows.length (some ([1, 5, 8, 9, 10], [5])) K k)) fr M) (h1.trans (e1_tlb_keep_int_3a fr M)) (h2.trans (e2_tlb_keep_int_3a fr M)) (it_tlb_keep_int_3a F K (listOf (fr.tmps.getD 8 .dead)) (intOf (fr.tmps.getD 9 .dead)) (intOf ((partsOf (valR (M.rows.getD 0 (.arr 0 [])))).getD 0 .dead)) (intOf ((partsOf (valR (M.rows.getD 0 (.arr 0 [])))).getD 1 .dead)) (intOf ((partsOf (valR (M.rows.getD 0 (.arr 0 [])))).getD 2 .dead)) (intOf ((partsOf (valR (M.rows.getD 0 (.arr 0 [])))).getD 3 .dead)) (intOf ((partsOf (valR (M.rows.getD 0 (.arr 0 [])))).getD 4 .dead)) (listOf ((partsOf (valR (M.rows.getD 0 (.arr 0 [])))).getD 5 .dead)) (intOf (valR (M.rows.getD 1 (.arr 0 [])))) (intOf (valR (M.rows.getD 2 (.arr 0 [])))) 100000 ((listOf (fr.tmps.getD 5 .dead)), (intOf (fr.tmps.getD 10 .dead)))) hgo
  · exact absurd ht (by simp)
set_option maxRecDepth 100000 in
theorem at_tlb_keep_int_3a : (Try.f124.body.bind fun c => loopAt c 3) = some code_tlb_keep_int_3a := by kernel_rfl
theorem bad_ref25_Fill_3 {R : Type} (l0 : List AV) (i1 i2 i3 i4 i5 : Int) (l1 : List AV) (K : AX → Fr → Mm → Option R) : (lt_ref25_Fill_3 l0 i1 i2 i3 i4 i5 l1 LO.bad).go K = none := by kernel_rfl
noncomputable def code_ref25_Fill_3 : Code := ((Try.f98.body.bind fun c => loopAt c 3).getD .skip)
set_option maxRecDepth 100000 in
theorem rd_ref25_Fill_3 (F : Tab) {R : Type} (call : CallH R) (dep : Nat) (K : AX → Fr → Mm → Option R) (kk : Fr → Mm → Option R) (l0 : List AV) (i1 i2 i3 i4 i5 : Int) (l1 : List AV) (s : Int × List AV) :
    evC (cx F) 98 call dep code_ref25_Fill_3 (sF_ref25_Fill_3 l0 i1 i2 i3 i4 i5 l1 s) (sM_ref25_Fill_3 l0 i1 i2 i3 i4 i5 l1 s) (roundK Pg [] 4 (some ([2, 3, 4, 5, 6], [3, 4, 5])) K kk) =
    (st_ref25_Fill_3 F l0 i1 i2 i3 i4 i5 l1 s).go (lt_ref25_Fill_3 l0 i1 i2 i3 i4 i5 l1) K (fun s => kk (sF_ref25_Fill_3 l0 i1 i2 i3 i4 i5 l1 s) (sM_ref25_Fill_3 l0 i1 i2 i3 i4 i5 l1 s)) := by kernel_rfl
set_option maxRecDepth 100000 in
theorem it_ref25_Fill_3 (F : Tab) {R : Type} (call : CallH R) (dep : Nat) (K : AX → Fr → Mm → Option R) (l0 : List AV) (i1 i2 i3 i4 i5 : Int) (l1 : List AV) (fuel : Nat) (s : Int × List AV) :
    iter fuel (fun fr M' k => evC (cx F) 98 call dep code_ref25_Fill_3 fr M' (roundK Pg [] 4 (some ([2, 3, 4, 5, 6], [3, 4, 5])) K k)) (sF_ref25_Fill_3 l0 i1 i2 i3 i4 i5 l1 s) (sM_ref25_Fill_3 l0 i1 i2 i3 i4 i5 l1 s) = (lt_ref25_Fill_3 l0 i1 i2 i3 i4 i5 l1 (Tr.run (st_ref25_Fill_3 F l0 i1 i2 i3 i4 i5 l1) fuel s)).go K :=
  iter_tr (B := fun fr M' k => evC (cx F) 98 call dep code_ref25_Fill_3 fr M' (roundK Pg [] 4 (some ([2, 3, 4, 5, 6], [3, 4, 5])) K k)) (step := st_ref25_Fill_3 F l0 i1 i2 i3 i4 i5 l1) (lt := lt_ref25_Fill_3 l0 i1 i2 i3 i4 i5 l1) (sF := sF_ref25_Fill_3 l0 i1 i2 i3 i4 i5 l1) (sM := sM_ref25_Fill_3 l0 i1 i2 i3 i4 i5 l1) (K := K) (bad_ref25_Fill_3 l0 i1 i2 i3 i4 i5 l1 K) (fun s kk => rd_ref25_Fill_3 F call dep K kk l0 i1 i2 i3 i4 i5 l1 s) fuel s
set_option maxRecDepth 100000 in
theorem e1_ref25_Fill_3 (fr : Fr) (M : Mm) : pt_ref25_Fill_3.fr fr = sF_ref25_Fill_3 (listOf ((partsOf (valR (M.rows.getD 0 (.arr 0 [])))).getD 0 .dead)) (intOf ((partsOf (valR (M.rows.getD 1 (.arr 0 [])))).getD 0 .dead)) (intOf ((partsOf (valR (M.rows.getD 1 (.arr 0 [])))).getD 1 .dead)) (intOf ((partsOf (valR (M.rows.getD 1 (.arr 0 [])))).getD 2 .dead)) (intOf ((partsOf (valR (M.rows.getD 1 (.arr 0 [])))).getD 3 .dead)) (intOf ((partsOf (valR (M.rows.getD 1 (.arr 0 [])))).getD 4 .dead)) (listOf ((partsOf (valR (M.rows.getD 1 (.arr 0 [])))).getD 5 .dead)) ((intOf (fr.tmps.getD 6 .dead)), (listOf ((partsOf (valR (M.rows.getD 3 (.arr 0 [])))).getD 0 .dead))) := by kernel_rfl
set_option maxRecDepth 100000 in
theorem e2_ref25_Fill_3 (fr : Fr) (M : Mm) : pt_ref25_Fill_3.mm M = sM_ref25_Fill_3 (listOf ((partsOf (valR (M.rows.getD 0 (.arr 0 [])))).getD 0 .dead)) (intOf ((partsOf (valR (M.rows.getD 1 (.arr 0 [])))).getD 0 .dead)) (intOf ((partsOf (valR (M.rows.getD 1 (.arr 0 [])))).getD 1 .dead)) (intOf ((partsOf (valR (M.rows.getD 1 (.arr 0 [])))).getD 2 .dead)) (intOf ((partsOf (valR (M.rows.getD 1 (.arr 0 [])))).getD 3 .dead)) (intOf ((partsOf (valR (M.rows.getD 1 (.arr 0 [])))).getD 4 .dead)) (listOf ((partsOf (valR (M.rows.getD 1 (.arr 0 [])))).getD 5 .dead)) ((intOf (fr.tmps.getD 6 .dead)), (listOf ((partsOf (valR (M.rows.getD 3 (.arr 0 [])))).getD 0 .dead))) := by kernel_rfl
set_option maxRecDepth 100000 in
theorem ok_ref25_Fill_3 (F : Tab) {dep : Nat} {fr : Fr} {M : Mm} {t : LT} (ht : lp_ref25_Fill_3 F dep fr M = some t) {R : Type} (K : AX → Fr → Mm → Option R) (r : R) (hgo : t.go K = some r) :
    iter 100000 (fun fr' M' k => evC (cx F) 98 (evF (cx F) dep) dep code_ref25_Fill_3 fr' M' (roundK Pg [] M.rows.length (some ([2, 3, 4, 5, 6], [3, 4, 5])) K k)) fr M = some r := by
  unfold lp_ref25_Fill_3 at ht
  split at ht
  · rename_i hok
    obtain ⟨h1, h2⟩ := StP.ok_eq hok
    obtain rfl := Option.some.inj ht
    exact ok_of (X := fun fr M => iter 100000 (fun fr' M' k => evC (cx F) 98 (evF (cx F) dep) dep code_ref25_Fill_3 fr' M' (roundK Pg [] M.rows.length (some ([2, 3, 4, 5, 6], [3, 4, 5])) K k)) fr M) (h1.trans (e1_ref25_Fill_3 fr M)) (h2.trans (e2_ref25_Fill_3 fr M)) (it_ref25_Fill_3 F _ _ K (listOf ((partsOf (valR (M.rows.getD 0 (.arr 0 [])))).getD 0 .dead)) (intOf ((partsOf (valR (M.rows.getD 1 (.arr 0 [])))).getD 0 .dead)) (intOf ((partsOf (valR (M.rows.getD 1 (.arr 0 [])))).getD 1 .dead)) (intOf ((partsOf (valR (M.rows.getD 1 (.arr 0 [])))).getD 2 .dead)) (intOf ((partsOf (valR (M.rows.getD 1 (.arr 0 [])))).getD 3 .dead)) (intOf ((partsOf (valR (M.rows.getD 1 (.arr 0 [])))).getD 4 .dead)) (listOf ((partsOf (valR (M.rows.getD 1 (.arr 0 [])))).getD 5 .dead)) 100000 ((intOf (fr.tmps.getD 6 .dead)), (listOf ((partsOf (valR (M.rows.getD 3 (.arr 0 [])))).getD 0 .dead)))) hgo
  · exact absurd ht (by simp)
set_option maxRecDepth 100000 in
theorem at_ref25_Fill_3 : (Try.f98.body.bind fun c => loopAt c 3) = some code_ref25_Fill_3 := by kernel_rfl
theorem bad_ref25_Flush_3 {R : Type} (i0 : Int) (l0 : List AV) (K : AX → Fr → Mm → Option R) : (lt_ref25_Flush_3 i0 l0 LO.bad).go K = none := by kernel_rfl
noncomputable def code_ref25_Flush_3 : Code := ((Try.f99.body.bind fun c => loopAt c 3).getD .skip)
set_option maxRecDepth 100000 in
theorem rd_ref25_Flush_3 (F : Tab) {R : Type} (call : CallH R) (dep : Nat) (K : AX → Fr → Mm → Option R) (kk : Fr → Mm → Option R) (i0 : Int) (l0 : List AV) (s : Int × List AV) :
    evC (cx F) 99 call dep code_ref25_Flush_3 (sF_ref25_Flush_3 i0 l0 s) (sM_ref25_Flush_3 i0 l0 s) (roundK Pg [] 3 (some ([1, 2, 4, 5, 6], [4, 5])) K kk) =
    (st_ref25_Flush_3 F i0 l0 s).go (lt_ref25_Flush_3 i0 l0) K (fun s => kk (sF_ref25_Flush_3 i0 l0 s) (sM_ref25_Flush_3 i0 l0 s)) := by kernel_rfl
set_option maxRecDepth 100000 in
theorem it_ref25_Flush_3 (F : Tab) {R : Type} (call : CallH R) (dep : Nat) (K : AX → Fr → Mm → Option R) (i0 : Int) (l0 : List AV) (fuel : Nat) (s : Int × List AV) :
    iter fuel (fun fr M' k => evC (cx F) 99 call dep code_ref25_Flush_3 fr M' (roundK Pg [] 3 (some ([1, 2, 4, 5, 6], [4, 5])) K k)) (sF_ref25_Flush_3 i0 l0 s) (sM_ref25_Flush_3 i0 l0 s) = (lt_ref25_Flush_3 i0 l0 (Tr.run (st_ref25_Flush_3 F i0 l0) fuel s)).go K :=
  iter_tr (B := fun fr M' k => evC (cx F) 99 call dep code_ref25_Flush_3 fr M' (roundK Pg [] 3 (some ([1, 2, 4, 5, 6], [4, 5])) K k)) (step := st_ref25_Flush_3 F i0 l0) (lt := lt_ref25_Flush_3 i0 l0) (sF := sF_ref25_Flush_3 i0 l0) (sM := sM_ref25_Flush_3 i0 l0) (K := K) (bad_ref25_Flush_3 i0 l0 K) (fun s kk => rd_ref25_Flush_3 F call dep K kk i0 l0 s) fuel s
set_option maxRecDepth 100000 in
theorem e1_ref25_Flush_3 (fr : Fr) (M : Mm) : pt_ref25_Flush_3.fr fr = sF_ref25_Flush_3 (intOf (fr.tmps.getD 1 .dead)) (listOf ((partsOf (valR (M.rows.getD 0 (.arr 0 [])))).getD 0 .dead)) ((intOf (fr.tmps.getD 6 .dead)), (listOf ((partsOf (valR (M.rows.getD 2 (.arr 0 [])))).getD 0 .dead))) := by kernel_rfl
set_option maxRecDepth 100000 in
theorem e2_ref25_Flush_3 (fr : Fr) (M : Mm) : pt_ref25_Flush_3.mm M = sM_ref25_Flush_3 (intOf (fr.tmps.getD 1 .dead)) (listOf ((partsOf (valR (M.rows.getD 0 (.arr 0 [])))).getD 0 .dead)) ((intOf (fr.tmps.getD 6 .dead)), (listOf ((partsOf (valR (M.rows.getD 2 (.arr 0 [])))).getD 0 .dead))) := by kernel_rfl
set_option maxRecDepth 100000 in
theorem ok_ref25_Flush_3 (F : Tab) {dep : Nat} {fr : Fr} {M : Mm} {t : LT} (ht : lp_ref25_Flush_3 F dep fr M = some t) {R : Type} (K : AX → Fr → Mm → Option R) (r : R) (hgo : t.go K = some r) :
    iter 100000 (fun fr' M' k => evC (cx F) 99 (evF (cx F) dep) dep code_ref25_Flush_3 fr' M' (roundK Pg [] M.rows.length (some ([1, 2, 4, 5, 6], [4, 5])) K k)) fr M = some r := by
  unfold lp_ref25_Flush_3 at ht
  split at ht
  · rename_i hok
    obtain ⟨h1, h2⟩ := StP.ok_eq hok
    obtain rfl := Option.some.inj ht
    exact ok_of (X := fun fr M => iter 100000 (fun fr' M' k => evC (cx F) 99 (evF (cx F) dep) dep code_ref25_Flush_3 fr' M' (roundK Pg [] M.rows.length (some ([1, 2, 4, 5, 6], [4, 5])) K k)) fr M) (h1.trans (e1_ref25_Flush_3 fr M)) (h2.trans (e2_ref25_Flush_3 fr M)) (it_ref25_Flush_3 F _ _ K (intOf (fr.tmps.getD 1 .dead)) (listOf ((partsOf (valR (M.rows.getD 0 (.arr 0 [])))).getD 0 .dead)) 100000 ((intOf (fr.tmps.getD 6 .dead)), (listOf ((partsOf (valR (M.rows.getD 2 (.arr 0 [])))).getD 0 .dead)))) hgo
  · exact absurd ht (by simp)
set_option maxRecDepth 100000 in
theorem at_ref25_Flush_3 : (Try.f99.body.bind fun c => loopAt c 3) = some code_ref25_Flush_3 := by kernel_rfl
theorem bad_ref25_Touch_3 {R : Type} (i0 i1 : Int) (l0 : List AV) (K : AX → Fr → Mm → Option R) : (lt_ref25_Touch_3 i0 i1 l0 LO.bad).go K = none := by kernel_rfl
noncomputable def code_ref25_Touch_3 : Code := ((Try.f100.body.bind fun c => loopAt c 3).getD .skip)
set_option maxRecDepth 100000 in
theorem rd_ref25_Touch_3 (F : Tab) {R : Type} (call : CallH R) (dep : Nat) (K : AX → Fr → Mm → Option R) (kk : Fr → Mm → Option R) (i0 i1 : Int) (l0 : List AV) (s : Int × List AV) :
    evC (cx F) 100 call dep code_ref25_Touch_3 (sF_ref25_Touch_3 i0 i1 l0 s) (sM_ref25_Touch_3 i0 i1 l0 s) (roundK Pg [] 3 (some ([1, 2, 3, 6, 7, 8], [6, 7])) K kk) =
    (st_ref25_Touch_3 F i0 i1 l0 s).go (lt_ref25_Touch_3 i0 i1 l0) K (fun s => kk (sF_ref25_Touch_3 i0 i1 l0 s) (sM_ref25_Touch_3 i0 i1 l0 s)) := by kernel_rfl
set_option maxRecDepth 100000 in
theorem it_ref25_Touch_3 (F : Tab) {R : Type} (call : CallH R) (dep : Nat) (K : AX → Fr → Mm → Option R) (i0 i1 : Int) (l0 : List AV) (fuel : Nat) (s : Int × List AV) :
    iter fuel (fun fr M' k => evC (cx F) 100 call dep code_ref25_Touch_3 fr M' (roundK Pg [] 3 (some ([1, 2, 3, 6, 7, 8], [6, 7])) K k)) (sF_ref25_Touch_3 i0 i1 l0 s) (sM_ref25_Touch_3 i0 i1 l0 s) = (lt_ref25_Touch_3 i0 i1 l0 (Tr.run (st_ref25_Touch_3 F i0 i1 l0) fuel s)).go K :=
  iter_tr (B := fun fr M' k => evC (cx F) 100 call dep code_ref25_Touch_3 fr M' (roundK Pg [] 3 (some ([1, 2, 3, 6, 7, 8], [6, 7])) K k)) (step := st_ref25_Touch_3 F i0 i1 l0) (lt := lt_ref25_Touch_3 i0 i1 l0) (sF := sF_ref25_Touch_3 i0 i1 l0) (sM := sM_ref25_Touch_3 i0 i1 l0) (K := K) (bad_ref25_Touch_3 i0 i1 l0 K) (fun s kk => rd_ref25_Touch_3 F call dep K kk i0 i1 l0 s) fuel s
set_option maxRecDepth 100000 in
theorem e1_ref25_Touch_3 (fr : Fr) (M : Mm) : pt_ref25_Touch_3.fr fr = sF_ref25_Touch_3 (intOf (fr.tmps.getD 1 .dead)) (intOf (fr.tmps.getD 2 .dead)) (listOf ((partsOf (valR (M.rows.getD 0 (.arr 0 [])))).getD 0 .dead)) ((intOf (fr.tmps.getD 8 .dead)), (listOf ((partsOf (valR (M.rows.getD 2 (.arr 0 [])))).getD 0 .dead))) := by kernel_rfl
set_option maxRecDepth 100000 in
theorem e2_ref25_Touch_3 (fr : Fr) (M : Mm) : pt_ref25_Touch_3.mm M = sM_ref25_Touch_3 (intOf (fr.tmps.getD 1 .dead)) (intOf (fr.tmps.getD 2 .dead)) (listOf ((partsOf (valR (M.rows.getD 0 (.arr 0 [])))).getD 0 .dead)) ((intOf (fr.tmps.getD 8 .dead)), (listOf ((partsOf (valR (M.rows.getD 2 (.arr 0 [])))).getD 0 .dead))) := by kernel_rfl
set_option maxRecDepth 100000 in
theorem ok_ref25_Touch_3 (F : Tab) {dep : Nat} {fr : Fr} {M : Mm} {t : LT} (ht : lp_ref25_Touch_3 F dep fr M = some t) {R : Type} (K : AX → Fr → Mm → Option R) (r : R) (hgo : t.go K = some r) :
    iter 100000 (fun fr' M' k => evC (cx F) 100 (evF (cx F) dep) dep code_ref25_Touch_3 fr' M' (roundK Pg [] M.rows.length (some ([1, 2, 3, 6, 7, 8], [6, 7])) K k)) fr M = some r := by
  unfold lp_ref25_Touch_3 at ht
  split at ht
  · rename_i hok
    obtain ⟨h1, h2⟩ := StP.ok_eq hok
    obtain rfl := Option.some.inj ht
    exact ok_of (X := fun fr M => iter 100000 (fun fr' M' k => evC (cx F) 100 (evF (cx F) dep) dep code_ref25_Touch_3 fr' M' (roundK Pg [] M.rows.length (some ([1, 2, 3, 6, 7, 8], [6, 7])) K k)) fr M) (h1.trans (e1_ref25_Touch_3 fr M)) (h2.trans (e2_ref25_Touch_3 fr M)) (it_ref25_Touch_3 F _ _ K (intOf (fr.tmps.getD 1 .dead)) (intOf (fr.tmps.getD 2 .dead)) (listOf ((partsOf (valR (M.rows.getD 0 (.arr 0 [])))).getD 0 .dead)) 100000 ((intOf (fr.tmps.getD 8 .dead)), (listOf ((partsOf (valR (M.rows.getD 2 (.arr 0 [])))).getD 0 .dead)))) hgo
  · exact absurd ht (by simp)
set_option maxRecDepth 100000 in
theorem at_ref25_Touch_3 : (Try.f100.body.bind fun c => loopAt c 3) = some code_ref25_Touch_3 := by kernel_rfl
theorem bad_ref25_Evict_3 {R : Type} (i0 : Int) (l0 : List AV) (K : AX → Fr → Mm → Option R) : (lt_ref25_Evict_3 i0 l0 LO.bad).go K = none := by kernel_rfl
noncomputable def code_ref25_Evict_3 : Code := ((Try.f101.body.bind fun c => loopAt c 3).getD .skip)
set_option maxRecDepth 100000 in
theorem rd_ref25_Evict_3 (F : Tab) {R : Type} (call : CallH R) (dep : Nat) (K : AX → Fr → Mm → Option R) (kk : Fr → Mm → Option R) (i0 : Int) (l0 : List AV) (s : Int × List AV) :
    evC (cx F) 101 call dep code_ref25_Evict_3 (sF_ref25_Evict_3 i0 l0 s) (sM_ref25_Evict_3 i0 l0 s) (roundK Pg [] 3 (some ([1, 2, 4, 5, 6], [4, 5])) K kk) =
    (st_ref25_Evict_3 F i0 l0 s).go (lt_ref25_Evict_3 i0 l0) K (fun s => kk (sF_ref25_Evict_3 i0 l0 s) (sM_ref25_Evict_3 i0 l0 s)) := by kernel_rfl
set_option maxRecDepth 100000 in
theorem it_ref25_Evict_3 (F : Tab) {R : Type} (call : CallH R) (dep : Nat) (K : AX → Fr → Mm → Option R) (i0 : Int) (l0 : List AV) (fuel : Nat) (s : Int × List AV) :
    iter fuel (fun fr M' k => evC (cx F) 101 call dep code_ref25_Evict_3 fr M' (roundK Pg [] 3 (some ([1, 2, 4, 5, 6], [4, 5])) K k)) (sF_ref25_Evict_3 i0 l0 s) (sM_ref25_Evict_3 i0 l0 s) = (lt_ref25_Evict_3 i0 l0 (Tr.run (st_ref25_Evict_3 F i0 l0) fuel s)).go K :=
  iter_tr (B := fun fr M' k => evC (cx F) 101 call dep code_ref25_Evict_3 fr M' (roundK Pg [] 3 (some ([1, 2, 4, 5, 6], [4, 5])) K k)) (step := st_ref25_Evict_3 F i0 l0) (lt := lt_ref25_Evict_3 i0 l0) (sF := sF_ref25_Evict_3 i0 l0) (sM := sM_ref25_Evict_3 i0 l0) (K := K) (bad_ref25_Evict_3 i0 l0 K) (fun s kk => rd_ref25_Evict_3 F call dep K kk i0 l0 s) fuel s
set_option maxRecDepth 100000 in
theorem e1_ref25_Evict_3 (fr : Fr) (M : Mm) : pt_ref25_Evict_3.fr fr = sF_ref25_Evict_3 (intOf (fr.tmps.getD 1 .dead)) (listOf ((partsOf (valR (M.rows.getD 0 (.arr 0 [])))).getD 0 .dead)) ((intOf (fr.tmps.getD 6 .dead)), (listOf ((partsOf (valR (M.rows.getD 2 (.arr 0 [])))).getD 0 .dead))) := by kernel_rfl
set_option maxRecDepth 100000 in
theorem e2_ref25_Evict_3 (fr : Fr) (M : Mm) : pt_ref25_Evict_3.mm M = sM_ref25_Evict_3 (intOf (fr.tmps.getD 1 .dead)) (listOf ((partsOf (valR (M.rows.getD 0 (.arr 0 [])))).getD 0 .dead)) ((intOf (fr.tmps.getD 6 .dead)), (listOf ((partsOf (valR (M.rows.getD 2 (.arr 0 [])))).getD 0 .dead))) := by kernel_rfl
set_option maxRecDepth 100000 in
theorem ok_ref25_Evict_3 (F : Tab) {dep : Nat} {fr : Fr} {M : Mm} {t : LT} (ht : lp_ref25_Evict_3 F dep fr M = some t) {R : Type} (K : AX → Fr → Mm → Option R) (r : R) (hgo : t.go K = some r) :
    iter 100000 (fun fr' M' k => evC (cx F) 101 (evF (cx F) dep) dep code_ref25_Evict_3 fr' M' (roundK Pg [] M.rows.length (some ([1, 2, 4, 5, 6], [4, 5])) K k)) fr M = some r := by
  unfold lp_ref25_Evict_3 at ht
  split at ht
  · rename_i hok
    obtain ⟨h1, h2⟩ := StP.ok_eq hok
    obtain rfl := Option.some.inj ht
    exact ok_of (X := fun fr M => iter 100000 (fun fr' M' k => evC (cx F) 101 (evF (cx F) dep) dep code_ref25_Evict_3 fr' M' (roundK Pg [] M.rows.length (some ([1, 2, 4, 5, 6], [4, 5])) K k)) fr M) (h1.trans (e1_ref25_Evict_3 fr M)) (h2.trans (e2_ref25_Evict_3 fr M)) (it_ref25_Evict_3 F _ _ K (intOf (fr.tmps.getD 1 .dead)) (listOf ((partsOf (valR (M.rows.getD 0 (.arr 0 [])))).getD 0 .dead)) 100000 ((intOf (fr.tmps.getD 6 .dead)), (listOf ((partsOf (valR (M.rows.getD 2 (.arr 0 [])))).getD 0 .dead)))) hgo
  · exact absurd ht (by simp)
set_option maxRecDepth 100000 in
theorem at_ref25_Evict_3 : (Try.f101.body.bind fun c => loopAt c 3) = some code_ref25_Evict_3 := by kernel_rfl
end
end Go.Proofs.Ytcknhfnbdgleiaa
