/- The loops come to what their functions say. (Printed by a program of mine, gen.py.) -/
import Derived.Test.YtcknhfnbdgleiaaTaC
set_option linter.unusedVariables false
set_option linter.unusedSimpArgs false
namespace Go.Proofs.Ytcknhfnbdgleiaa
open Go.AE
noncomputable section
theorem bad_law10_TableRightsAreOrdered_4 {R : Type} (i0 i1 : Int) (l0 : List AV) (K : AX → Fr → Mm → Option R) : (lt_law10_TableRightsAreOrdered_4 i0 i1 l0 LO.bad).go K = none := by kernel_rfl
noncomputable def code_law10_TableRightsAreOrdered_4 : Code := ((Try.f5.body.bind fun c => loopAt c 4).getD .skip)
set_option maxRecDepth 100000 in
theorem rd_law10_TableRightsAreOrdered_4 (F : Tab) {R : Type} (call : CallH R) (dep : Nat) (K : AX → Fr → Mm → Option R) (kk : Fr → Mm → Option R) (i0 i1 : Int) (l0 : List AV) (s : Int) :
    evC (cx F) 5 call dep code_law10_TableRightsAreOrdered_4 (sF_law10_TableRightsAreOrdered_4 i0 i1 l0 s) (sM_law10_TableRightsAreOrdered_4 i0 i1 l0 s) (roundK Pg [] 1 (some ([1, 2, 3, 7], [1, 2, 3, 6])) K kk) =
    (st_law10_TableRightsAreOrdered_4 F i0 i1 l0 s).go (lt_law10_TableRightsAreOrdered_4 i0 i1 l0) K (fun s => kk (sF_law10_TableRightsAreOrdered_4 i0 i1 l0 s) (sM_law10_TableRightsAreOrdered_4 i0 i1 l0 s)) := by kernel_rfl
set_option maxRecDepth 100000 in
theorem it_law10_TableRightsAreOrdered_4 (F : Tab) {R : Type} (call : CallH R) (dep : Nat) (K : AX → Fr → Mm → Option R) (i0 i1 : Int) (l0 : List AV) (fuel : Nat) (s : Int) :
    iter fuel (fun fr M' k => evC (cx F) 5 call dep code_law10_TableRightsAreOrdered_4 fr M' (roundK Pg [] 1 (some ([1, 2, 3, 7], [1, 2, 3, 6])) K k)) (sF_law10_TableRightsAreOrdered_4 i0 i1 l0 s) (sM_law10_TableRightsAreOrdered_4 i0 i1 l0 s) = (lt_law10_TableRightsAreOrdered_4 i0 i1 l0 (Tr.run (st_law10_TableRightsAreOrdered_4 F i0 i1 l0) fuel s)).go K :=
  iter_tr (B := fun fr M' k => evC (cx F) 5 call dep code_law10_TableRightsAreOrdered_4 fr M' (roundK Pg [] 1 (some ([1, 2, 3, 7], [1, 2, 3, 6])) K k)) (step := st_law10_TableRightsAreOrdered_4 F i0 i1 l0) (lt := lt_law10_TableRightsAreOrdered_4 i0 i1 l0) (sF := sF_law10_TableRightsAreOrdered_4 i0 i1 l0) (sM := sM_law10_TableRightsAreOrdered_4 i0 i1 l0) (K := K) (bad_law10_TableRightsAreOrdered_4 i0 i1 l0 K) (fun s kk => rd_law10_TableRightsAreOrdered_4 F call dep K kk i0 i1 l0 s) fuel s
set_option maxRecDepth 100000 in
theorem e1_law10_TableRightsAreOrdered_4 (fr : Fr) (M : Mm) : pt_law10_TableRightsAreOrdered_4.fr fr = sF_law10_TableRightsAreOrdered_4 (intOf (fr.tmps.getD 1 .dead)) (intOf (fr.tmps.getD 2 .dead)) (listOf ((partsOf (valR (M.rows.getD 0 (.arr 0 [])))).getD 0 .dead)) ((intOf (fr.tmps.getD 7 .dead))) := by kernel_rfl
set_option maxRecDepth 100000 in
theorem e2_law10_TableRightsAreOrdered_4 (fr : Fr) (M : Mm) : pt_law10_TableRightsAreOrdered_4.mm M = sM_law10_TableRightsAreOrdered_4 (intOf (fr.tmps.getD 1 .dead)) (intOf (fr.tmps.getD 2 .dead)) (listOf ((partsOf (valR (M.rows.getD 0 (.arr 0 [])))).getD 0 .dead)) ((intOf (fr.tmps.getD 7 .dead))) := by kernel_rfl
set_option maxRecDepth 100000 in
theorem ok_law10_TableRightsAreOrdered_4 (F : Tab) {dep : Nat} {fr : Fr} {M : Mm} {t : LT} (ht : lp_law10_TableRightsAreOrdered_4 F dep fr M = some t) {R : Type} (K : AX → Fr → Mm → Option R) (r : R) (hgo : t.go K = some r) :
    iter 100000 (fun fr' M' k => evC (cx F) 5 (evF (cx F) dep) dep code_law10_TableRightsAreOrdered_4 fr' M' (roundK Pg [] M.rows.length (some ([1, 2, 3, 7], [1, 2, 3, 6])) K k)) fr M = some r := by
  unfold lp_law10_TableRightsAreOrdered_4 at ht
  split at ht
  · rename_i hok
    obtain ⟨h1, h2⟩ := StP.ok_eq hok
    obtain rfl := Option.some.inj ht
    exact ok_of (X := fun fr M => iter 100000 (fun fr' M' k => evC (cx F) 5 (evF (cx F) dep) dep code_law10_TableRightsAreOrdered_4 fr' M' (roundK Pg [] M.rows.length (some ([1, 2, 3, 7], [1, 2, 3, 6])) K k)) fr M) (h1.trans (e1_law10_TableRightsAreOrdered_4 fr M)) (h2.trans (e2_law10_TableRightsAreOrdered_4 fr M)) (it_law10_TableRightsAreOrdered_4 F _ _ K (intOf (fr.tmps.getD 1 .dead)) (intOf (fr.tmps.getD 2 .dead)) (listOf ((partsOf (valR (M.rows.getD 0 (.arr 0 [])))).getD 0 .dead)) 100000 ((intOf (fr.tmps.getD 7 .dead)))) hgo
  · exact absurd ht (by simp)
set_option maxRecDepth 100000 in
theorem at_law10_TableRightsAreOrdered_4 : (Try.f5.body.bind fun c => loopAt c 4) = some code_law10_TableRightsAreOrdered_4 := by kernel_rfl
theorem bad_law10_TableListIsTranslation_7 {R : Type} (i0 i1 : Int) (l0 : List AV) (i4 : Int) (l1 : List AV) (i6 i7 : Int) (l2 l3 : List AV) (K : AX → Fr → Mm → Option R) : (lt_law10_TableListIsTranslation_7 i0 i1 l0 i4 l1 i6 i7 l2 l3 LO.bad).go K = none := by kernel_rfl
noncomputable def code_law10_TableListIsTranslation_7 : Code := ((Try.f6.body.bind fun c => loopAt c 7).getD .skip)
set_option maxRecDepth 100000 in
theorem rd_law10_TableListIsTranslation_7 (F : Tab) {R : Type} (call : CallH R) (dep : Nat) (K : AX → Fr → Mm → Option R) (kk : Fr → Mm → Option R) (i0 i1 : Int) (l0 : List AV) (i4 : Int) (l1 : List AV) (i6 i7 : Int) (l2 l3 : List AV) (s : Int × Int × Int) :
    evC (cx F) 6 call dep code_law10_TableListIsTranslation_7 (sF_law10_TableListIsTranslation_7 i0 i1 l0 i4 l1 i6 i7 l2 l3 s) (sM_law10_TableListIsTranslation_7 i0 i1 l0 i4 l1 i6 i7 l2 l3 s) (roundK Pg [] 2 (some ([2, 3, 7, 8, 9, 10, 31, 32, 33], [3, 6, 7, 8, 9])) K kk) =
    (st_law10_TableListIsTranslation_7 F i0 i1 l0 i4 l1 i6 i7 l2 l3 s).go (lt_law10_TableListIsTranslation_7 i0 i1 l0 i4 l1 i6 i7 l2 l3) K (fun s => kk (sF_law10_TableListIsTranslation_7 i0 i1 l0 i4 l1 i6 i7 l2 l3 s) (sM_law10_TableListIsTranslation_7 i0 i1 l0 i4 l1 i6 i7 l2 l3 s)) := by kernel_rfl
set_option maxRecDepth 100000 in
theorem it_law10_TableListIsTranslation_7 (F : Tab) {R : Type} (call : CallH R) (dep : Nat) (K : AX → Fr → Mm → Option R) (i0 i1 : Int) (l0 : List AV) (i4 : Int) (l1 : List AV) (i6 i7 : Int) (l2 l3 : List AV) (fuel : Nat) (s : Int × Int × Int) :
    iter fuel (fun fr M' k => evC (cx F) 6 call dep code_law10_TableListIsTranslation_7 fr M' (roundK Pg [] 2 (some ([2, 3, 7, 8, 9, 10, 31, 32, 33], [3, 6, 7, 8, 9])) K k)) (sF_law10_TableListIsTranslation_7 i0 i1 l0 i4 l1 i6 i7 l2 l3 s) (sM_law10_TableListIsTranslation_7 i0 i1 l0 i4 l1 i6 i7 l2 l3 s) = (lt_law10_TableListIsTranslation_7 i0 i1 l0 i4 l1 i6 i7 l2 l3 (Tr.run (st_law10_TableListIsTranslation_7 F i0 i1 l0 i4 l1 i6 i7 l2 l3) fuel s)).go K :=
  iter_tr (B := fun fr M' k => evC (cx F) 6 call dep code_law10_TableListIsTranslation_7 fr M' (roundK Pg [] 2 (some ([2, 3, 7, 8, 9, 10, 31, 32, 33], [3, 6, 7, 8, 9])) K k)) (step := st_law10_TableListIsTranslation_7 F i0 i1 l0 i4 l1 i6 i7 l2 l3) (lt := lt_law10_TableListIsTranslation_7 i0 i1 l0 i4 l1 i6 i7 l2 l3) (sF := sF_law10_TableListIsTranslation_7 i0 i1 l0 i4 l1 i6 i7 l2 l3) (sM := sM_law10_TableListIsTranslation_7 i0 i1 l0 i4 l1 i6 i7 l2 l3) (K := K) (bad_law10_TableListIsTranslation_7 i0 i1 l0 i4 l1 i6 i7 l2 l3 K) (fun s kk => rd_law10_TableListIsTranslation_7 F call dep K kk i0 i1 l0 i4 l1 i6 i7 l2 l3 s) fuel s
set_option maxRecDepth 100000 in
theorem e1_law10_TableListIsTranslation_7 (fr : Fr) (M : Mm) : pt_law10_TableListIsTranslation_7.fr fr = sF_law10_TableListIsTranslation_7 (intOf (fr.tmps.getD 2 .dead)) (intOf (fr.tmps.getD 8 .dead)) (listOf (fr.tmps.getD 31 .dead)) (intOf (fr.tmps.getD 32 .dead)) (listOf ((partsOf (valR (M.rows.getD 0 (.arr 0 [])))).getD 0 .dead)) (intOf ((partsOf (valR (M.rows.getD 1 (.arr 0 [])))).getD 0 .dead)) (intOf ((partsOf (valR (M.rows.getD 1 (.arr 0 [])))).getD 1 .dead)) (listOf ((partsOf (valR (M.rows.getD 1 (.arr 0 [])))).getD 2 .dead)) (listOf ((partsOf (valR (M.rows.getD 1 (.arr 0 [])))).getD 3 .dead)) ((intOf (fr.tmps.getD 9 .dead)), (intOf (fr.tmps.getD 10 .dead)), (intOf (fr.tmps.getD 33 .dead))) := by kernel_rfl
set_option maxRecDepth 100000 in
theorem e2_law10_TableListIsTranslation_7 (fr : Fr) (M : Mm) : pt_law10_TableListIsTranslation_7.mm M = sM_law10_TableListIsTranslation_7 (intOf (fr.tmps.getD 2 .dead)) (intOf (fr.tmps.getD 8 .dead)) (listOf (fr.tmps.getD 31 .dead)) (intOf (fr.tmps.getD 32 .dead)) (listOf ((partsOf (valR (M.rows.getD 0 (.arr 0 [])))).getD 0 .dead)) (intOf ((partsOf (valR (M.rows.getD 1 (.arr 0 [])))).getD 0 .dead)) (intOf ((partsOf (valR (M.rows.getD 1 (.arr 0 [])))).getD 1 .dead)) (listOf ((partsOf (valR (M.rows.getD 1 (.arr 0 [])))).getD 2 .dead)) (listOf ((partsOf (valR (M.rows.getD 1 (.arr 0 [])))).getD 3 .dead)) ((intOf (fr.tmps.getD 9 .dead)), (intOf (fr.tmps.getD 10 .dead)), (intOf (fr.tmps.getD 33 .dead))) := by kernel_rfl
set_option maxRecDepth 100000 in
theorem ok_law10_TableListIsTranslation_7 (F : Tab) {dep : Nat} {fr : Fr} {M : Mm} {t : LT} (ht : lp_law10_TableListIsTranslation_7 F dep fr M = some t) {R : Type} (K : AX → Fr → Mm → Option R) (r : R) (hgo : t.go K = some r) :
    iter 100000 (fun fr' M' k => evC (cx F) 6 (evF (cx F) dep) dep code_law10_TableListIsTranslation_7 fr' M' (roundK Pg [] M.rows.length (some ([2, 3, 7, 8, 9, 10, 31, 32, 33], [3, 6, 7, 8, 9])) K k)) fr M = some r := by
  unfold lp_law10_TableListIsTranslation_7 at ht
  split at ht
  · rename_i hok
    obtain ⟨h1, h2⟩ := StP.ok_eq hok
    obtain rfl := Option.some.inj ht
    exact ok_of (X := fun fr M => iter 100000 (fun fr' M' k => evC (cx F) 6 (evF (cx F) dep) dep code_law10_TableListIsTranslation_7 fr' M' (roundK Pg [] M.rows.length (some ([2, 3, 7, 8, 9, 10, 31, 32, 33], [3, 6, 7, 8, 9])) K k)) fr M) (h1.trans (e1_law10_TableListIsTranslation_7 fr M)) (h2.trans (e2_law10_TableListIsTranslation_7 fr M)) (it_law10_TableListIsTranslation_7 F _ _ K (intOf (fr.tmps.getD 2 .dead)) (intOf (fr.tmps.getD 8 .dead)) (listOf (fr.tmps.getD 31 .dead)) (intOf (fr.tmps.getD 32 .dead)) (listOf ((partsOf (valR (M.rows.getD 0 (.arr 0 [])))).getD 0 .dead)) (intOf ((partsOf (valR (M.rows.getD 1 (.arr 0 [])))).getD 0 .dead)) (intOf ((partsOf (valR (M.rows.getD 1 (.arr 0 [])))).getD 1 .dead)) (listOf ((partsOf (valR (M.rows.getD 1 (.arr 0 [])))).getD 2 .dead)) (listOf ((partsOf (valR (M.rows.getD 1 (.arr 0 [])))).getD 3 .dead)) 100000 ((intOf (fr.tmps.getD 9 .dead)), (intOf (fr.tmps.getD 10 .dead)), (intOf (fr.tmps.getD 33 .dead)))) hgo
  · exact absurd ht (by simp)
set_option maxRecDepth 100000 in
theorem at_law10_TableListIsTranslation_7 : (Try.f6.body.bind fun c => loopAt c 7) = some code_law10_TableListIsTranslation_7 := by kernel_rfl
theorem bad_ref10_Same_4 {R : Type} (i1 i2 : Int) (l0 l1 : List AV) (i3 i4 : Int) (l2 l3 : List AV) (K : AX → Fr → Mm → Option R) : (lt_ref10_Same_4 i1 i2 l0 l1 i3 i4 l2 l3 LO.bad).go K = none := by kernel_rfl
noncomputable def code_ref10_Same_4 : Code := ((Try.f21.body.bind fun c => loopAt c 4).getD .skip)
set_option maxRecDepth 100000 in
theorem rd_ref10_Same_4 (F : Tab) {R : Type} (call : CallH R) (dep : Nat) (K : AX → Fr → Mm → Option R) (kk : Fr → Mm → Option R) (i1 i2 : Int) (l0 l1 : List AV) (i3 i4 : Int) (l2 l3 : List AV) (s : Int) :
    evC (cx F) 21 call dep code_ref10_Same_4 (sF_ref10_Same_4 i1 i2 l0 l1 i3 i4 l2 l3 s) (sM_ref10_Same_4 i1 i2 l0 l1 i3 i4 l2 l3 s) (roundK Pg [] 2 (some ([2, 3, 5], [4])) K kk) =
    (st_ref10_Same_4 F i1 i2 l0 l1 i3 i4 l2 l3 s).go (lt_ref10_Same_4 i1 i2 l0 l1 i3 i4 l2 l3) K (fun s => kk (sF_ref10_Same_4 i1 i2 l0 l1 i3 i4 l2 l3 s) (sM_ref10_Same_4 i1 i2 l0 l1 i3 i4 l2 l3 s)) := by kernel_rfl
set_option maxRecDepth 100000 in
theorem it_ref10_Same_4 (F : Tab) {R : Type} (call : CallH R) (dep : Nat) (K : AX → Fr → Mm → Option R) (i1 i2 : Int) (l0 l1 : List AV) (i3 i4 : Int) (l2 l3 : List AV) (fuel : Nat) (s : Int) :
    iter fuel (fun fr M' k => evC (cx F) 21 call dep code_ref10_Same_4 fr M' (roundK Pg [] 2 (some ([2, 3, 5], [4])) K k)) (sF_ref10_Same_4 i1 i2 l0 l1 i3 i4 l2 l3 s) (sM_ref10_Same_4 i1 i2 l0 l1 i3 i4 l2 l3 s) = (lt_ref10_Same_4 i1 i2 l0 l1 i3 i4 l2 l3 (Tr.run (st_ref10_Same_4 F i1 i2 l0 l1 i3 i4 l2 l3) fuel s)).go K :=
  iter_tr (B := fun fr M' k => evC (cx F) 21 call dep code_ref10_Same_4 fr M' (roundK Pg [] 2 (some ([2, 3, 5], [4])) K k)) (step := st_ref10_Same_4 F i1 i2 l0 l1 i3 i4 l2 l3) (lt := lt_ref10_Same_4 i1 i2 l0 l1 i3 i4 l2 l3) (sF := sF_ref10_Same_4 i1 i2 l0 l1 i3 i4 l2 l3) (sM := sM_ref10_Same_4 i1 i2 l0 l1 i3 i4 l2 l3) (K := K) (bad_ref10_Same_4 i1 i2 l0 l1 i3 i4 l2 l3 K) (fun s kk => rd_ref10_Same_4 F call dep K kk i1 i2 l0 l1 i3 i4 l2 l3 s) fuel s
set_option maxRecDepth 100000 in
theorem e1_ref10_Same_4 (fr : Fr) (M : Mm) : pt_ref10_Same_4.fr fr = sF_ref10_Same_4 (intOf ((partsOf (valR (M.rows.getD 0 (.arr 0 [])))).getD 0 .dead)) (intOf ((partsOf (valR (M.rows.getD 0 (.arr 0 [])))).getD 1 .dead)) (listOf ((partsOf (valR (M.rows.getD 0 (.arr 0 [])))).getD 2 .dead)) (listOf ((partsOf (valR (M.rows.getD 0 (.arr 0 [])))).getD 3 .dead)) (intOf ((partsOf (valR (M.rows.getD 1 (.arr 0 [])))).getD 0 .dead)) (intOf ((partsOf (valR (M.rows.getD 1 (.arr 0 [])))).getD 1 .dead)) (listOf ((partsOf (valR (M.rows.getD 1 (.arr 0 [])))).getD 2 .dead)) (listOf ((partsOf (valR (M.rows.getD 1 (.arr 0 [])))).getD 3 .dead)) ((intOf (fr.tmps.getD 5 .dead))) := by kernel_rfl
set_option maxRecDepth 100000 in
theorem e2_ref10_Same_4 (fr : Fr) (M : Mm) : pt_ref10_Same_4.mm M = sM_ref10_Same_4 (intOf ((partsOf (valR (M.rows.getD 0 (.arr 0 [])))).getD 0 .dead)) (intOf ((partsOf (valR (M.rows.getD 0 (.arr 0 [])))).getD 1 .dead)) (listOf ((partsOf (valR (M.rows.getD 0 (.arr 0 [])))).getD 2 .dead)) (listOf ((partsOf (valR (M.rows.getD 0 (.arr 0 [])))).getD 3 .dead)) (intOf ((partsOf (valR (M.rows.getD 1 (.arr 0 [])))).getD 0 .dead)) (intOf ((partsOf (valR (M.rows.getD 1 (.arr 0 [])))).getD 1 .dead)) (listOf ((partsOf (valR (M.rows.getD 1 (.arr 0 [])))).getD 2 .dead)) (listOf ((partsOf (valR (M.rows.getD 1 (.arr 0 [])))).getD 3 .dead)) ((intOf (fr.tmps.getD 5 .dead))) := by kernel_rfl
set_option maxRecDepth 100000 in
theorem ok_ref10_Same_4 (F : Tab) {dep : Nat} {fr : Fr} {M : Mm} {t : LT} (ht : lp_ref10_Same_4 F dep fr M = some t) {R : Type} (K : AX → Fr → Mm → Option R) (r : R) (hgo : t.go K = some r) :
    iter 100000 (fun fr' M' k => evC (cx F) 21 (evF (cx F) dep) dep code_ref10_Same_4 fr' M' (roundK Pg [] M.rows.length (some ([2, 3, 5], [4])) K k)) fr M = some r := by
  unfold lp_ref10_Same_4 at ht
  split at ht
  · rename_i hok
    obtain ⟨h1, h2⟩ := StP.ok_eq hok
    obtain rfl := Option.some.inj ht
    exact ok_of (X := fun fr M => iter 100000 (fun fr' M' k => evC (cx F) 21 (evF (cx F) dep) dep code_ref10_Same_4 fr' M' (roundK Pg [] M.rows.length (some ([2, 3, 5], [4])) K k)) fr M) (h1.trans (e1_ref10_Same_4 fr M)) (h2.trans (e2_ref10_Same_4 fr M)) (it_ref10_Same_4 F _ _ K (intOf ((partsOf (valR (M.rows.getD 0 (.arr 0 [])))).getD 0 .dead)) (intOf ((partsOf (valR (M.rows.getD 0 (.arr 0 [])))).getD 1 .dead)) (listOf ((partsOf (valR (M.rows.getD 0 (.arr 0 [])))).getD 2 .dead)) (listOf ((partsOf (valR (M.rows.getD 0 (.arr 0 [])))).getD 3 .dead)) (intOf ((partsOf (valR (M.rows.getD 1 (.arr 0 [])))).getD 0 .dead)) (intOf ((partsOf (valR (M.rows.getD 1 (.arr 0 [])))).getD 1 .dead)) (listOf ((partsOf (valR (M.rows.getD 1 (.arr 0 [])))).getD 2 .dead)) (listOf ((partsOf (valR (M.rows.getD 1 (.arr 0 [])))).getD 3 .dead)) 100000 ((intOf (fr.tmps.getD 5 .dead)))) hgo
  · exact absurd ht (by simp)
set_option maxRecDepth 100000 in
theorem at_ref10_Same_4 : (Try.f21.body.bind fun c => loopAt c 4) = some code_ref10_Same_4 := by kernel_rfl
theorem bad_memory_draft_put_1 {R : Type} (l1 : List AV) (n0 : Nat) (i1 i2 i3 : Int) (n1 : Nat) (i4 i5 i6 : Int) (n2 : Nat) (K : AX → Fr → Mm → Option R) : (lt_memory_draft_put_1 l1 n0 i1 i2 i3 n1 i4 i5 i6 n2 LO.bad).go K = none := by kernel_rfl
noncomputable def code_memory_draft_put_1 : Code := ((Try.f121.body.bind fun c => loopAt c 1).getD .skip)
set_option maxRecDepth 100000 in
theorem rd_memory_draft_put_1 (F : Tab) {R : Type} (call : CallH R) (dep : Nat) (K : AX → Fr → Mm → Option R) (kk : Fr → Mm → Option R) (l1 : List AV) (n0 : Nat) (i1 i2 i3 : Int) (n1 : Nat) (i4 i5 i6 : Int) (n2 : Nat) (s : Int × List AV × List AV) :
    evC (cx F) 121 call dep code_memory_draft_put_1 (sF_memory_draft_put_1 l1 n0 i1 i2 i3 n1 i4 i5 i6 n2 s) (sM_memory_draft_put_1 l1 n0 i1 i2 i3 n1 i4 i5 i6 n2 s) (roundK Pg [] 8 (some ([1, 2, 3], [])) K kk) =
    (st_memory_draft_put_1 F l1 n0 i1 i2 i3 n1 i4 i5 i6 n2 s).go (lt_memory_draft_put_1 l1 n0 i1 i2 i3 n1 i4 i5 i6 n2) K (fun s => kk (sF_memory_draft_put_1 l1 n0 i1 i2 i3 n1 i4 i5 i6 n2 s) (sM_memory_draft_put_1 l1 n0 i1 i2 i3 n1 i4 i5 i6 n2 s)) := by kernel_rfl
set_option maxRecDepth 100000 in
theorem it_memory_draft_put_1 (F : Tab) {R : Type} (call : CallH R) (dep : Nat) (K : AX → Fr → Mm → Option R) (l1 : List AV) (n0 : Nat) (i1 i2 i3 : Int) (n1 : Nat) (i4 i5 i6 : Int) (n2 : Nat) (fuel : Nat) (s : Int × List AV × List AV) :
    iter fuel (fun fr M' k => evC (cx F) 121 call dep code_memory_draft_put_1 fr M' (roundK Pg [] 8 (some ([1, 2, 3], [])) K k)) (sF_memory_draft_put_1 l1 n0 i1 i2 i3 n1 i4 i5 i6 n2 s) (sM_memory_draft_put_1 l1 n0 i1 i2 i3 n1 i4 i5 i6 n2 s) = (lt_memory_draft_put_1 l1 n0 i1 i2 i3 n1 i4 i5 i6 n2 (Tr.run (st_memory_draft_put_1 F l1 n0 i1 i2 i3 n1 i4 i5 i6 n2) fuel s)).go K :=
  iter_tr (B := fun fr M' k => evC (cx F) 121 call dep code_memory_draft_put_1 fr M' (roundK Pg [] 8 (some ([1, 2, 3], [])) K k)) (step := st_memory_draft_put_1 F l1 n0 i1 i2 i3 n1 i4 i5 i6 n2) (lt := lt_memory_draft_put_1 l1 n0 i1 i2 i3 n1 i4 i5 i6 n2) (sF := sF_memory_draft_put_1 l1 n0 i1 i2 i3 n1 i4 i5 i6 n2) (sM := sM_memory_draft_put_1 l1 n0 i1 i2 i3 n1 i4 i5 i6 n2) (K := K) (bad_memory_draft_put_1 l1 n0 i1 i2 i3 n1 i4 i5 i6 n2 K) (fun s kk => rd_memory_draft_put_1 F call dep K kk l1 n0 i1 i2 i3 n1 i4 i5 i6 n2 s) fuel s
set_option maxRecDepth 100000 in
theorem e1_memory_draft_put_1 (fr : Fr) (M : Mm) : pt_memory_draft_put_1.fr fr = sF_memory_draft_put_1 (listOf ((partsOf (valR (M.rows.getD 0 (.arr 0 [])))).getD 0 .dead)) (mlenOf ((partsOf (valR (M.rows.getD 3 (.arr 0 [])))).getD 0 .dead)) (intOf ((partsOf (valR (M.rows.getD 4 (.arr 0 [])))).getD 0 .dead)) (intOf ((partsOf (valR (M.rows.getD 4 (.arr 0 [])))).getD 1 .dead)) (intOf ((partsOf (valR (M.rows.getD 4 (.arr 0 [])))).getD 2 .dead)) (mlenOf ((partsOf (valR (M.rows.getD 5 (.arr 0 [])))).getD 0 .dead)) (intOf ((partsOf (valR (M.rows.getD 6 (.arr 0 [])))).getD 0 .dead)) (intOf ((partsOf (valR (M.rows.getD 6 (.arr 0 [])))).getD 1 .dead)) (intOf ((partsOf (valR (M.rows.getD 6 (.arr 0 [])))).getD 2 .dead)) (mlenOf ((partsOf (valR (M.rows.getD 7 (.arr 0 [])))).getD 0 .dead)) ((intOf (fr.tmps.getD 1 .dead)), (listOf (fr.tmps.getD 2 .dead)), (listR (M.rows.getD 2 (.arr 0 [])))) := by kernel_rfl
set_option maxRecDepth 100000 in
theorem e2_memory_draft_put_1 (fr : Fr) (M : Mm) : pt_memory_draft_put_1.mm M = sM_memory_draft_put_1 (listOf ((partsOf (valR (M.rows.getD 0 (.arr 0 [])))).getD 0 .dead)) (mlenOf ((partsOf (valR (M.rows.getD 3 (.arr 0 [])))).getD 0 .dead)) (intOf ((partsOf (valR (M.rows.getD 4 (.arr 0 [])))).getD 0 .dead)) (intOf ((partsOf (valR (M.rows.getD 4 (.arr 0 [])))).getD 1 .dead)) (intOf ((partsOf (valR (M.rows.getD 4 (.arr 0 [])))).getD 2 .dead)) (mlenOf ((partsOf (valR (M.rows.getD 5 (.arr 0 [])))).getD 0 .dead)) (intOf ((partsOf (valR (M.rows.getD 6 (.arr 0 [])))).getD 0 .dead)) (intOf ((partsOf (valR (M.rows.getD 6 (.arr 0 [])))).getD 1 .dead)) (intOf ((partsOf (valR (M.rows.getD 6 (.arr 0 [])))).getD 2 .dead)) (mlenOf ((partsOf (valR (M.rows.getD 7 (.arr 0 [])))).getD 0 .dead)) ((intOf (fr.tmps.getD 1 .dead)), (listOf (fr.tmps.getD 2 .dead)), (listR (M.rows.getD 2 (.arr 0 [])))) := by kernel_rfl
set_option maxRecDepth 100000 in
theorem ok_memory_draft_put_1 (F : Tab) {dep : Nat} {fr : Fr} {M : Mm} {t : LT} (ht : lp_memory_draft_put_1 F dep fr M = some t) {R : Type} (K : AX → Fr → Mm → Option R) (r : R) (hgo : t.go K = some r) :
    iter 100000 (fun fr' M' k => evC (cx F) 121 (evF (cx F) dep) dep code_memory_draft_put_1 fr' M' (roundK Pg [] M.rows.length (some ([1, 2, 3], [])) K k)) fr M = some r := by
  unfold lp_memory_draft_put_1 at ht
  split at ht
  · rename_i hok
    obtain ⟨h1, h2⟩ := StP.ok_eq hok
    obtain rfl := Option.some.inj ht
    exact ok_of (X := fun fr M => iter 100000 (fun fr' M' k => evC (cx F) 121 (evF (cx F) dep) dep code_memory_draft_put_1 fr' M' (roundK Pg [] M.rows.length (some ([1, 2, 3], [])) K k)) fr M) (h1.trans (e1_memory_draft_put_1 fr M)) (h2.trans (e2_memory_draft_put_1 fr M)) (it_memory_draft_put_1 F _ _ K (listOf ((partsOf (valR (M.rows.getD 0 (.arr 0 [])))).getD 0 .dead)) (mlenOf ((partsOf (valR (M.rows.getD 3 (.arr 0 [])))).getD 0 .dead)) (intOf ((partsOf (valR (M.rows.getD 4 (.arr 0 [])))).getD 0 .dead)) (intOf ((partsOf (valR (M.rows.getD 4 (.arr 0 [])))).getD 1 .dead)) (intOf ((partsOf (valR (M.rows.getD 4 (.arr 0 [])))).getD 2 .dead)) (mlenOf ((partsOf (valR (M.rows.getD 5 (.arr 0 [])))).getD 0 .dead)) (intOf ((partsOf (valR (M.rows.getD 6 (.arr 0 [])))).getD 0 .dead)) (intOf ((partsOf (valR (M.rows.getD 6 (.arr 0 [])))).getD 1 .dead)) (intOf ((partsOf (valR (M.rows.getD 6 (.arr 0 [])))).getD 2 .dead)) (mlenOf ((partsOf (valR (M.rows.getD 7 (.arr 0 [])))).getD 0 .dead)) 100000 ((intOf (fr.tmps.getD 1 .dead)), (listOf (fr.tmps.getD 2 .dead)), (listR (M.rows.getD 2 (.arr 0 []))))) hgo
  · exact absurd ht (by simp)
set_option maxRecDepth 100000 in
theorem at_memory_draft_put_1 : (Try.f121.body.bind fun c => loopAt c 1) = some code_memory_draft_put_1 := by kernel_rfl
theorem bad_memory_Apply_4 {R : Type} (n0 : Nat) (l0 : List AV) (i0 : Int) (l1 : List AV) (n1 : Nat) (K : AX → Fr → Mm → Option R) : (lt_memory_Apply_4 n0 l0 i0 l1 n1 LO.bad).go K = none := by kernel_rfl
noncomputable def code_memory_Apply_4 : Code := ((Try.f24.body.bind fun c => loopAt c 4).getD .skip)
set_option maxRecDepth 100000 in
theorem rd_memory_Apply_4 (F : Tab) {R : Type} (K : AX → Fr → Mm → Option R) (kk : Fr → Mm → Option R) (n0 : Nat) (l0 : List AV) (i0 : Int) (l1 : List AV) (n1 : Nat) (s : Int × List AV) :
    evC (cx F) 24 (evF (cx F) 5) 5 code_memory_Apply_4 (sF_memory_Apply_4 n0 l0 i0 l1 n1 s) (sM_memory_Apply_4 n0 l0 i0 l1 n1 s) (roundK Pg [] 4 (some ([2, 4, 6, 7, 16, 17, 18], [4, 5, 6])) K kk) =
    (st_memory_Apply_4 F n0 l0 i0 l1 n1 s).go (lt_memory_Apply_4 n0 l0 i0 l1 n1) K (fun s => kk (sF_memory_Apply_4 n0 l0 i0 l1 n1 s) (sM_memory_Apply_4 n0 l0 i0 l1 n1 s)) := by kernel_rfl
set_option maxRecDepth 100000 in
theorem it_memory_Apply_4 (F : Tab) {R : Type} (K : AX → Fr → Mm → Option R) (n0 : Nat) (l0 : List AV) (i0 : Int) (l1 : List AV) (n1 : Nat) (fuel : Nat) (s : Int × List AV) :
    iter fuel (fun fr M' k => evC (cx F) 24 (evF (cx F) 5) 5 code_memory_Apply_4 fr M' (roundK Pg [] 4 (some ([2, 4, 6, 7, 16, 17, 18], [4, 5, 6])) K k)) (sF_memory_Apply_4 n0 l0 i0 l1 n1 s) (sM_memory_Apply_4 n0 l0 i0 l1 n1 s) = (lt_memory_Apply_4 n0 l0 i0 l1 n1 (Tr.run (st_memory_Apply_4 F n0 l0 i0 l1 n1) fuel s)).go K :=
  iter_tr (B := fun fr M' k => evC (cx F) 24 (evF (cx F) 5) 5 code_memory_Apply_4 fr M' (roundK Pg [] 4 (some ([2, 4, 6, 7, 16, 17, 18], [4, 5, 6])) K k)) (step := st_memory_Apply_4 F n0 l0 i0 l1 n1) (lt := lt_memory_Apply_4 n0 l0 i0 l1 n1) (sF := sF_memory_Apply_4 n0 l0 i0 l1 n1) (sM := sM_memory_Apply_4 n0 l0 i0 l1 n1) (K := K) (bad_memory_Apply_4 n0 l0 i0 l1 n1 K) (fun s kk => rd_memory_Apply_4 F K kk n0 l0 i0 l1 n1 s) fuel s
set_option maxRecDepth 100000 in
theorem e1_memory_Apply_4 (fr : Fr) (M : Mm) : pt_memory_Apply_4.fr fr = sF_memory_Apply_4 (mlenOf ((partsOf ((firstOf (fr.tmps.getD 7 .dead)).getD 0 .dead)).getD 0 .dead)) (listOf (fr.tmps.getD 16 .dead)) (intOf (fr.tmps.getD 17 .dead)) (listOf ((partsOf (valR (M.rows.getD 0 (.arr 0 [])))).getD 0 .dead)) (mlenOf ((partsOf (valR (M.rows.getD 3 (.arr 0 [])))).getD 0 .dead)) ((intOf (fr.tmps.getD 18 .dead)), (listR (M.rows.getD 2 (.arr 0 [])))) := by kernel_rfl
set_option maxRecDepth 100000 in
theorem e2_memory_Apply_4 (fr : Fr) (M : Mm) : pt_memory_Apply_4.mm M = sM_memory_Apply_4 (mlenOf ((partsOf ((firstOf (fr.tmps.getD 7 .dead)).getD 0 .dead)).getD 0 .dead)) (listOf (fr.tmps.getD 16 .dead)) (intOf (fr.tmps.getD 17 .dead)) (listOf ((partsOf (valR (M.rows.getD 0 (.arr 0 [])))).getD 0 .dead)) (mlenOf ((partsOf (valR (M.rows.getD 3 (.arr 0 [])))).getD 0 .dead)) ((intOf (fr.tmps.getD 18 .dead)), (listR (M.rows.getD 2 (.arr 0 [])))) := by kernel_rfl
set_option maxRecDepth 100000 in
theorem ok_memory_Apply_4 (F : Tab) {dep : Nat} {fr : Fr} {M : Mm} {t : LT} (ht : lp_memory_Apply_4 F dep fr M = some t) {R : Type} (K : AX → Fr → Mm → Option R) (r : R) (hgo : t.go K = some r) :
    iter 100000 (fun fr' M' k => evC (cx F) 24 (evF (cx F) dep) dep code_memory_Apply_4 fr' M' (roundK Pg [] M.rows.length (some ([2, 4, 6, 7, 16, 17, 18], [4, 5, 6])) K k)) fr M = some r := by
  unfold lp_memory_Apply_4 at ht
  split at ht
  · rename_i hok
    simp only [Bool.and_eq_true, Nat.beq_eq] at hok
    obtain ⟨rfl, hok⟩ := hok
    obtain ⟨h1, h2⟩ := StP.ok_eq hok
    obtain rfl := Option.some.inj ht
    exact ok_of (X := fun fr M => iter 100000 (fun fr' M' k => evC (cx F) 24 (evF (cx F) 5) 5 code_memory_Apply_4 fr' M' (roundK Pg [] M.rows.length (some ([2, 4, 6, 7, 16, 17, 18], [4, 5, 6])) K k)) fr M) (h1.trans (e1_memory_Apply_4 fr M)) (h2.trans (e2_memory_Apply_4 fr M)) (it_memory_Apply_4 F K (mlenOf ((partsOf ((firstOf (fr.tmps.getD 7 .dead)).getD 0 .dead)).getD 0 .dead)) (listOf (fr.tmps.getD 16 .dead)) (intOf (fr.tmps.getD 17 .dead)) (listOf ((partsOf (valR (M.rows.getD 0 (.arr 0 [])))).getD 0 .dead)) (mlenOf ((partsOf (valR (M.rows.getD 3 (.arr 0 [])))).getD 0 .dead)) 100000 ((intOf (fr.tmps.getD 18 .dead)), (listR (M.rows.getD 2 (.arr 0 []))))) hgo
  · exact absurd ht (by simp)
set_option maxRecDepth 100000 in
theorem at_memory_Apply_4 : (Try.f24.body.bind fun c => loopAt c 4) = some code_memory_Apply_4 := by kernel_rfl
theorem bad_memory_draft_put_1a {R : Type} (l1 : List AV) (n0 n1 : Nat) (K : AX → Fr → Mm → Option R) : (lt_memory_draft_put_1a l1 n0 n1 LO.bad).go K = none := by kernel_rfl
noncomputable def code_memory_draft_put_1a : Code := ((Try.f121.body.bind fun c => loopAt c 1).getD .skip)
set_option maxRecDepth 100000 in
theorem rd_memory_draft_put_1a (F : Tab) {R : Type} (call : CallH R) (dep : Nat) (K : AX → Fr → Mm → Option R) (kk : Fr → Mm → Option R) (l1 : List AV) (n0 n1 : Nat) (s : Int × List AV × List AV) :
    evC (cx F) 121 call dep code_memory_draft_put_1a (sF_memory_draft_put_1a l1 n0 n1 s) (sM_memory_draft_put_1a l1 n0 n1 s) (roundK Pg [] 5 (some ([1, 2, 3], [])) K kk) =
    (st_memory_draft_put_1a F l1 n0 n1 s).go (lt_memory_draft_put_1a l1 n0 n1) K (fun s => kk (sF_memory_draft_put_1a l1 n0 n1 s) (sM_memory_draft_put_1a l1 n0 n1 s)) := by kernel_rfl
set_option maxRecDepth 100000 in
theorem it_memory_draft_put_1a (F : Tab) {R : Type} (call : CallH R) (dep : Nat) (K : AX → Fr → Mm → Option R) (l1 : List AV) (n0 n1 : Nat) (fuel : Nat) (s : Int × List AV × List AV) :
    iter fuel (fun fr M' k => evC (cx F) 121 call dep code_memory_draft_put_1a fr M' (roundK Pg [] 5 (some ([1, 2, 3], [])) K k)) (sF_memory_draft_put_1a l1 n0 n1 s) (sM_memory_draft_put_1a l1 n0 n1 s) = (lt_memory_draft_put_1a l1 n0 n1 (Tr.run (st_memory_draft_put_1a F l1 n0 n1) fuel s)).go K :=
  iter_tr (B := fun fr M' k => evC (cx F) 121 call dep code_memory_draft_put_1a fr M' (roundK Pg [] 5 (some ([1, 2, 3], [])) K k)) (step := st_memory_draft_put_1a F l1 n0 n1) (lt := lt_memory_draft_put_1a l1 n0 n1) (sF := sF_memory_draft_put_1a l1 n0 n1) (sM := sM_memory_draft_put_1a l1 n0 n1) (K := K) (bad_memory_draft_put_1a l1 n0 n1 K) (fun s kk => rd_memory_draft_put_1a F call dep K kk l1 n0 n1 s) fuel s
set_option maxRecDepth 100000 in
theorem e1_memory_draft_put_1a (fr : Fr) (M : Mm) : pt_memory_draft_put_1a.fr fr = sF_memory_draft_put_1a (listOf ((partsOf (valR (M.rows.getD 0 (.arr 0 [])))).getD 0 .dead)) (mlenOf ((partsOf (valR (M.rows.getD 3 (.arr 0 [])))).getD 0 .dead)) (mlenOf ((partsOf (valR (M.rows.getD 4 (.arr 0 [])))).getD 0 .dead)) ((intOf (fr.tmps.getD 1 .dead)), (listOf (fr.tmps.getD 2 .dead)), (listR (M.rows.getD 2 (.arr 0 [])))) := by kernel_rfl
set_option maxRecDepth 100000 in
theorem e2_memory_draft_put_1a (fr : Fr) (M : Mm) : pt_memory_draft_put_1a.mm M = sM_memory_draft_put_1a (listOf ((partsOf (valR (M.rows.getD 0 (.arr 0 [])))).getD 0 .dead)) (mlenOf ((partsOf (valR (M.rows.getD 3 (.arr 0 [])))).getD 0 .dead)) (mlenOf ((partsOf (valR (M.rows.getD 4 (.arr 0 [])))).getD 0 .dead)) ((intOf (fr.tmps.getD 1 .dead)), (listOf (fr.tmps.getD 2 .dead)), (listR (M.rows.getD 2 (.arr 0 [])))) := by kernel_rfl
set_option maxRecDepth 100000 in
theorem ok_memory_draft_put_1a (F : Tab) {dep : Nat} {fr : Fr} {M : Mm} {t : LT} (ht : lp_memory_draft_put_1a F dep fr M = some t) {R : Type} (K : AX → Fr → Mm → Option R) (r : R) (hgo : t.go K = some r) :
    iter 100000 (fun fr' M' k => evC (cx F) 121 (evF (cx F) dep) dep code_memory_draft_put_1a fr' M' (roundK Pg [] M.rows.length (some ([1, 2, 3], [])) K k)) fr M = some r := by
  unfold lp_memory_draft_put_1a at ht
  split at ht
  · rename_i hok
    obtain ⟨h1, h2⟩ := StP.ok_eq hok
    obtain rfl := Option.some.inj ht
    exact ok_of (X := fun fr M => iter 100000 (fun fr' M' k => evC (cx F) 121 (evF (cx F) dep) dep code_memory_draft_put_1a fr' M' (roundK Pg [] M.rows.length (some ([1, 2, 3], [])) K k)) fr M) (h1.trans (e1_memory_draft_put_1a fr M)) (h2.trans (e2_memory_draft_put_1a fr M)) (it_memory_draft_put_1a F _ _ K (listOf ((partsOf (valR (M.rows.getD 0 (.arr 0 [])))).getD 0 .dead)) (mlenOf ((partsOf (valR (M.rows.getD 3 (.arr 0 [])))).getD 0 .dead)) (mlenOf ((partsOf (valR (M.rows.getD 4 (.arr 0 [])))).getD 0 .dead)) 100000 ((intOf (fr.tmps.getD 1 .dead)), (listOf (fr.tmps.getD 2 .dead)), (listR (M.rows.getD 2 (.arr 0 []))))) hgo
  · exact absurd ht (by simp)
set_option maxRecDepth 100000 in
theorem at_memory_draft_put_1a : (Try.f121.body.bind fun c => loopAt c 1) = some code_memory_draft_put_1a := by kernel_rfl
theorem bad_table_leaves_1_8 {R : Type} (i0 i1 i2 : Int) (l0 l2 : List AV) (i4 : Int) (K : AX → Fr → Mm → Option R) : (lt_table_leaves_1_8 i0 i1 i2 l0 l2 i4 LO.bad).go K = none := by kernel_rfl
noncomputable def code_table_leaves_1_8 : Code := ((Try.f122.body.bind fun c => loopAt c 8).getD .skip)
set_option maxRecDepth 100000 in
theorem rd_table_leaves_1_8 (F : Tab) {R : Type} (K : AX → Fr → Mm → Option R) (kk : Fr → Mm → Option R) (i0 i1 i2 : Int) (l0 l2 : List AV) (i4 : Int) (s : Int × List AV) :
    evC (cx F) 122 (evF (cx F) 4) 4 code_table_leaves_1_8 (sF_table_leaves_1_8 i0 i1 i2 l0 l2 i4 s) (sM_table_leaves_1_8 i0 i1 i2 l0 l2 i4 s) (roundK Pg [] 5 (some ([0, 1, 2, 4, 5, 8, 34], [0, 1, 2, 8])) K kk) =
    (st_table_leaves_1_8 F i0 i1 i2 l0 l2 i4 s).go (lt_table_leaves_1_8 i0 i1 i2 l0 l2 i4) K (fun s => kk (sF_table_leaves_1_8 i0 i1 i2 l0 l2 i4 s) (sM_table_leaves_1_8 i0 i1 i2 l0 l2 i4 s)) := by kernel_rfl
set_option maxRecDepth 100000 in
theorem it_table_leaves_1_8 (F : Tab) {R : Type} (K : AX → Fr → Mm → Option R) (i0 i1 i2 : Int) (l0 l2 : List AV) (i4 : Int) (fuel : Nat) (s : Int × List AV) :
    iter fuel (fun fr M' k => evC (cx F) 122 (evF (cx F) 4) 4 code_table_leaves_1_8 fr M' (roundK Pg [] 5 (some ([0, 1, 2, 4, 5, 8, 34], [0, 1, 2, 8])) K k)) (sF_table_leaves_1_8 i0 i1 i2 l0 l2 i4 s) (sM_table_leaves_1_8 i0 i1 i2 l0 l2 i4 s) = (lt_table_leaves_1_8 i0 i1 i2 l0 l2 i4 (Tr.run (st_table_leaves_1_8 F i0 i1 i2 l0 l2 i4) fuel s)).go K :=
  iter_tr (B := fun fr M' k => evC (cx F) 122 (evF (cx F) 4) 4 code_table_leaves_1_8 fr M' (roundK Pg [] 5 (some ([0, 1, 2, 4, 5, 8, 34], [0, 1, 2, 8])) K k)) (step := st_table_leaves_1_8 F i0 i1 i2 l0 l2 i4) (lt := lt_table_leaves_1_8 i0 i1 i2 l0 l2 i4) (sF := sF_table_leaves_1_8 i0 i1 i2 l0 l2 i4) (sM := sM_table_leaves_1_8 i0 i1 i2 l0 l2 i4) (K := K) (bad_table_leaves_1_8 i0 i1 i2 l0 l2 i4 K) (fun s kk => rd_table_leaves_1_8 F K kk i0 i1 i2 l0 l2 i4 s) fuel s
set_option maxRecDepth 100000 in
theorem e1_table_leaves_1_8 (fr : Fr) (M : Mm) : pt_table_leaves_1_8.fr fr = sF_table_leaves_1_8 (intOf (fr.tmps.getD 4 .dead)) (intOf (fr.tmps.getD 5 .dead)) (intOf (fr.tmps.getD 8 .dead)) (listOf ((partsOf (valR (M.rows.getD 0 (.arr 0 [])))).getD 0 .dead)) (listOf ((partsOf (valR (M.rows.getD 2 (.arr 0 [])))).getD 0 .dead)) (intOf (valR (M.rows.getD 3 (.arr 0 [])))) ((intOf (fr.tmps.getD 34 .dead)), (listOf (valR (M.rows.getD 1 (.arr 0 []))))) := by kernel_rfl
set_option maxRecDepth 100000 in
theorem e2_table_leaves_1_8 (fr : Fr) (M : Mm) : pt_table_leaves_1_8.mm M = sM_table_leaves_1_8 (intOf (fr.tmps.getD 4 .dead)) (intOf (fr.tmps.getD 5 .dead)) (intOf (fr.tmps.getD 8 .dead)) (listOf ((partsOf (valR (M.rows.getD 0 (.arr 0 [])))).getD 0 .dead)) (listOf ((partsOf (valR (M.rows.getD 2 (.arr 0 [])))).getD 0 .dead)) (intOf (valR (M.rows.getD 3 (.arr 0 [])))) ((intOf (fr.tmps.getD 34 .dead)), (listOf (valR (M.rows.getD 1 (.arr 0 []))))) := by kernel_rfl
set_option maxRecDepth 100000 in
theorem ok_table_leaves_1_8 (F : Tab) {dep : Nat} {fr : Fr} {M : Mm} {t : LT} (ht : lp_table_leaves_1_8 F dep fr M = some t) {R : Type} (K : AX → Fr → Mm → Option R) (r : R) (hgo : t.go K = some r) :
    iter 100000 (fun fr' M' k => evC (cx F) 122 (evF (cx F) dep) dep code_table_leaves_1_8 fr' M' (roundK Pg [] M.rows.length (some ([0, 1, 2, 4, 5, 8, 34], [0, 1, 2, 8])) K k)) fr M = some r := by
  unfold lp_table_leaves_1_8 at ht
  split at ht
  · rename_i hok
    simp only [Bool.and_eq_true, Nat.beq_eq] at hok
    obtain ⟨rfl, hok⟩ := hok
    obtain ⟨h1, h2⟩ := StP.ok_eq hok
    obtain rfl := Option.some.inj ht
    exact ok_of (X := fun fr M => iter 100000 (fun fr' M' k => evC (cx F) 122 (evF (cx F) 4) 4 code_table_leaves_1_8 fr' M' (roundK Pg [] M.rows.length (some ([0, 1, 2, 4, 5, 8, 34], [0, 1, 2, 8])) K k)) fr M) (h1.trans (e1_table_leaves_1_8 fr M)) (h2.trans (e2_table_leaves_1_8 fr M)) (it_table_leaves_1_8 F K (intOf (fr.tmps.getD 4 .dead)) (intOf (fr.tmps.getD 5 .dead)) (intOf (fr.tmps.getD 8 .dead)) (listOf ((partsOf (valR (M.rows.getD 0 (.arr 0 [])))).getD 0 .dead)) (listOf ((partsOf (valR (M.rows.getD 2 (.arr 0 [])))).getD 0 .dead)) (intOf (valR (M.rows.getD 3 (.arr 0 [])))) 100000 ((intOf (fr.tmps.getD 34 .dead)), (listOf (valR (M.rows.getD 1 (.arr 0 [])))))) hgo
  · exact absurd ht (by simp)
set_option maxRecDepth 100000 in
theorem at_table_leaves_1_8 : (Try.f122.body.bind fun c => loopAt c 8) = some code_table_leaves_1_8 := by kernel_rfl
theorem bad_table_leaves_1_1 {R : Type} (l0 l2 : List AV) (i1 : Int) (K : AX → Fr → Mm → Option R) : (lt_table_leaves_1_1 l0 l2 i1 LO.bad).go K = none := by kernel_rfl
noncomputable def code_table_leaves_1_1 : Code := ((Try.f122.body.bind fun c => loopAt c 1).getD .skip)
set_option maxRecDepth 100000 in
theorem rd_table_leaves_1_1 (F : Tab) {R : Type} (K : AX → Fr → Mm → Option R) (kk : Fr → Mm → Option R) (l0 l2 : List AV) (i1 : Int) (s : Int × List AV) :
    evC (cx F) 122 (evF (cx F) 4) 4 code_table_leaves_1_1 (sF_table_leaves_1_1 l0 l2 i1 s) (sM_table_leaves_1_1 l0 l2 i1 s) (roundK Pg [] 5 (some ([0, 1, 2, 8], [])) K kk) =
    (st_table_leaves_1_1 F l0 l2 i1 s).go (lt_table_leaves_1_1 l0 l2 i1) K (fun s => kk (sF_table_leaves_1_1 l0 l2 i1 s) (sM_table_leaves_1_1 l0 l2 i1 s)) := by kernel_rfl
set_option maxRecDepth 100000 in
theorem it_table_leaves_1_1 (F : Tab) {R : Type} (K : AX → Fr → Mm → Option R) (l0 l2 : List AV) (i1 : Int) (fuel : Nat) (s : Int × List AV) :
    iter fuel (fun fr M' k => evC (cx F) 122 (evF (cx F) 4) 4 code_table_leaves_1_1 fr M' (roundK Pg [] 5 (some ([0, 1, 2, 8], [])) K k)) (sF_table_leaves_1_1 l0 l2 i1 s) (sM_table_leaves_1_1 l0 l2 i1 s) = (lt_table_leaves_1_1 l0 l2 i1 (Tr.run (st_table_leaves_1_1 F l0 l2 i1) fuel s)).go K :=
  iter_tr (B := fun fr M' k => evC (cx F) 122 (evF (cx F) 4) 4 code_table_leaves_1_1 fr M' (roundK Pg [] 5 (some ([0, 1, 2, 8], [])) K k)) (step := st_table_leaves_1_1 F l0 l2 i1) (lt := lt_table_leaves_1_1 l0 l2 i1) (sF := sF_table_leaves_1_1 l0 l2 i1) (sM := sM_table_leaves_1_1 l0 l2 i1) (K := K) (bad_table_leaves_1_1 l0 l2 i1 K) (fun s kk => rd_table_leaves_1_1 F K kk l0 l2 i1 s) fuel s
set_option maxRecDepth 100000 in
theorem e1_table_leaves_1_1 (fr : Fr) (M : Mm) : pt_table_leaves_1_1.fr fr = sF_table_leaves_1_1 (listOf ((partsOf (valR (M.rows.getD 0 (.arr 0 [])))).getD 0 .dead)) (listOf ((partsOf (valR (M.rows.getD 2 (.arr 0 [])))).getD 0 .dead)) (intOf (valR (M.rows.getD 3 (.arr 0 [])))) ((intOf (fr.tmps.getD 8 .dead)), (listOf (valR (M.rows.getD 1 (.arr 0 []))))) := by kernel_rfl
set_option maxRecDepth 100000 in
theorem e2_table_leaves_1_1 (fr : Fr) (M : Mm) : pt_table_leaves_1_1.mm M = sM_table_leaves_1_1 (listOf ((partsOf (valR (M.rows.getD 0 (.arr 0 [])))).getD 0 .dead)) (listOf ((partsOf (valR (M.rows.getD 2 (.arr 0 [])))).getD 0 .dead)) (intOf (valR (M.rows.getD 3 (.arr 0 [])))) ((intOf (fr.tmps.getD 8 .dead)), (listOf (valR (M.rows.getD 1 (.arr 0 []))))) := by kernel_rfl
set_option maxRecDepth 100000 in
theorem ok_table_leaves_1_1 (F : Tab) {dep : Nat} {fr : Fr} {M : Mm} {t : LT} (ht : lp_table_leaves_1_1 F dep fr M = some t) {R : Type} (K : AX → Fr → Mm → Option R) (r : R) (hgo : t.go K = some r) :
    iter 100000 (fun fr' M' k => evC (cx F) 122 (evF (cx F) dep) dep code_table_leaves_1_1 fr' M' (roundK Pg [] M.rows.length (some ([0, 1, 2, 8], [])) K k)) fr M = some r := by
  unfold lp_table_leaves_1_1 at ht
  split at ht
  · rename_i hok
    simp only [Bool.and_eq_true, Nat.beq_eq] at hok
    obtain ⟨rfl, hok⟩ := hok
    obtain ⟨h1, h2⟩ := StP.ok_eq hok
    obtain rfl := Option.some.inj ht
    exact ok_of (X := fun fr M => iter 100000 (fun fr' M' k => evC (cx F) 122 (evF (cx F) 4) 4 code_table_leaves_1_1 fr' M' (roundK Pg [] M.rows.length (some ([0, 1, 2, 8], [])) K k)) fr M) (h1.trans (e1_table_leaves_1_1 fr M)) (h2.trans (e2_table_leaves_1_1 fr M)) (it_table_leaves_1_1 F K (listOf ((partsOf (valR (M.rows.getD 0 (.arr 0 [])))).getD 0 .dead)) (listOf ((partsOf (valR (M.rows.getD 2 (.arr 0 [])))).getD 0 .dead)) (intOf (valR (M.rows.getD 3 (.arr 0 [])))) 100000 ((intOf (fr.tmps.getD 8 .dead)), (listOf (valR (M.rows.getD 1 (.arr 0 [])))))) hgo
  · exact absurd ht (by simp)
set_option maxRecDepth 100000 in
theorem at_table_leaves_1_1 : (Try.f122.body.bind fun c => loopAt c 1) = some code_table_leaves_1_1 := by kernel_rfl
theorem bad_ref10_SameMappings_4 {R : Type} (l0 l1 : List AV) (K : AX → Fr → Mm → Option R) : (lt_ref10_SameMappings_4 l0 l1 LO.bad).go K = none := by kernel_rfl
noncomputable def code_ref10_SameMappings_4 : Code := ((Try.f33.body.bind fun c => loopAt c 4).getD .skip)
set_option maxRecDepth 100000 in
theorem rd_ref10_SameMappings_4 (F : Tab) {R : Type} (call : CallH R) (dep : Nat) (K : AX → Fr → Mm → Option R) (kk : Fr → Mm → Option R) (l0 l1 : List AV) (s : Int) :
    evC (cx F) 33 call dep code_ref10_SameMappings_4 (sF_ref10_SameMappings_4 l0 l1 s) (sM_ref10_SameMappings_4 l0 l1 s) (roundK Pg [] 0 (some ([0, 1, 5], [4])) K kk) =
    (st_ref10_SameMappings_4 F l0 l1 s).go (lt_ref10_SameMappings_4 l0 l1) K (fun s => kk (sF_ref10_SameMappings_4 l0 l1 s) (sM_ref10_SameMappings_4 l0 l1 s)) := by kernel_rfl
set_option maxRecDepth 100000 in
theorem it_ref10_SameMappings_4 (F : Tab) {R : Type} (call : CallH R) (dep : Nat) (K : AX → Fr → Mm → Option R) (l0 l1 : List AV) (fuel : Nat) (s : Int) :
    iter fuel (fun fr M' k => evC (cx F) 33 call dep code_ref10_SameMappings_4 fr M' (roundK Pg [] 0 (some ([0, 1, 5], [4])) K k)) (sF_ref10_SameMappings_4 l0 l1 s) (sM_ref10_SameMappings_4 l0 l1 s) = (lt_ref10_SameMappings_4 l0 l1 (Tr.run (st_ref10_SameMappings_4 F l0 l1) fuel s)).go K :=
  iter_tr (B := fun fr M' k => evC (cx F) 33 call dep code_ref10_SameMappings_4 fr M' (roundK Pg [] 0 (some ([0, 1, 5], [4])) K k)) (step := st_ref10_SameMappings_4 F l0 l1) (lt := lt_ref10_SameMappings_4 l0 l1) (sF := sF_ref10_SameMappings_4 l0 l1) (sM := sM_ref10_SameMappings_4 l0 l1) (K := K) (bad_ref10_SameMappings_4 l0 l1 K) (fun s kk => rd_ref10_SameMappings_4 F call dep K kk l0 l1 s) fuel s
set_option maxRecDepth 100000 in
theorem e1_ref10_SameMappings_4 (fr : Fr) (M : Mm) : pt_ref10_SameMappings_4.fr fr = sF_ref10_SameMappings_4 (listOf (fr.tmps.getD 0 .dead)) (listOf (fr.tmps.getD 1 .dead)) ((intOf (fr.tmps.getD 5 .dead))) := by kernel_rfl
set_option maxRecDepth 100000 in
theorem e2_ref10_SameMappings_4 (fr : Fr) (M : Mm) : pt_ref10_SameMappings_4.mm M = sM_ref10_SameMappings_4 (listOf (fr.tmps.getD 0 .dead)) (listOf (fr.tmps.getD 1 .dead)) ((intOf (fr.tmps.getD 5 .dead))) := by kernel_rfl
set_option maxRecDepth 100000 in
theorem ok_ref10_SameMappings_4 (F : Tab) {dep : Nat} {fr : Fr} {M : Mm} {t : LT} (ht : lp_ref10_SameMappings_4 F dep fr M = some t) {R : Type} (K : AX → Fr → Mm → Option R) (r : R) (hgo : t.go K = some r) :
    iter 100000 (fun fr' M' k => evC (cx F) 33 (evF (cx F) dep) dep code_ref10_SameMappings_4 fr' M' (roundK Pg [] M.rows.length (some ([0, 1, 5], [4])) K k)) fr M = some r := by
  unfold lp_ref10_SameMappings_4 at ht
  split at ht
  · rename_i hok
    obtain ⟨h1, h2⟩ := StP.ok_eq hok
    obtain rfl := Option.some.inj ht
    exact ok_of (X := fun fr M => iter 100000 (fun fr' M' k => evC (cx F) 33 (evF (cx F) dep) dep code_ref10_SameMappings_4 fr' M' (roundK Pg [] M.rows.length (some ([0, 1, 5], [4])) K k)) fr M) (h1.trans (e1_ref10_SameMappings_4 fr M)) (h2.trans (e2_ref10_SameMappings_4 fr M)) (it_ref10_SameMappings_4 F _ _ K (listOf (fr.tmps.getD 0 .dead)) (listOf (fr.tmps.getD 1 .dead)) 100000 ((intOf (fr.tmps.getD 5 .dead)))) hgo
  · exact absurd ht (by simp)
set_option maxRecDepth 100000 in
theorem at_ref10_SameMappings_4 : (Try.f33.body.bind fun c => loopAt c 4) = some code_ref10_SameMappings_4 := by kernel_rfl
theorem bad_ref10_List_13 {R : Type} (i0 i1 : Int) (l1 : List AV) (i3 i4 : Int) (b0 b1 b2 : Bool) (K : AX → Fr → Mm → Option R) : (lt_ref10_List_13 i0 i1 l1 i3 i4 b0 b1 b2 LO.bad).go K = none := by kernel_rfl
noncomputable def code_ref10_List_13 : Code := ((Try.f34.body.bind fun c => loopAt c 13).getD .skip)
set_option maxRecDepth 100000 in
theorem rd_ref10_List_13 (F : Tab) {R : Type} (call : CallH R) (dep : Nat) (K : AX → Fr → Mm → Option R) (kk : Fr → Mm → Option R) (i0 i1 : Int) (l1 : List AV) (i3 i4 : Int) (b0 b1 b2 : Bool) (s : List AV × Int) :
    evC (cx F) 34 call dep code_ref10_List_13 (sF_ref10_List_13 i0 i1 l1 i3 i4 b0 b1 b2 s) (sM_ref10_List_13 i0 i1 l1 i3 i4 b0 b1 b2 s) (roundK Pg [] 2 (some ([1, 2, 5, 6, 7, 8], [1, 2, 5, 6])) K kk) =
    (st_ref10_List_13 F i0 i1 l1 i3 i4 b0 b1 b2 s).go (lt_ref10_List_13 i0 i1 l1 i3 i4 b0 b1 b2) K (fun s => kk (sF_ref10_List_13 i0 i1 l1 i3 i4 b0 b1 b2 s) (sM_ref10_List_13 i0 i1 l1 i3 i4 b0 b1 b2 s)) := by kernel_rfl
set_option maxRecDepth 100000 in
theorem it_ref10_List_13 (F : Tab) {R : Type} (call : CallH R) (dep : Nat) (K : AX → Fr → Mm → Option R) (i0 i1 : Int) (l1 : List AV) (i3 i4 : Int) (b0 b1 b2 : Bool) (fuel : Nat) (s : List AV × Int) :
    iter fuel (fun fr M' k => evC (cx F) 34 call dep code_ref10_List_13 fr M' (roundK Pg [] 2 (some ([1, 2, 5, 6, 7, 8], [1, 2, 5, 6])) K k)) (sF_ref10_List_13 i0 i1 l1 i3 i4 b0 b1 b2 s) (sM_ref10_List_13 i0 i1 l1 i3 i4 b0 b1 b2 s) = (lt_ref10_List_13 i0 i1 l1 i3 i4 b0 b1 b2 (Tr.run (st_ref10_List_13 F i0 i1 l1 i3 i4 b0 b1 b2) fuel s)).go K :=
  iter_tr (B := fun fr M' k => evC (cx F) 34 call dep code_ref10_List_13 fr M' (roundK Pg [] 2 (some ([1, 2, 5, 6, 7, 8], [1, 2, 5, 6])) K k)) (step := st_ref10_List_13 F i0 i1 l1 i3 i4 b0 b1 b2) (lt := lt_ref10_List_13 i0 i1 l1 i3 i4 b0 b1 b2) (sF := sF_ref10_List_13 i0 i1 l1 i3 i4 b0 b1 b2) (sM := sM_ref10_List_13 i0 i1 l1 i3 i4 b0 b1 b2) (K := K) (bad_ref10_List_13 i0 i1 l1 i3 i4 b0 b1 b2 K) (fun s kk => rd_ref10_List_13 F call dep K kk i0 i1 l1 i3 i4 b0 b1 b2 s) fuel s
set_option maxRecDepth 100000 in
theorem e1_ref10_List_13 (fr : Fr) (M : Mm) : pt_ref10_List_13.fr fr = sF_ref10_List_13 (intOf (fr.tmps.getD 1 .dead)) (intOf (fr.tmps.getD 6 .dead)) (listOf ((partsOf (valR (M.rows.getD 0 (.arr 0 [])))).getD 0 .dead)) (intOf ((partsOf (valR (M.rows.getD 1 (.arr 0 [])))).getD 0 .dead)) (intOf ((partsOf (valR (M.rows.getD 1 (.arr 0 [])))).getD 1 .dead)) (boolOf ((partsOf (valR (M.rows.getD 1 (.arr 0 [])))).getD 2 .dead)) (boolOf ((partsOf (valR (M.rows.getD 1 (.arr 0 [])))).getD 3 .dead)) (boolOf ((partsOf (valR (M.rows.getD 1 (.arr 0 [])))).getD 4 .dead)) ((listOf (fr.tmps.getD 5 .dead)), (intOf (fr.tmps.getD 8 .dead))) := by kernel_rfl
set_option maxRecDepth 100000 in
theorem e2_ref10_List_13 (fr : Fr) (M : Mm) : pt_ref10_List_13.mm M = sM_ref10_List_13 (intOf (fr.tmps.getD 1 .dead)) (intOf (fr.tmps.getD 6 .dead)) (listOf ((partsOf (valR (M.rows.getD 0 (.arr 0 [])))).getD 0 .dead)) (intOf ((partsOf (valR (M.rows.getD 1 (.arr 0 [])))).getD 0 .dead)) (intOf ((partsOf (valR (M.rows.getD 1 (.arr 0 [])))).getD 1 .dead)) (boolOf ((partsOf (valR (M.rows.getD 1 (.arr 0 [])))).getD 2 .dead)) (boolOf ((partsOf (valR (M.rows.getD 1 (.arr 0 [])))).getD 3 .dead)) (boolOf ((partsOf (valR (M.rows.getD 1 (.arr 0 [])))).getD 4 .dead)) ((listOf (fr.tmps.getD 5 .dead)), (intOf (fr.tmps.getD 8 .dead))) := by kernel_rfl
set_option maxRecDepth 100000 in
theorem ok_ref10_List_13 (F : Tab) {dep : Nat} {fr : Fr} {M : Mm} {t : LT} (ht : lp_ref10_List_13 F dep fr M = some t) {R : Type} (K : AX → Fr → Mm → Option R) (r : R) (hgo : t.go K = some r) :
    iter 100000 (fun fr' M' k => evC (cx F) 34 (evF (cx F) dep) dep code_ref10_List_13 fr' M' (roundK Pg [] M.rows.length (some ([1, 2, 5, 6, 7, 8], [1, 2, 5, 6])) K k)) fr M = some r := by
  unfold lp_ref10_List_13 at ht
  split at ht
  · rename_i hok
    obtain ⟨h1, h2⟩ := StP.ok_eq hok
    obtain rfl := Option.some.inj ht
    exact ok_of (X := fun fr M => iter 100000 (fun fr' M' k => evC (cx F) 34 (evF (cx F) dep) dep code_ref10_List_13 fr' M' (roundK Pg [] M.rows.length (some ([1, 2, 5, 6, 7, 8], [1, 2, 5, 6])) K k)) fr M) (h1.trans (e1_ref10_List_13 fr M)) (h2.trans (e2_ref10_List_13 fr M)) (it_ref10_List_13 F _ _ K (intOf (fr.tmps.getD 1 .dead)) (intOf (fr.tmps.getD 6 .dead)) (listOf ((partsOf (valR (M.rows.getD 0 (.arr 0 [])))).getD 0 .dead)) (intOf ((partsOf (valR (M.rows.getD 1 (.arr 0 [])))).getD 0 .dead)) (intOf ((partsOf (valR (M.rows.getD 1 (.arr 0 [])))).getD 1 .dead)) (boolOf ((partsOf (valR (M.rows.getD 1 (.arr 0 [])))).getD 2 .dead)) (boolOf ((partsOf (valR (M.rows.getD 1 (.arr 0 [])))).getD 3 .dead)) (boolOf ((partsOf (valR (M.rows.getD 1 (.arr 0 [])))).getD 4 .dead)) 100000 ((listOf (fr.tmps.getD 5 .dead)), (intOf (fr.tmps.getD 8 .dead)))) hgo
  · exact absurd ht (by simp)
set_option maxRecDepth 100000 in
theorem at_ref10_List_13 : (Try.f34.body.bind fun c => loopAt c 13) = some code_ref10_List_13 := by kernel_rfl
theorem bad_ref10_List_5 {R : Type} (i0 : Int) (l1 : List AV) (K : AX → Fr → Mm → Option R) : (lt_ref10_List_5 i0 l1 LO.bad).go K = none := by kernel_rfl
noncomputable def code_ref10_List_5 : Code := ((Try.f34.body.bind fun c => loopAt c 5).getD .skip)
set_option maxRecDepth 100000 in
theorem rd_ref10_List_5 (F : Tab) {R : Type} (call : CallH R) (dep : Nat) (K : AX → Fr → Mm → Option R) (kk : Fr → Mm → Option R) (i0 : Int) (l1 : List AV) (s : List AV × Int) :
    evC (cx F) 34 call dep code_ref10_List_5 (sF_ref10_List_5 i0 l1 s) (sM_ref10_List_5 i0 l1 s) (roundK Pg [] 1 (some ([1, 2, 5, 6], [5])) K kk) =
    (st_ref10_List_5 F i0 l1 s).go (lt_ref10_List_5 i0 l1) K (fun s => kk (sF_ref10_List_5 i0 l1 s) (sM_ref10_List_5 i0 l1 s)) := by kernel_rfl
set_option maxRecDepth 100000 in
theorem it_ref10_List_5 (F : Tab) {R : Type} (call : CallH R) (dep : Nat) (K : AX → Fr → Mm → Option R) (i0 : Int) (l1 : List AV) (fuel : Nat) (s : List AV × Int) :
    iter fuel (fun fr M' k => evC (cx F) 34 call dep code_ref10_List_5 fr M' (roundK Pg [] 1 (some ([1, 2, 5, 6], [5])) K k)) (sF_ref10_List_5 i0 l1 s) (sM_ref10_List_5 i0 l1 s) = (lt_ref10_List_5 i0 l1 (Tr.run (st_ref10_List_5 F i0 l1) fuel s)).go K :=
  iter_tr (B := fun fr M' k => evC (cx F) 34 call dep code_ref10_List_5 fr M' (roundK Pg [] 1 (some ([1, 2, 5, 6], [5])) K k)) (step := st_ref10_List_5 F i0 l1) (lt := lt_ref10_List_5 i0 l1) (sF := sF_ref10_List_5 i0 l1) (sM := sM_ref10_List_5 i0 l1) (K := K) (bad_ref10_List_5 i0 l1 K) (fun s kk => rd_ref10_List_5 F call dep K kk i0 l1 s) fuel s
set_option maxRecDepth 100000 in
theorem e1_ref10_List_5 (fr : Fr) (M : Mm) : pt_ref10_List_5.fr fr = sF_ref10_List_5 (intOf (fr.tmps.getD 1 .dead)) (listOf ((partsOf (valR (M.rows.getD 0 (.arr 0 [])))).getD 0 .dead)) ((listOf (fr.tmps.getD 5 .dead)), (intOf (fr.tmps.getD 6 .dead))) := by kernel_rfl
set_option maxRecDepth 100000 in
theorem e2_ref10_List_5 (fr : Fr) (M : Mm) : pt_ref10_List_5.mm M = sM_ref10_List_5 (intOf (fr.tmps.getD 1 .dead)) (listOf ((partsOf (valR (M.rows.getD 0 (.arr 0 [])))).getD 0 .dead)) ((listOf (fr.tmps.getD 5 .dead)), (intOf (fr.tmps.getD 6 .dead))) := by kernel_rfl
set_option maxRecDepth 100000 in
theorem ok_ref10_List_5 (F : Tab) {dep : Nat} {fr : Fr} {M : Mm} {t : LT} (ht : lp_ref10_List_5 F dep fr M = some t) {R : Type} (K : AX → Fr → Mm → Option R) (r : R) (hgo : t.go K = some r) :
    iter 100000 (fun fr' M' k => evC (cx F) 34 (evF (cx F) dep) dep code_ref10_List_5 fr' M' (roundK Pg [] M.rows.length (some ([1, 2, 5, 6], [5])) K k)) fr M = some r := by
  unfold lp_ref10_List_5 at ht
  split at ht
  · rename_i hok
    obtain ⟨h1, h2⟩ := StP.ok_eq hok
    obtain rfl := Option.some.inj ht
    exact ok_of (X := fun fr M => iter 100000 (fun fr' M' k => evC (cx F) 34 (evF (cx F) dep) dep code_ref10_List_5 fr' M' (roundK Pg [] M.rows.length (some ([1, 2, 5, 6], [5])) K k)) fr M) (h1.trans (e1_ref10_List_5 fr M)) (h2.trans (e2_ref10_List_5 fr M)) (it_ref10_List_5 F _ _ K (intOf (fr.tmps.getD 1 .dead)) (listOf ((partsOf (valR (M.rows.getD 0 (.arr 0 [])))).getD 0 .dead)) 100000 ((listOf (fr.tmps.getD 5 .dead)), (intOf (fr.tmps.getD 6 .dead)))) hgo
  · exact absurd ht (by simp)
set_option maxRecDepth 100000 in
theorem at_ref10_List_5 : (Try.f34.body.bind fun c => loopAt c 5) = some code_ref10_List_5 := by kernel_rfl
theorem bad_ref06_Store_6 {R : Type} (l0 : List AV) (i1 i2 i3 : Int) (l1 : List AV) (n0 n1 : Nat) (K : AX → Fr → Mm → Option R) : (lt_ref06_Store_6 l0 i1 i2 i3 l1 n0 n1 LO.bad).go K = none := by kernel_rfl
noncomputable def code_ref06_Store_6 : Code := ((Try.f57.body.bind fun c => loopAt c 6).getD .skip)
set_option maxRecDepth 100000 in
theorem rd_ref06_Store_6 (F : Tab) {R : Type} (call : CallH R) (dep : Nat) (K : AX → Fr → Mm → Option R) (kk : Fr → Mm → Option R) (l0 : List AV) (i1 i2 i3 : Int) (l1 : List AV) (n0 n1 : Nat) (s : Int × List AV) :
    evC (cx F) 57 call dep code_ref06_Store_6 (sF_ref06_Store_6 l0 i1 i2 i3 l1 n0 n1 s) (sM_ref06_Store_6 l0 i1 i2 i3 l1 n0 n1 s) (roundK Pg [] 7 (some ([3, 4, 6, 7], [4, 6])) K kk) =
    (st_ref06_Store_6 F l0 i1 i2 i3 l1 n0 n1 s).go (lt_ref06_Store_6 l0 i1 i2 i3 l1 n0 n1) K (fun s => kk (sF_ref06_Store_6 l0 i1 i2 i3 l1 n0 n1 s) (sM_ref06_Store_6 l0 i1 i2 i3 l1 n0 n1 s)) := by kernel_rfl
set_option maxRecDepth 100000 in
theorem it_ref06_Store_6 (F : Tab) {R : Type} (call : CallH R) (dep : Nat) (K : AX → Fr → Mm → Option R) (l0 : List AV) (i1 i2 i3 : Int) (l1 : List AV) (n0 n1 : Nat) (fuel : Nat) (s : Int × List AV) :
    iter fuel (fun fr M' k => evC (cx F) 57 call dep code_ref06_Store_6 fr M' (roundK Pg [] 7 (some ([3, 4, 6, 7], [4, 6])) K k)) (sF_ref06_Store_6 l0 i1 i2 i3 l1 n0 n1 s) (sM_ref06_Store_6 l0 i1 i2 i3 l1 n0 n1 s) = (lt_ref06_Store_6 l0 i1 i2 i3 l1 n0 n1 (Tr.run (st_ref06_Store_6 F l0 i1 i2 i3 l1 n0 n1) fuel s)).go K :=
  iter_tr (B := fun fr M' k => evC (cx F) 57 call dep code_ref06_Store_6 fr M' (roundK Pg [] 7 (some ([3, 4, 6, 7], [4, 6])) K k)) (step := st_ref06_Store_6 F l0 i1 i2 i3 l1 n0 n1) (lt := lt_ref06_Store_6 l0 i1 i2 i3 l1 n0 n1) (sF := sF_ref06_Store_6 l0 i1 i2 i3 l1 n0 n1) (sM := sM_ref06_Store_6 l0 i1 i2 i3 l1 n0 n1) (K := K) (bad_ref06_Store_6 l0 i1 i2 i3 l1 n0 n1 K) (fun s kk => rd_ref06_Store_6 F call dep K kk l0 i1 i2 i3 l1 n0 n1 s) fuel s
set_option maxRecDepth 100000 in
theorem e1_ref06_Store_6 (fr : Fr) (M : Mm) : pt_ref06_Store_6.fr fr = sF_ref06_Store_6 (listOf ((partsOf (valR (M.rows.getD 0 (.arr 0 [])))).getD 0 .dead)) (intOf ((partsOf (valR (M.rows.getD 1 (.arr 0 [])))).getD 0 .dead)) (intOf ((partsOf (valR (M.rows.getD 1 (.arr 0 [])))).getD 1 .dead)) (intOf ((partsOf (valR (M.rows.getD 1 (.arr 0 [])))).getD 2 .dead)) (listOf ((partsOf (valR (M.rows.getD 3 (.arr 0 [])))).getD 0 .dead)) (mlenOf ((partsOf (valR (M.rows.getD 4 (.arr 0 [])))).getD 0 .dead)) (mlenOf ((partsOf (valR (M.rows.getD 6 (.arr 0 [])))).getD 0 .dead)) ((intOf (fr.tmps.getD 7 .dead)), (listR (M.rows.getD 5 (.arr 0 [])))) := by kernel_rfl
set_option maxRecDepth 100000 in
theorem e2_ref06_Store_6 (fr : Fr) (M : Mm) : pt_ref06_Store_6.mm M = sM_ref06_Store_6 (listOf ((partsOf (valR (M.rows.getD 0 (.arr 0 [])))).getD 0 .dead)) (intOf ((partsOf (valR (M.rows.getD 1 (.arr 0 [])))).getD 0 .dead)) (intOf ((partsOf (valR (M.rows.getD 1 (.arr 0 [])))).getD 1 .dead)) (intOf ((partsOf (valR (M.rows.getD 1 (.arr 0 [])))).getD 2 .dead)) (listOf ((partsOf (valR (M.rows.getD 3 (.arr 0 [])))).getD 0 .dead)) (mlenOf ((partsOf (valR (M.rows.getD 4 (.arr 0 [])))).getD 0 .dead)) (mlenOf ((partsOf (valR (M.rows.getD 6 (.arr 0 [])))).getD 0 .dead)) ((intOf (fr.tmps.getD 7 .dead)), (listR (M.rows.getD 5 (.arr 0 [])))) := by kernel_rfl
set_option maxRecDepth 100000 in
theorem ok_ref06_Store_6 (F : Tab) {dep : Nat} {fr : Fr} {M : Mm} {t : LT} (ht : lp_ref06_Store_6 F dep fr M = some t) {R : Type} (K : AX → Fr → Mm → Option R) (r : R) (hgo : t.go K = some r) :
    iter 100000 (fun fr' M' k => evC (cx F) 57 (evF (cx F) dep) dep code_ref06_Store_6 fr' M' (roundK Pg [] M.rows.length (some ([3, 4, 6, 7], [4, 6])) K k)) fr M = some r := by
  unfold lp_ref06_Store_6 at ht
  split at ht
  · rename_i hok
    obtain ⟨h1, h2⟩ := StP.ok_eq hok
    obtain rfl := Option.some.inj ht
    exact ok_of (X := fun fr M => iter 100000 (fun fr' M' k => evC (cx F) 57 (evF (cx F) dep) dep code_ref06_Store_6 fr' M' (roundK Pg [] M.rows.length (some ([3, 4, 6, 7], [4, 6])) K k)) fr M) (h1.trans (e1_ref06_Store_6 fr M)) (h2.trans (e2_ref06_Store_6 fr M)) (it_ref06_Store_6 F _ _ K (listOf ((partsOf (valR (M.rows.getD 0 (.arr 0 [])))).getD 0 .dead)) (intOf ((partsOf (valR (M.rows.getD 1 (.arr 0 [])))).getD 0 .dead)) (intOf ((partsOf (valR (M.rows.getD 1 (.arr 0 [])))).getD 1 .dead)) (intOf ((partsOf (valR (M.rows.getD 1 (.arr 0 [])))).getD 2 .dead)) (listOf ((partsOf (valR (M.rows.getD 3 (.arr 0 [])))).getD 0 .dead)) (mlenOf ((partsOf (valR (M.rows.getD 4 (.arr 0 [])))).getD 0 .dead)) (mlenOf ((partsOf (valR (M.rows.getD 6 (.arr 0 [])))).getD 0 .dead)) 100000 ((intOf (fr.tmps.getD 7 .dead)), (listR (M.rows.getD 5 (.arr 0 []))))) hgo
  · exact absurd ht (by simp)
set_option maxRecDepth 100000 in
theorem at_ref06_Store_6 : (Try.f57.body.bind fun c => loopAt c 6) = some code_ref06_Store_6 := by kernel_rfl
theorem bad_ref06_SameInts_4 {R : Type} (l0 l1 : List AV) (K : AX → Fr → Mm → Option R) : (lt_ref06_SameInts_4 l0 l1 LO.bad).go K = none := by kernel_rfl
noncomputable def code_ref06_SameInts_4 : Code := ((Try.f75.body.bind fun c => loopAt c 4).getD .skip)
set_option maxRecDepth 100000 in
theorem rd_ref06_SameInts_4 (F : Tab) {R : Type} (call : CallH R) (dep : Nat) (K : AX → Fr → Mm → Option R) (kk : Fr → Mm → Option R) (l0 l1 : List AV) (s : Int) :
    evC (cx F) 75 call dep code_ref06_SameInts_4 (sF_ref06_SameInts_4 l0 l1 s) (sM_ref06_SameInts_4 l0 l1 s) (roundK Pg [] 0 (some ([0, 1, 5], [4])) K kk) =
    (st_ref06_SameInts_4 F l0 l1 s).go (lt_ref06_SameInts_4 l0 l1) K (fun s => kk (sF_ref06_SameInts_4 l0 l1 s) (sM_ref06_SameInts_4 l0 l1 s)) := by kernel_rfl
set_option maxRecDepth 100000 in
theorem it_ref06_SameInts_4 (F : Tab) {R : Type} (call : CallH R) (dep : Nat) (K : AX → Fr → Mm → Option R) (l0 l1 : List AV) (fuel : Nat) (s : Int) :
    iter fuel (fun fr M' k => evC (cx F) 75 call dep code_ref06_SameInts_4 fr M' (roundK Pg [] 0 (some ([0, 1, 5], [4])) K k)) (sF_ref06_SameInts_4 l0 l1 s) (sM_ref06_SameInts_4 l0 l1 s) = (lt_ref06_SameInts_4 l0 l1 (Tr.run (st_ref06_SameInts_4 F l0 l1) fuel s)).go K :=
  iter_tr (B := fun fr M' k => evC (cx F) 75 call dep code_ref06_SameInts_4 fr M' (roundK Pg [] 0 (some ([0, 1, 5], [4])) K k)) (step := st_ref06_SameInts_4 F l0 l1) (lt := lt_ref06_SameInts_4 l0 l1) (sF := sF_ref06_SameInts_4 l0 l1) (sM := sM_ref06_SameInts_4 l0 l1) (K := K) (bad_ref06_SameInts_4 l0 l1 K) (fun s kk => rd_ref06_SameInts_4 F call dep K kk l0 l1 s) fuel s
set_option maxRecDepth 100000 in
theorem e1_ref06_SameInts_4 (fr : Fr) (M : Mm) : pt_ref06_SameInts_4.fr fr = sF_ref06_SameInts_4 (listOf (fr.tmps.getD 0 .dead)) (listOf (fr.tmps.getD 1 .dead)) ((intOf (fr.tmps.getD 5 .dead))) := by kernel_rfl
set_option maxRecDepth 100000 in
theorem e2_ref06_SameInts_4 (fr : Fr) (M : Mm) : pt_ref06_SameInts_4.mm M = sM_ref06_SameInts_4 (listOf (fr.tmps.getD 0 .dead)) (listOf (fr.tmps.getD 1 .dead)) ((intOf (fr.tmps.getD 5 .dead))) := by kernel_rfl
set_option maxRecDepth 100000 in
theorem ok_ref06_SameInts_4 (F : Tab) {dep : Nat} {fr : Fr} {M : Mm} {t : LT} (ht : lp_ref06_SameInts_4 F dep fr M = some t) {R : Type} (K : AX → Fr → Mm → Option R) (r : R) (hgo : t.go K = some r) :
    iter 100000 (fun fr' M' k => evC (cx F) 75 (evF (cx F) dep) dep code_ref06_SameInts_4 fr' M' (roundK Pg [] M.rows.length (some ([0, 1, 5], [4])) K k)) fr M = some r := by
  unfold lp_ref06_SameInts_4 at ht
  split at ht
  · rename_i hok
    obtain ⟨h1, h2⟩ := StP.ok_eq hok
    obtain rfl := Option.some.inj ht
    exact ok_of (X := fun fr M => iter 100000 (fun fr' M' k => evC (cx F) 75 (evF (cx F) dep) dep code_ref06_SameInts_4 fr' M' (roundK Pg [] M.rows.length (some ([0, 1, 5], [4])) K k)) fr M) (h1.trans (e1_ref06_SameInts_4 fr M)) (h2.trans (e2_ref06_SameInts_4 fr M)) (it_ref06_SameInts_4 F _ _ K (listOf (fr.tmps.getD 0 .dead)) (listOf (fr.tmps.getD 1 .dead)) 100000 ((intOf (fr.tmps.getD 5 .dead)))) hgo
  · exact absurd ht (by simp)
set_option maxRecDepth 100000 in
theorem at_ref06_SameInts_4 : (Try.f75.body.bind fun c => loopAt c 4) = some code_ref06_SameInts_4 := by kernel_rfl
end
end Go.Proofs.Ytcknhfnbdgleiaa
