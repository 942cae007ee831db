/- The loops come to what their functions say. (Printed by a program of mine, gen.py.) -/
import Derived.Test.YtcknhfnbdgleiaaTbC
set_option linter.unusedVariables false
set_option linter.unusedSimpArgs false
namespace Go.Proofs.Ytcknhfnbdgleiaa
open Go.AE
noncomputable section
theorem bad_law25_TlbWorksAsSpecified_8 {R : Type} (i0 i1 i2 : Int) (b0 : Bool) (l0 : List AV) (i3 : Int) (K : AX → Fr → Mm → Option R) : (lt_law25_TlbWorksAsSpecified_8 i0 i1 i2 b0 l0 i3 LO.bad).go K = none := by kernel_rfl
noncomputable def code_law25_TlbWorksAsSpecified_8 : Code := ((Try.f9.body.bind fun c => loopAt c 8).getD .skip)
set_option maxRecDepth 100000 in
theorem rd_law25_TlbWorksAsSpecified_8 (F : Tab) {R : Type} (call : CallH R) (dep : Nat) (K : AX → Fr → Mm → Option R) (kk : Fr → Mm → Option R) (i0 i1 i2 : Int) (b0 : Bool) (l0 : List AV) (i3 : Int) (s : Int × List AV) :
    evC (cx F) 9 call dep code_law25_TlbWorksAsSpecified_8 (sF_law25_TlbWorksAsSpecified_8 i0 i1 i2 b0 l0 i3 s) (sM_law25_TlbWorksAsSpecified_8 i0 i1 i2 b0 l0 i3 s) (roundK Pg [] 1 (some ([2, 3, 4, 5, 6, 45, 46, 47], [12])) K kk) =
    (st_law25_TlbWorksAsSpecified_8 F i0 i1 i2 b0 l0 i3 s).go (lt_law25_TlbWorksAsSpecified_8 i0 i1 i2 b0 l0 i3) K (fun s => kk (sF_law25_TlbWorksAsSpecified_8 i0 i1 i2 b0 l0 i3 s) (sM_law25_TlbWorksAsSpecified_8 i0 i1 i2 b0 l0 i3 s)) := by kernel_rfl
set_option maxRecDepth 100000 in
theorem it_law25_TlbWorksAsSpecified_8 (F : Tab) {R : Type} (call : CallH R) (dep : Nat) (K : AX → Fr → Mm → Option R) (i0 i1 i2 : Int) (b0 : Bool) (l0 : List AV) (i3 : Int) (fuel : Nat) (s : Int × List AV) :
    iter fuel (fun fr M' k => evC (cx F) 9 call dep code_law25_TlbWorksAsSpecified_8 fr M' (roundK Pg [] 1 (some ([2, 3, 4, 5, 6, 45, 46, 47], [12])) K k)) (sF_law25_TlbWorksAsSpecified_8 i0 i1 i2 b0 l0 i3 s) (sM_law25_TlbWorksAsSpecified_8 i0 i1 i2 b0 l0 i3 s) = (lt_law25_TlbWorksAsSpecified_8 i0 i1 i2 b0 l0 i3 (Tr.run (st_law25_TlbWorksAsSpecified_8 F i0 i1 i2 b0 l0 i3) fuel s)).go K :=
  iter_tr (B := fun fr M' k => evC (cx F) 9 call dep code_law25_TlbWorksAsSpecified_8 fr M' (roundK Pg [] 1 (some ([2, 3, 4, 5, 6, 45, 46, 47], [12])) K k)) (step := st_law25_TlbWorksAsSpecified_8 F i0 i1 i2 b0 l0 i3) (lt := lt_law25_TlbWorksAsSpecified_8 i0 i1 i2 b0 l0 i3) (sF := sF_law25_TlbWorksAsSpecified_8 i0 i1 i2 b0 l0 i3) (sM := sM_law25_TlbWorksAsSpecified_8 i0 i1 i2 b0 l0 i3) (K := K) (bad_law25_TlbWorksAsSpecified_8 i0 i1 i2 b0 l0 i3 K) (fun s kk => rd_law25_TlbWorksAsSpecified_8 F call dep K kk i0 i1 i2 b0 l0 i3 s) fuel s
set_option maxRecDepth 100000 in
theorem e1_law25_TlbWorksAsSpecified_8 (fr : Fr) (M : Mm) : pt_law25_TlbWorksAsSpecified_8.fr fr = sF_law25_TlbWorksAsSpecified_8 (intOf (fr.tmps.getD 2 .dead)) (intOf (fr.tmps.getD 3 .dead)) (intOf (fr.tmps.getD 4 .dead)) (boolOf (fr.tmps.getD 5 .dead)) (listOf (fr.tmps.getD 45 .dead)) (intOf (fr.tmps.getD 46 .dead)) ((intOf (fr.tmps.getD 47 .dead)), (listOf ((partsOf (valR (M.rows.getD 0 (.arr 0 [])))).getD 0 .dead))) := by kernel_rfl
set_option maxRecDepth 100000 in
theorem e2_law25_TlbWorksAsSpecified_8 (fr : Fr) (M : Mm) : pt_law25_TlbWorksAsSpecified_8.mm M = sM_law25_TlbWorksAsSpecified_8 (intOf (fr.tmps.getD 2 .dead)) (intOf (fr.tmps.getD 3 .dead)) (intOf (fr.tmps.getD 4 .dead)) (boolOf (fr.tmps.getD 5 .dead)) (listOf (fr.tmps.getD 45 .dead)) (intOf (fr.tmps.getD 46 .dead)) ((intOf (fr.tmps.getD 47 .dead)), (listOf ((partsOf (valR (M.rows.getD 0 (.arr 0 [])))).getD 0 .dead))) := by kernel_rfl
set_option maxRecDepth 100000 in
theorem ok_law25_TlbWorksAsSpecified_8 (F : Tab) {dep : Nat} {fr : Fr} {M : Mm} {t : LT} (ht : lp_law25_TlbWorksAsSpecified_8 F dep fr M = some t) {R : Type} (K : AX → Fr → Mm → Option R) (r : R) (hgo : t.go K = some r) :
    iter 100000 (fun fr' M' k => evC (cx F) 9 (evF (cx F) dep) dep code_law25_TlbWorksAsSpecified_8 fr' M' (roundK Pg [] M.rows.length (some ([2, 3, 4, 5, 6, 45, 46, 47], [12])) K k)) fr M = some r := by
  unfold lp_law25_TlbWorksAsSpecified_8 at ht
  split at ht
  · rename_i hok
    obtain ⟨h1, h2⟩ := StP.ok_eq hok
    obtain rfl := Option.some.inj ht
    exact ok_of (X := fun fr M => iter 100000 (fun fr' M' k => evC (cx F) 9 (evF (cx F) dep) dep code_law25_TlbWorksAsSpecified_8 fr' M' (roundK Pg [] M.rows.length (some ([2, 3, 4, 5, 6, 45, 46, 47], [12])) K k)) fr M) (h1.trans (e1_law25_TlbWorksAsSpecified_8 fr M)) (h2.trans (e2_law25_TlbWorksAsSpecified_8 fr M)) (it_law25_TlbWorksAsSpecified_8 F _ _ K (intOf (fr.tmps.getD 2 .dead)) (intOf (fr.tmps.getD 3 .dead)) (intOf (fr.tmps.getD 4 .dead)) (boolOf (fr.tmps.getD 5 .dead)) (listOf (fr.tmps.getD 45 .dead)) (intOf (fr.tmps.getD 46 .dead)) 100000 ((intOf (fr.tmps.getD 47 .dead)), (listOf ((partsOf (valR (M.rows.getD 0 (.arr 0 [])))).getD 0 .dead)))) hgo
  · exact absurd ht (by simp)
set_option maxRecDepth 100000 in
theorem at_law25_TlbWorksAsSpecified_8 : (Try.f9.body.bind fun c => loopAt c 8) = some code_law25_TlbWorksAsSpecified_8 := by kernel_rfl
theorem bad_ref10_Same_4 {R : Type} (i1 i2 : Int) (l0 l1 : List AV) (i3 i4 : Int) (l2 l3 : List AV) (K : AX → Fr → Mm → Option R) : (lt_ref10_Same_4 i1 i2 l0 l1 i3 i4 l2 l3 LO.bad).go K = none := by kernel_rfl
noncomputable def code_ref10_Same_4 : Code := ((Try.f21.body.bind fun c => loopAt c 4).getD .skip)
set_option maxRecDepth 100000 in
theorem rd_ref10_Same_4 (F : Tab) {R : Type} (call : CallH R) (dep : Nat) (K : AX → Fr → Mm → Option R) (kk : Fr → Mm → Option R) (i1 i2 : Int) (l0 l1 : List AV) (i3 i4 : Int) (l2 l3 : List AV) (s : Int) :
    evC (cx F) 21 call dep code_ref10_Same_4 (sF_ref10_Same_4 i1 i2 l0 l1 i3 i4 l2 l3 s) (sM_ref10_Same_4 i1 i2 l0 l1 i3 i4 l2 l3 s) (roundK Pg [] 2 (some ([2, 3, 5], [4])) K kk) =
    (st_ref10_Same_4 F i1 i2 l0 l1 i3 i4 l2 l3 s).go (lt_ref10_Same_4 i1 i2 l0 l1 i3 i4 l2 l3) K (fun s => kk (sF_ref10_Same_4 i1 i2 l0 l1 i3 i4 l2 l3 s) (sM_ref10_Same_4 i1 i2 l0 l1 i3 i4 l2 l3 s)) := by kernel_rfl
set_option maxRecDepth 100000 in
theorem it_ref10_Same_4 (F : Tab) {R : Type} (call : CallH R) (dep : Nat) (K : AX → Fr → Mm → Option R) (i1 i2 : Int) (l0 l1 : List AV) (i3 i4 : Int) (l2 l3 : List AV) (fuel : Nat) (s : Int) :
    iter fuel (fun fr M' k => evC (cx F) 21 call dep code_ref10_Same_4 fr M' (roundK Pg [] 2 (some ([2, 3, 5], [4])) K k)) (sF_ref10_Same_4 i1 i2 l0 l1 i3 i4 l2 l3 s) (sM_ref10_Same_4 i1 i2 l0 l1 i3 i4 l2 l3 s) = (lt_ref10_Same_4 i1 i2 l0 l1 i3 i4 l2 l3 (Tr.run (st_ref10_Same_4 F i1 i2 l0 l1 i3 i4 l2 l3) fuel s)).go K :=
  iter_tr (B := fun fr M' k => evC (cx F) 21 call dep code_ref10_Same_4 fr M' (roundK Pg [] 2 (some ([2, 3, 5], [4])) K k)) (step := st_ref10_Same_4 F i1 i2 l0 l1 i3 i4 l2 l3) (lt := lt_ref10_Same_4 i1 i2 l0 l1 i3 i4 l2 l3) (sF := sF_ref10_Same_4 i1 i2 l0 l1 i3 i4 l2 l3) (sM := sM_ref10_Same_4 i1 i2 l0 l1 i3 i4 l2 l3) (K := K) (bad_ref10_Same_4 i1 i2 l0 l1 i3 i4 l2 l3 K) (fun s kk => rd_ref10_Same_4 F call dep K kk i1 i2 l0 l1 i3 i4 l2 l3 s) fuel s
set_option maxRecDepth 100000 in
theorem e1_ref10_Same_4 (fr : Fr) (M : Mm) : pt_ref10_Same_4.fr fr = sF_ref10_Same_4 (intOf ((partsOf (valR (M.rows.getD 0 (.arr 0 [])))).getD 0 .dead)) (intOf ((partsOf (valR (M.rows.getD 0 (.arr 0 [])))).getD 1 .dead)) (listOf ((partsOf (valR (M.rows.getD 0 (.arr 0 [])))).getD 2 .dead)) (listOf ((partsOf (valR (M.rows.getD 0 (.arr 0 [])))).getD 3 .dead)) (intOf ((partsOf (valR (M.rows.getD 1 (.arr 0 [])))).getD 0 .dead)) (intOf ((partsOf (valR (M.rows.getD 1 (.arr 0 [])))).getD 1 .dead)) (listOf ((partsOf (valR (M.rows.getD 1 (.arr 0 [])))).getD 2 .dead)) (listOf ((partsOf (valR (M.rows.getD 1 (.arr 0 [])))).getD 3 .dead)) ((intOf (fr.tmps.getD 5 .dead))) := by kernel_rfl
set_option maxRecDepth 100000 in
theorem e2_ref10_Same_4 (fr : Fr) (M : Mm) : pt_ref10_Same_4.mm M = sM_ref10_Same_4 (intOf ((partsOf (valR (M.rows.getD 0 (.arr 0 [])))).getD 0 .dead)) (intOf ((partsOf (valR (M.rows.getD 0 (.arr 0 [])))).getD 1 .dead)) (listOf ((partsOf (valR (M.rows.getD 0 (.arr 0 [])))).getD 2 .dead)) (listOf ((partsOf (valR (M.rows.getD 0 (.arr 0 [])))).getD 3 .dead)) (intOf ((partsOf (valR (M.rows.getD 1 (.arr 0 [])))).getD 0 .dead)) (intOf ((partsOf (valR (M.rows.getD 1 (.arr 0 [])))).getD 1 .dead)) (listOf ((partsOf (valR (M.rows.getD 1 (.arr 0 [])))).getD 2 .dead)) (listOf ((partsOf (valR (M.rows.getD 1 (.arr 0 [])))).getD 3 .dead)) ((intOf (fr.tmps.getD 5 .dead))) := by kernel_rfl
set_option maxRecDepth 100000 in
theorem ok_ref10_Same_4 (F : Tab) {dep : Nat} {fr : Fr} {M : Mm} {t : LT} (ht : lp_ref10_Same_4 F dep fr M = some t) {R : Type} (K : AX → Fr → Mm → Option R) (r : R) (hgo : t.go K = some r) :
    iter 100000 (fun fr' M' k => evC (cx F) 21 (evF (cx F) dep) dep code_ref10_Same_4 fr' M' (roundK Pg [] M.rows.length (some ([2, 3, 5], [4])) K k)) fr M = some r := by
  unfold lp_ref10_Same_4 at ht
  split at ht
  · rename_i hok
    obtain ⟨h1, h2⟩ := StP.ok_eq hok
    obtain rfl := Option.some.inj ht
    exact ok_of (X := fun fr M => iter 100000 (fun fr' M' k => evC (cx F) 21 (evF (cx F) dep) dep code_ref10_Same_4 fr' M' (roundK Pg [] M.rows.length (some ([2, 3, 5], [4])) K k)) fr M) (h1.trans (e1_ref10_Same_4 fr M)) (h2.trans (e2_ref10_Same_4 fr M)) (it_ref10_Same_4 F _ _ K (intOf ((partsOf (valR (M.rows.getD 0 (.arr 0 [])))).getD 0 .dead)) (intOf ((partsOf (valR (M.rows.getD 0 (.arr 0 [])))).getD 1 .dead)) (listOf ((partsOf (valR (M.rows.getD 0 (.arr 0 [])))).getD 2 .dead)) (listOf ((partsOf (valR (M.rows.getD 0 (.arr 0 [])))).getD 3 .dead)) (intOf ((partsOf (valR (M.rows.getD 1 (.arr 0 [])))).getD 0 .dead)) (intOf ((partsOf (valR (M.rows.getD 1 (.arr 0 [])))).getD 1 .dead)) (listOf ((partsOf (valR (M.rows.getD 1 (.arr 0 [])))).getD 2 .dead)) (listOf ((partsOf (valR (M.rows.getD 1 (.arr 0 [])))).getD 3 .dead)) 100000 ((intOf (fr.tmps.getD 5 .dead)))) hgo
  · exact absurd ht (by simp)
set_option maxRecDepth 100000 in
theorem at_ref10_Same_4 : (Try.f21.body.bind fun c => loopAt c 4) = some code_ref10_Same_4 := by kernel_rfl
theorem bad_memory_draft_put_1 {R : Type} (l1 : List AV) (n0 : Nat) (i1 i2 i3 : Int) (n1 : Nat) (i4 i5 i6 : Int) (n2 : Nat) (K : AX → Fr → Mm → Option R) : (lt_memory_draft_put_1 l1 n0 i1 i2 i3 n1 i4 i5 i6 n2 LO.bad).go K = none := by kernel_rfl
noncomputable def code_memory_draft_put_1 : Code := ((Try.f121.body.bind fun c => loopAt c 1).getD .skip)
set_option maxRecDepth 100000 in
theorem rd_memory_draft_put_1 (F : Tab) {R : Type} (call : CallH R) (dep : Nat) (K : AX → Fr → Mm → Option R) (kk : Fr → Mm → Option R) (l1 : List AV) (n0 : Nat) (i1 i2 i3 : Int) (n1 : Nat) (i4 i5 i6 : Int) (n2 : Nat) (s : Int × List AV × List AV) :
    evC (cx F) 121 call dep code_memory_draft_put_1 (sF_memory_draft_put_1 l1 n0 i1 i2 i3 n1 i4 i5 i6 n2 s) (sM_memory_draft_put_1 l1 n0 i1 i2 i3 n1 i4 i5 i6 n2 s) (roundK Pg [] 8 (some ([1, 2, 3], [])) K kk) =
    (st_memory_draft_put_1 F l1 n0 i1 i2 i3 n1 i4 i5 i6 n2 s).go (lt_memory_draft_put_1 l1 n0 i1 i2 i3 n1 i4 i5 i6 n2) K (fun s => kk (sF_memory_draft_put_1 l1 n0 i1 i2 i3 n1 i4 i5 i6 n2 s) (sM_memory_draft_put_1 l1 n0 i1 i2 i3 n1 i4 i5 i6 n2 s)) := by kernel_rfl
set_option maxRecDepth 100000 in
theorem it_memory_draft_put_1 (F : Tab) {R : Type} (call : CallH R) (dep : Nat) (K : AX → Fr → Mm → Option R) (l1 : List AV) (n0 : Nat) (i1 i2 i3 : Int) (n1 : Nat) (i4 i5 i6 : Int) (n2 : Nat) (fuel : Nat) (s : Int × List AV × List AV) :
    iter fuel (fun fr M' k => evC (cx F) 121 call dep code_memory_draft_put_1 fr M' (roundK Pg [] 8 (some ([1, 2, 3], [])) K k)) (sF_memory_draft_put_1 l1 n0 i1 i2 i3 n1 i4 i5 i6 n2 s) (sM_memory_draft_put_1 l1 n0 i1 i2 i3 n1 i4 i5 i6 n2 s) = (lt_memory_draft_put_1 l1 n0 i1 i2 i3 n1 i4 i5 i6 n2 (Tr.run (st_memory_draft_put_1 F l1 n0 i1 i2 i3 n1 i4 i5 i6 n2) fuel s)).go K :=
  iter_tr (B := fun fr M' k => evC (cx F) 121 call dep code_memory_draft_put_1 fr M' (roundK Pg [] 8 (some ([1, 2, 3], [])) K k)) (step := st_memory_draft_put_1 F l1 n0 i1 i2 i3 n1 i4 i5 i6 n2) (lt := lt_memory_draft_put_1 l1 n0 i1 i2 i3 n1 i4 i5 i6 n2) (sF := sF_memory_draft_put_1 l1 n0 i1 i2 i3 n1 i4 i5 i6 n2) (sM := sM_memory_draft_put_1 l1 n0 i1 i2 i3 n1 i4 i5 i6 n2) (K := K) (bad_memory_draft_put_1 l1 n0 i1 i2 i3 n1 i4 i5 i6 n2 K) (fun s kk => rd_memory_draft_put_1 F call dep K kk l1 n0 i1 i2 i3 n1 i4 i5 i6 n2 s) fuel s
set_option maxRecDepth 100000 in
theorem e1_memory_draft_put_1 (fr : Fr) (M : Mm) : pt_memory_draft_put_1.fr fr = sF_memory_draft_put_1 (listOf ((partsOf (valR (M.rows.getD 0 (.arr 0 [])))).getD 0 .dead)) (mlenOf ((partsOf (valR (M.rows.getD 3 (.arr 0 [])))).getD 0 .dead)) (intOf ((partsOf (valR (M.rows.getD 4 (.arr 0 [])))).getD 0 .dead)) (intOf ((partsOf (valR (M.rows.getD 4 (.arr 0 [])))).getD 1 .dead)) (intOf ((partsOf (valR (M.rows.getD 4 (.arr 0 [])))).getD 2 .dead)) (mlenOf ((partsOf (valR (M.rows.getD 5 (.arr 0 [])))).getD 0 .dead)) (intOf ((partsOf (valR (M.rows.getD 6 (.arr 0 [])))).getD 0 .dead)) (intOf ((partsOf (valR (M.rows.getD 6 (.arr 0 [])))).getD 1 .dead)) (intOf ((partsOf (valR (M.rows.getD 6 (.arr 0 [])))).getD 2 .dead)) (mlenOf ((partsOf (valR (M.rows.getD 7 (.arr 0 [])))).getD 0 .dead)) ((intOf (fr.tmps.getD 1 .dead)), (listOf (fr.tmps.getD 2 .dead)), (listR (M.rows.getD 2 (.arr 0 [])))) := by kernel_rfl
set_option maxRecDepth 100000 in
theorem e2_memory_draft_put_1 (fr : Fr) (M : Mm) : pt_memory_draft_put_1.mm M = sM_memory_draft_put_1 (listOf ((partsOf (valR (M.rows.getD 0 (.arr 0 [])))).getD 0 .dead)) (mlenOf ((partsOf (valR (M.rows.getD 3 (.arr 0 [])))).getD 0 .dead)) (intOf ((partsOf (valR (M.rows.getD 4 (.arr 0 [])))).getD 0 .dead)) (intOf ((partsOf (valR (M.rows.getD 4 (.arr 0 [])))).getD 1 .dead)) (intOf ((partsOf (valR (M.rows.getD 4 (.arr 0 [])))).getD 2 .dead)) (mlenOf ((partsOf (valR (M.rows.getD 5 (.arr 0 [])))).getD 0 .dead)) (intOf ((partsOf (valR (M.rows.getD 6 (.arr 0 [])))).getD 0 .dead)) (intOf ((partsOf (valR (M.rows.getD 6 (.arr 0 [])))).getD 1 .dead)) (intOf ((partsOf (valR (M.rows.getD 6 (.arr 0 [])))).getD 2 .dead)) (mlenOf ((partsOf (valR (M.rows.getD 7 (.arr 0 [])))).getD 0 .dead)) ((intOf (fr.tmps.getD 1 .dead)), (listOf (fr.tmps.getD 2 .dead)), (listR (M.rows.getD 2 (.arr 0 [])))) := by kernel_rfl
set_option maxRecDepth 100000 in
theorem ok_memory_draft_put_1 (F : Tab) {dep : Nat} {fr : Fr} {M : Mm} {t : LT} (ht : lp_memory_draft_put_1 F dep fr M = some t) {R : Type} (K : AX → Fr → Mm → Option R) (r : R) (hgo : t.go K = some r) :
    iter 100000 (fun fr' M' k => evC (cx F) 121 (evF (cx F) dep) dep code_memory_draft_put_1 fr' M' (roundK Pg [] M.rows.length (some ([1, 2, 3], [])) K k)) fr M = some r := by
  unfold lp_memory_draft_put_1 at ht
  split at ht
  · rename_i hok
    obtain ⟨h1, h2⟩ := StP.ok_eq hok
    obtain rfl := Option.some.inj ht
    exact ok_of (X := fun fr M => iter 100000 (fun fr' M' k => evC (cx F) 121 (evF (cx F) dep) dep code_memory_draft_put_1 fr' M' (roundK Pg [] M.rows.length (some ([1, 2, 3], [])) K k)) fr M) (h1.trans (e1_memory_draft_put_1 fr M)) (h2.trans (e2_memory_draft_put_1 fr M)) (it_memory_draft_put_1 F _ _ K (listOf ((partsOf (valR (M.rows.getD 0 (.arr 0 [])))).getD 0 .dead)) (mlenOf ((partsOf (valR (M.rows.getD 3 (.arr 0 [])))).getD 0 .dead)) (intOf ((partsOf (valR (M.rows.getD 4 (.arr 0 [])))).getD 0 .dead)) (intOf ((partsOf (valR (M.rows.getD 4 (.arr 0 [])))).getD 1 .dead)) (intOf ((partsOf (valR (M.rows.getD 4 (.arr 0 [])))).getD 2 .dead)) (mlenOf ((partsOf (valR (M.rows.getD 5 (.arr 0 [])))).getD 0 .dead)) (intOf ((partsOf (valR (M.rows.getD 6 (.arr 0 [])))).getD 0 .dead)) (intOf ((partsOf (valR (M.rows.getD 6 (.arr 0 [])))).getD 1 .dead)) (intOf ((partsOf (valR (M.rows.getD 6 (.arr 0 [])))).getD 2 .dead)) (mlenOf ((partsOf (valR (M.rows.getD 7 (.arr 0 [])))).getD 0 .dead)) 100000 ((intOf (fr.tmps.getD 1 .dead)), (listOf (fr.tmps.getD 2 .dead)), (listR (M.rows.getD 2 (.arr 0 []))))) hgo
  · exact absurd ht (by simp)
set_option maxRecDepth 100000 in
theorem at_memory_draft_put_1 : (Try.f121.body.bind fun c => loopAt c 1) = some code_memory_draft_put_1 := by kernel_rfl
theorem bad_memory_Apply_4 {R : Type} (n0 : Nat) (l0 : List AV) (i0 : Int) (l1 : List AV) (n1 : Nat) (K : AX → Fr → Mm → Option R) : (lt_memory_Apply_4 n0 l0 i0 l1 n1 LO.bad).go K = none := by kernel_rfl
noncomputable def code_memory_Apply_4 : Code := ((Try.f24.body.bind fun c => loopAt c 4).getD .skip)
set_option maxRecDepth 100000 in
theorem rd_memory_Apply_4 (F : Tab) {R : Type} (K : AX → Fr → Mm → Option R) (kk : Fr → Mm → Option R) (n0 : Nat) (l0 : List AV) (i0 : Int) (l1 : List AV) (n1 : Nat) (s : Int × List AV) :
    evC (cx F) 24 (evF (cx F) 5) 5 code_memory_Apply_4 (sF_memory_Apply_4 n0 l0 i0 l1 n1 s) (sM_memory_Apply_4 n0 l0 i0 l1 n1 s) (roundK Pg [] 4 (some ([2, 4, 6, 7, 16, 17, 18], [4, 5, 6])) K kk) =
    (st_memory_Apply_4 F n0 l0 i0 l1 n1 s).go (lt_memory_Apply_4 n0 l0 i0 l1 n1) K (fun s => kk (sF_memory_Apply_4 n0 l0 i0 l1 n1 s) (sM_memory_Apply_4 n0 l0 i0 l1 n1 s)) := by kernel_rfl
set_option maxRecDepth 100000 in
theorem it_memory_Apply_4 (F : Tab) {R : Type} (K : AX → Fr → Mm → Option R) (n0 : Nat) (l0 : List AV) (i0 : Int) (l1 : List AV) (n1 : Nat) (fuel : Nat) (s : Int × List AV) :
    iter fuel (fun fr M' k => evC (cx F) 24 (evF (cx F) 5) 5 code_memory_Apply_4 fr M' (roundK Pg [] 4 (some ([2, 4, 6, 7, 16, 17, 18], [4, 5, 6])) K k)) (sF_memory_Apply_4 n0 l0 i0 l1 n1 s) (sM_memory_Apply_4 n0 l0 i0 l1 n1 s) = (lt_memory_Apply_4 n0 l0 i0 l1 n1 (Tr.run (st_memory_Apply_4 F n0 l0 i0 l1 n1) fuel s)).go K :=
  iter_tr (B := fun fr M' k => evC (cx F) 24 (evF (cx F) 5) 5 code_memory_Apply_4 fr M' (roundK Pg [] 4 (some ([2, 4, 6, 7, 16, 17, 18], [4, 5, 6])) K k)) (step := st_memory_Apply_4 F n0 l0 i0 l1 n1) (lt := lt_memory_Apply_4 n0 l0 i0 l1 n1) (sF := sF_memory_Apply_4 n0 l0 i0 l1 n1) (sM := sM_memory_Apply_4 n0 l0 i0 l1 n1) (K := K) (bad_memory_Apply_4 n0 l0 i0 l1 n1 K) (fun s kk => rd_memory_Apply_4 F K kk n0 l0 i0 l1 n1 s) fuel s
set_option maxRecDepth 100000 in
theorem e1_memory_Apply_4 (fr : Fr) (M : Mm) : pt_memory_Apply_4.fr fr = sF_memory_Apply_4 (mlenOf ((partsOf ((firstOf (fr.tmps.getD 7 .dead)).getD 0 .dead)).getD 0 .dead)) (listOf (fr.tmps.getD 16 .dead)) (intOf (fr.tmps.getD 17 .dead)) (listOf ((partsOf (valR (M.rows.getD 0 (.arr 0 [])))).getD 0 .dead)) (mlenOf ((partsOf (valR (M.rows.getD 3 (.arr 0 [])))).getD 0 .dead)) ((intOf (fr.tmps.getD 18 .dead)), (listR (M.rows.getD 2 (.arr 0 [])))) := by kernel_rfl
set_option maxRecDepth 100000 in
theorem e2_memory_Apply_4 (fr : Fr) (M : Mm) : pt_memory_Apply_4.mm M = sM_memory_Apply_4 (mlenOf ((partsOf ((firstOf (fr.tmps.getD 7 .dead)).getD 0 .dead)).getD 0 .dead)) (listOf (fr.tmps.getD 16 .dead)) (intOf (fr.tmps.getD 17 .dead)) (listOf ((partsOf (valR (M.rows.getD 0 (.arr 0 [])))).getD 0 .dead)) (mlenOf ((partsOf (valR (M.rows.getD 3 (.arr 0 [])))).getD 0 .dead)) ((intOf (fr.tmps.getD 18 .dead)), (listR (M.rows.getD 2 (.arr 0 [])))) := by kernel_rfl
set_option maxRecDepth 100000 in
theorem ok_memory_Apply_4 (F : Tab) {dep : Nat} {fr : Fr} {M : Mm} {t : LT} (ht : lp_memory_Apply_4 F dep fr M = some t) {R : Type} (K : AX → Fr → Mm → Option R) (r : R) (hgo : t.go K = some r) :
    iter 100000 (fun fr' M' k => evC (cx F) 24 (evF (cx F) dep) dep code_memory_Apply_4 fr' M' (roundK Pg [] M.rows.length (some ([2, 4, 6, 7, 16, 17, 18], [4, 5, 6])) K k)) fr M = some r := by
  unfold lp_memory_Apply_4 at ht
  split at ht
  · rename_i hok
    simp only [Bool.and_eq_true, Nat.beq_eq] at hok
    obtain ⟨rfl, hok⟩ := hok
    obtain ⟨h1, h2⟩ := StP.ok_eq hok
    obtain rfl := Option.some.inj ht
    exact ok_of (X := fun fr M => iter 100000 (fun fr' M' k => evC (cx F) 24 (evF (cx F) 5) 5 code_memory_Apply_4 fr' M' (roundK Pg [] M.rows.length (some ([2, 4, 6, 7, 16, 17, 18], [4, 5, 6])) K k)) fr M) (h1.trans (e1_memory_Apply_4 fr M)) (h2.trans (e2_memory_Apply_4 fr M)) (it_memory_Apply_4 F K (mlenOf ((partsOf ((firstOf (fr.tmps.getD 7 .dead)).getD 0 .dead)).getD 0 .dead)) (listOf (fr.tmps.getD 16 .dead)) (intOf (fr.tmps.getD 17 .dead)) (listOf ((partsOf (valR (M.rows.getD 0 (.arr 0 [])))).getD 0 .dead)) (mlenOf ((partsOf (valR (M.rows.getD 3 (.arr 0 [])))).getD 0 .dead)) 100000 ((intOf (fr.tmps.getD 18 .dead)), (listR (M.rows.getD 2 (.arr 0 []))))) hgo
  · exact absurd ht (by simp)
set_option maxRecDepth 100000 in
theorem at_memory_Apply_4 : (Try.f24.body.bind fun c => loopAt c 4) = some code_memory_Apply_4 := by kernel_rfl
theorem bad_memory_draft_put_1a {R : Type} (l1 : List AV) (n0 n1 : Nat) (K : AX → Fr → Mm → Option R) : (lt_memory_draft_put_1a l1 n0 n1 LO.bad).go K = none := by kernel_rfl
noncomputable def code_memory_draft_put_1a : Code := ((Try.f121.body.bind fun c => loopAt c 1).getD .skip)
set_option maxRecDepth 100000 in
theorem rd_memory_draft_put_1a (F : Tab) {R : Type} (call : CallH R) (dep : Nat) (K : AX → Fr → Mm → Option R) (kk : Fr → Mm → Option R) (l1 : List AV) (n0 n1 : Nat) (s : Int × List AV × List AV) :
    evC (cx F) 121 call dep code_memory_draft_put_1a (sF_memory_draft_put_1a l1 n0 n1 s) (sM_memory_draft_put_1a l1 n0 n1 s) (roundK Pg [] 5 (some ([1, 2, 3], [])) K kk) =
    (st_memory_draft_put_1a F l1 n0 n1 s).go (lt_memory_draft_put_1a l1 n0 n1) K (fun s => kk (sF_memory_draft_put_1a l1 n0 n1 s) (sM_memory_draft_put_1a l1 n0 n1 s)) := by kernel_rfl
set_option maxRecDepth 100000 in
theorem it_memory_draft_put_1a (F : Tab) {R : Type} (call : CallH R) (dep : Nat) (K : AX → Fr → Mm → Option R) (l1 : List AV) (n0 n1 : Nat) (fuel : Nat) (s : Int × List AV × List AV) :
    iter fuel (fun fr M' k => evC (cx F) 121 call dep code_memory_draft_put_1a fr M' (roundK Pg [] 5 (some ([1, 2, 3], [])) K k)) (sF_memory_draft_put_1a l1 n0 n1 s) (sM_memory_draft_put_1a l1 n0 n1 s) = (lt_memory_draft_put_1a l1 n0 n1 (Tr.run (st_memory_draft_put_1a F l1 n0 n1) fuel s)).go K :=
  iter_tr (B := fun fr M' k => evC (cx F) 121 call dep code_memory_draft_put_1a fr M' (roundK Pg [] 5 (some ([1, 2, 3], [])) K k)) (step := st_memory_draft_put_1a F l1 n0 n1) (lt := lt_memory_draft_put_1a l1 n0 n1) (sF := sF_memory_draft_put_1a l1 n0 n1) (sM := sM_memory_draft_put_1a l1 n0 n1) (K := K) (bad_memory_draft_put_1a l1 n0 n1 K) (fun s kk => rd_memory_draft_put_1a F call dep K kk l1 n0 n1 s) fuel s
set_option maxRecDepth 100000 in
theorem e1_memory_draft_put_1a (fr : Fr) (M : Mm) : pt_memory_draft_put_1a.fr fr = sF_memory_draft_put_1a (listOf ((partsOf (valR (M.rows.getD 0 (.arr 0 [])))).getD 0 .dead)) (mlenOf ((partsOf (valR (M.rows.getD 3 (.arr 0 [])))).getD 0 .dead)) (mlenOf ((partsOf (valR (M.rows.getD 4 (.arr 0 [])))).getD 0 .dead)) ((intOf (fr.tmps.getD 1 .dead)), (listOf (fr.tmps.getD 2 .dead)), (listR (M.rows.getD 2 (.arr 0 [])))) := by kernel_rfl
set_option maxRecDepth 100000 in
theorem e2_memory_draft_put_1a (fr : Fr) (M : Mm) : pt_memory_draft_put_1a.mm M = sM_memory_draft_put_1a (listOf ((partsOf (valR (M.rows.getD 0 (.arr 0 [])))).getD 0 .dead)) (mlenOf ((partsOf (valR (M.rows.getD 3 (.arr 0 [])))).getD 0 .dead)) (mlenOf ((partsOf (valR (M.rows.getD 4 (.arr 0 [])))).getD 0 .dead)) ((intOf (fr.tmps.getD 1 .dead)), (listOf (fr.tmps.getD 2 .dead)), (listR (M.rows.getD 2 (.arr 0 [])))) := by kernel_rfl
set_option maxRecDepth 100000 in
theorem ok_memory_draft_put_1a (F : Tab) {dep : Nat} {fr : Fr} {M : Mm} {t : LT} (ht : lp_memory_draft_put_1a F dep fr M = some t) {R : Type} (K : AX → Fr → Mm → Option R) (r : R) (hgo : t.go K = some r) :
    iter 100000 (fun fr' M' k => evC (cx F) 121 (evF (cx F) dep) dep code_memory_draft_put_1a fr' M' (roundK Pg [] M.rows.length (some ([1, 2, 3], [])) K k)) fr M = some r := by
  unfold lp_memory_draft_put_1a at ht
  split at ht
  · rename_i hok
    obtain ⟨h1, h2⟩ := StP.ok_eq hok
    obtain rfl := Option.some.inj ht
    exact ok_of (X := fun fr M => iter 100000 (fun fr' M' k => evC (cx F) 121 (evF (cx F) dep) dep code_memory_draft_put_1a fr' M' (roundK Pg [] M.rows.length (some ([1, 2, 3], [])) K k)) fr M) (h1.trans (e1_memory_draft_put_1a fr M)) (h2.trans (e2_memory_draft_put_1a fr M)) (it_memory_draft_put_1a F _ _ K (listOf ((partsOf (valR (M.rows.getD 0 (.arr 0 [])))).getD 0 .dead)) (mlenOf ((partsOf (valR (M.rows.getD 3 (.arr 0 [])))).getD 0 .dead)) (mlenOf ((partsOf (valR (M.rows.getD 4 (.arr 0 [])))).getD 0 .dead)) 100000 ((intOf (fr.tmps.getD 1 .dead)), (listOf (fr.tmps.getD 2 .dead)), (listR (M.rows.getD 2 (.arr 0 []))))) hgo
  · exact absurd ht (by simp)
set_option maxRecDepth 100000 in
theorem at_memory_draft_put_1a : (Try.f121.body.bind fun c => loopAt c 1) = some code_memory_draft_put_1a := by kernel_rfl
theorem bad_ref25_Valid_4 {R : Type} (l0 : List AV) (K : AX → Fr → Mm → Option R) : (lt_ref25_Valid_4 l0 LO.bad).go K = none := by kernel_rfl
noncomputable def code_ref25_Valid_4 : Code := ((Try.f35.body.bind fun c => loopAt c 4).getD .skip)
set_option maxRecDepth 100000 in
theorem rd_ref25_Valid_4 (F : Tab) {R : Type} (call : CallH R) (dep : Nat) (K : AX → Fr → Mm → Option R) (kk : Fr → Mm → Option R) (l0 : List AV) (s : Int) :
    evC (cx F) 35 call dep code_ref25_Valid_4 (sF_ref25_Valid_4 l0 s) (sM_ref25_Valid_4 l0 s) (roundK Pg [] 1 (some ([1, 3], [2])) K kk) =
    (st_ref25_Valid_4 F l0 s).go (lt_ref25_Valid_4 l0) K (fun s => kk (sF_ref25_Valid_4 l0 s) (sM_ref25_Valid_4 l0 s)) := by kernel_rfl
set_option maxRecDepth 100000 in
theorem it_ref25_Valid_4 (F : Tab) {R : Type} (call : CallH R) (dep : Nat) (K : AX → Fr → Mm → Option R) (l0 : List AV) (fuel : Nat) (s : Int) :
    iter fuel (fun fr M' k => evC (cx F) 35 call dep code_ref25_Valid_4 fr M' (roundK Pg [] 1 (some ([1, 3], [2])) K k)) (sF_ref25_Valid_4 l0 s) (sM_ref25_Valid_4 l0 s) = (lt_ref25_Valid_4 l0 (Tr.run (st_ref25_Valid_4 F l0) fuel s)).go K :=
  iter_tr (B := fun fr M' k => evC (cx F) 35 call dep code_ref25_Valid_4 fr M' (roundK Pg [] 1 (some ([1, 3], [2])) K k)) (step := st_ref25_Valid_4 F l0) (lt := lt_ref25_Valid_4 l0) (sF := sF_ref25_Valid_4 l0) (sM := sM_ref25_Valid_4 l0) (K := K) (bad_ref25_Valid_4 l0 K) (fun s kk => rd_ref25_Valid_4 F call dep K kk l0 s) fuel s
set_option maxRecDepth 100000 in
theorem e1_ref25_Valid_4 (fr : Fr) (M : Mm) : pt_ref25_Valid_4.fr fr = sF_ref25_Valid_4 (listOf ((partsOf (valR (M.rows.getD 0 (.arr 0 [])))).getD 0 .dead)) ((intOf (fr.tmps.getD 3 .dead))) := by kernel_rfl
set_option maxRecDepth 100000 in
theorem e2_ref25_Valid_4 (fr : Fr) (M : Mm) : pt_ref25_Valid_4.mm M = sM_ref25_Valid_4 (listOf ((partsOf (valR (M.rows.getD 0 (.arr 0 [])))).getD 0 .dead)) ((intOf (fr.tmps.getD 3 .dead))) := by kernel_rfl
set_option maxRecDepth 100000 in
theorem ok_ref25_Valid_4 (F : Tab) {dep : Nat} {fr : Fr} {M : Mm} {t : LT} (ht : lp_ref25_Valid_4 F dep fr M = some t) {R : Type} (K : AX → Fr → Mm → Option R) (r : R) (hgo : t.go K = some r) :
    iter 100000 (fun fr' M' k => evC (cx F) 35 (evF (cx F) dep) dep code_ref25_Valid_4 fr' M' (roundK Pg [] M.rows.length (some ([1, 3], [2])) K k)) fr M = some r := by
  unfold lp_ref25_Valid_4 at ht
  split at ht
  · rename_i hok
    obtain ⟨h1, h2⟩ := StP.ok_eq hok
    obtain rfl := Option.some.inj ht
    exact ok_of (X := fun fr M => iter 100000 (fun fr' M' k => evC (cx F) 35 (evF (cx F) dep) dep code_ref25_Valid_4 fr' M' (roundK Pg [] M.rows.length (some ([1, 3], [2])) K k)) fr M) (h1.trans (e1_ref25_Valid_4 fr M)) (h2.trans (e2_ref25_Valid_4 fr M)) (it_ref25_Valid_4 F _ _ K (listOf ((partsOf (valR (M.rows.getD 0 (.arr 0 [])))).getD 0 .dead)) 100000 ((intOf (fr.tmps.getD 3 .dead)))) hgo
  · exact absurd ht (by simp)
set_option maxRecDepth 100000 in
theorem at_ref25_Valid_4 : (Try.f35.body.bind fun c => loopAt c 4) = some code_ref25_Valid_4 := by kernel_rfl
theorem bad_ref25_Right_4 {R : Type} (i1 i2 i3 i4 i5 : Int) (l0 : List AV) (K : AX → Fr → Mm → Option R) : (lt_ref25_Right_4 i1 i2 i3 i4 i5 l0 LO.bad).go K = none := by kernel_rfl
noncomputable def code_ref25_Right_4 : Code := ((Try.f36.body.bind fun c => loopAt c 4).getD .skip)
set_option maxRecDepth 100000 in
theorem rd_ref25_Right_4 (F : Tab) {R : Type} (call : CallH R) (dep : Nat) (K : AX → Fr → Mm → Option R) (kk : Fr → Mm → Option R) (i1 i2 i3 i4 i5 : Int) (l0 : List AV) (s : Int) :
    evC (cx F) 36 call dep code_ref25_Right_4 (sF_ref25_Right_4 i1 i2 i3 i4 i5 l0 s) (sM_ref25_Right_4 i1 i2 i3 i4 i5 l0 s) (roundK Pg [] 1 (some ([1, 3], [2])) K kk) =
    (st_ref25_Right_4 F i1 i2 i3 i4 i5 l0 s).go (lt_ref25_Right_4 i1 i2 i3 i4 i5 l0) K (fun s => kk (sF_ref25_Right_4 i1 i2 i3 i4 i5 l0 s) (sM_ref25_Right_4 i1 i2 i3 i4 i5 l0 s)) := by kernel_rfl
set_option maxRecDepth 100000 in
theorem it_ref25_Right_4 (F : Tab) {R : Type} (call : CallH R) (dep : Nat) (K : AX → Fr → Mm → Option R) (i1 i2 i3 i4 i5 : Int) (l0 : List AV) (fuel : Nat) (s : Int) :
    iter fuel (fun fr M' k => evC (cx F) 36 call dep code_ref25_Right_4 fr M' (roundK Pg [] 1 (some ([1, 3], [2])) K k)) (sF_ref25_Right_4 i1 i2 i3 i4 i5 l0 s) (sM_ref25_Right_4 i1 i2 i3 i4 i5 l0 s) = (lt_ref25_Right_4 i1 i2 i3 i4 i5 l0 (Tr.run (st_ref25_Right_4 F i1 i2 i3 i4 i5 l0) fuel s)).go K :=
  iter_tr (B := fun fr M' k => evC (cx F) 36 call dep code_ref25_Right_4 fr M' (roundK Pg [] 1 (some ([1, 3], [2])) K k)) (step := st_ref25_Right_4 F i1 i2 i3 i4 i5 l0) (lt := lt_ref25_Right_4 i1 i2 i3 i4 i5 l0) (sF := sF_ref25_Right_4 i1 i2 i3 i4 i5 l0) (sM := sM_ref25_Right_4 i1 i2 i3 i4 i5 l0) (K := K) (bad_ref25_Right_4 i1 i2 i3 i4 i5 l0 K) (fun s kk => rd_ref25_Right_4 F call dep K kk i1 i2 i3 i4 i5 l0 s) fuel s
set_option maxRecDepth 100000 in
theorem e1_ref25_Right_4 (fr : Fr) (M : Mm) : pt_ref25_Right_4.fr fr = sF_ref25_Right_4 (intOf ((partsOf (valR (M.rows.getD 0 (.arr 0 [])))).getD 0 .dead)) (intOf ((partsOf (valR (M.rows.getD 0 (.arr 0 [])))).getD 1 .dead)) (intOf ((partsOf (valR (M.rows.getD 0 (.arr 0 [])))).getD 2 .dead)) (intOf ((partsOf (valR (M.rows.getD 0 (.arr 0 [])))).getD 3 .dead)) (intOf ((partsOf (valR (M.rows.getD 0 (.arr 0 [])))).getD 4 .dead)) (listOf ((partsOf (valR (M.rows.getD 0 (.arr 0 [])))).getD 5 .dead)) ((intOf (fr.tmps.getD 3 .dead))) := by kernel_rfl
set_option maxRecDepth 100000 in
theorem e2_ref25_Right_4 (fr : Fr) (M : Mm) : pt_ref25_Right_4.mm M = sM_ref25_Right_4 (intOf ((partsOf (valR (M.rows.getD 0 (.arr 0 [])))).getD 0 .dead)) (intOf ((partsOf (valR (M.rows.getD 0 (.arr 0 [])))).getD 1 .dead)) (intOf ((partsOf (valR (M.rows.getD 0 (.arr 0 [])))).getD 2 .dead)) (intOf ((partsOf (valR (M.rows.getD 0 (.arr 0 [])))).getD 3 .dead)) (intOf ((partsOf (valR (M.rows.getD 0 (.arr 0 [])))).getD 4 .dead)) (listOf ((partsOf (valR (M.rows.getD 0 (.arr 0 [])))).getD 5 .dead)) ((intOf (fr.tmps.getD 3 .dead))) := by kernel_rfl
set_option maxRecDepth 100000 in
theorem ok_ref25_Right_4 (F : Tab) {dep : Nat} {fr : Fr} {M : Mm} {t : LT} (ht : lp_ref25_Right_4 F dep fr M = some t) {R : Type} (K : AX → Fr → Mm → Option R) (r : R) (hgo : t.go K = some r) :
    iter 100000 (fun fr' M' k => evC (cx F) 36 (evF (cx F) dep) dep code_ref25_Right_4 fr' M' (roundK Pg [] M.rows.length (some ([1, 3], [2])) K k)) fr M = some r := by
  unfold lp_ref25_Right_4 at ht
  split at ht
  · rename_i hok
    obtain ⟨h1, h2⟩ := StP.ok_eq hok
    obtain rfl := Option.some.inj ht
    exact ok_of (X := fun fr M => iter 100000 (fun fr' M' k => evC (cx F) 36 (evF (cx F) dep) dep code_ref25_Right_4 fr' M' (roundK Pg [] M.rows.length (some ([1, 3], [2])) K k)) fr M) (h1.trans (e1_ref25_Right_4 fr M)) (h2.trans (e2_ref25_Right_4 fr M)) (it_ref25_Right_4 F _ _ K (intOf ((partsOf (valR (M.rows.getD 0 (.arr 0 [])))).getD 0 .dead)) (intOf ((partsOf (valR (M.rows.getD 0 (.arr 0 [])))).getD 1 .dead)) (intOf ((partsOf (valR (M.rows.getD 0 (.arr 0 [])))).getD 2 .dead)) (intOf ((partsOf (valR (M.rows.getD 0 (.arr 0 [])))).getD 3 .dead)) (intOf ((partsOf (valR (M.rows.getD 0 (.arr 0 [])))).getD 4 .dead)) (listOf ((partsOf (valR (M.rows.getD 0 (.arr 0 [])))).getD 5 .dead)) 100000 ((intOf (fr.tmps.getD 3 .dead)))) hgo
  · exact absurd ht (by simp)
set_option maxRecDepth 100000 in
theorem at_ref25_Right_4 : (Try.f36.body.bind fun c => loopAt c 4) = some code_ref25_Right_4 := by kernel_rfl
theorem bad_tlb_keep_api_Trans_3 {R : Type} (l1 : List AV) (i0 : Int) (l2 : List AV) (i2 i3 i4 i5 i6 : Int) (l3 : List AV) (K : AX → Fr → Mm → Option R) : (lt_tlb_keep_api_Trans_3 l1 i0 l2 i2 i3 i4 i5 i6 l3 LO.bad).go K = none := by kernel_rfl
noncomputable def code_tlb_keep_api_Trans_3 : Code := ((Try.f94.body.bind fun c => loopAt c 3).getD .skip)
set_option maxRecDepth 100000 in
theorem rd_tlb_keep_api_Trans_3 (F : Tab) {R : Type} (K : AX → Fr → Mm → Option R) (kk : Fr → Mm → Option R) (l1 : List AV) (i0 : Int) (l2 : List AV) (i2 i3 i4 i5 i6 : Int) (l3 : List AV) (s : List AV × Int) :
    evC (cx F) 94 (evF (cx F) 4) 4 code_tlb_keep_api_Trans_3 (sF_tlb_keep_api_Trans_3 l1 i0 l2 i2 i3 i4 i5 i6 l3 s) (sM_tlb_keep_api_Trans_3 l1 i0 l2 i2 i3 i4 i5 i6 l3 s) (roundK Pg [] 3 (some ([1, 5, 8, 9, 10], [5])) K kk) =
    (st_tlb_keep_api_Trans_3 F l1 i0 l2 i2 i3 i4 i5 i6 l3 s).go (lt_tlb_keep_api_Trans_3 l1 i0 l2 i2 i3 i4 i5 i6 l3) K (fun s => kk (sF_tlb_keep_api_Trans_3 l1 i0 l2 i2 i3 i4 i5 i6 l3 s) (sM_tlb_keep_api_Trans_3 l1 i0 l2 i2 i3 i4 i5 i6 l3 s)) := by kernel_rfl
set_option maxRecDepth 100000 in
theorem it_tlb_keep_api_Trans_3 (F : Tab) {R : Type} (K : AX → Fr → Mm → Option R) (l1 : List AV) (i0 : Int) (l2 : List AV) (i2 i3 i4 i5 i6 : Int) (l3 : List AV) (fuel : Nat) (s : List AV × Int) :
    iter fuel (fun fr M' k => evC (cx F) 94 (evF (cx F) 4) 4 code_tlb_keep_api_Trans_3 fr M' (roundK Pg [] 3 (some ([1, 5, 8, 9, 10], [5])) K k)) (sF_tlb_keep_api_Trans_3 l1 i0 l2 i2 i3 i4 i5 i6 l3 s) (sM_tlb_keep_api_Trans_3 l1 i0 l2 i2 i3 i4 i5 i6 l3 s) = (lt_tlb_keep_api_Trans_3 l1 i0 l2 i2 i3 i4 i5 i6 l3 (Tr.run (st_tlb_keep_api_Trans_3 F l1 i0 l2 i2 i3 i4 i5 i6 l3) fuel s)).go K :=
  iter_tr (B := fun fr M' k => evC (cx F) 94 (evF (cx F) 4) 4 code_tlb_keep_api_Trans_3 fr M' (roundK Pg [] 3 (some ([1, 5, 8, 9, 10], [5])) K k)) (step := st_tlb_keep_api_Trans_3 F l1 i0 l2 i2 i3 i4 i5 i6 l3) (lt := lt_tlb_keep_api_Trans_3 l1 i0 l2 i2 i3 i4 i5 i6 l3) (sF := sF_tlb_keep_api_Trans_3 l1 i0 l2 i2 i3 i4 i5 i6 l3) (sM := sM_tlb_keep_api_Trans_3 l1 i0 l2 i2 i3 i4 i5 i6 l3) (K := K) (bad_tlb_keep_api_Trans_3 l1 i0 l2 i2 i3 i4 i5 i6 l3 K) (fun s kk => rd_tlb_keep_api_Trans_3 F K kk l1 i0 l2 i2 i3 i4 i5 i6 l3 s) fuel s
set_option maxRecDepth 100000 in
theorem e1_tlb_keep_api_Trans_3 (fr : Fr) (M : Mm) : pt_tlb_keep_api_Trans_3.fr fr = sF_tlb_keep_api_Trans_3 (listOf (fr.tmps.getD 8 .dead)) (intOf (fr.tmps.getD 9 .dead)) (listOf ((partsOf (valR (M.rows.getD 0 (.arr 0 [])))).getD 0 .dead)) (intOf ((partsOf (valR (M.rows.getD 1 (.arr 0 [])))).getD 0 .dead)) (intOf ((partsOf (valR (M.rows.getD 1 (.arr 0 [])))).getD 1 .dead)) (intOf ((partsOf (valR (M.rows.getD 1 (.arr 0 [])))).getD 2 .dead)) (intOf ((partsOf (valR (M.rows.getD 1 (.arr 0 [])))).getD 3 .dead)) (intOf ((partsOf (valR (M.rows.getD 1 (.arr 0 [])))).getD 4 .dead)) (listOf ((partsOf (valR (M.rows.getD 1 (.arr 0 [])))).getD 5 .dead)) ((listOf (fr.tmps.getD 5 .dead)), (intOf (fr.tmps.getD 10 .dead))) := by kernel_rfl
set_option maxRecDepth 100000 in
theorem e2_tlb_keep_api_Trans_3 (fr : Fr) (M : Mm) : pt_tlb_keep_api_Trans_3.mm M = sM_tlb_keep_api_Trans_3 (listOf (fr.tmps.getD 8 .dead)) (intOf (fr.tmps.getD 9 .dead)) (listOf ((partsOf (valR (M.rows.getD 0 (.arr 0 [])))).getD 0 .dead)) (intOf ((partsOf (valR (M.rows.getD 1 (.arr 0 [])))).getD 0 .dead)) (intOf ((partsOf (valR (M.rows.getD 1 (.arr 0 [])))).getD 1 .dead)) (intOf ((partsOf (valR (M.rows.getD 1 (.arr 0 [])))).getD 2 .dead)) (intOf ((partsOf (valR (M.rows.getD 1 (.arr 0 [])))).getD 3 .dead)) (intOf ((partsOf (valR (M.rows.getD 1 (.arr 0 [])))).getD 4 .dead)) (listOf ((partsOf (valR (M.rows.getD 1 (.arr 0 [])))).getD 5 .dead)) ((listOf (fr.tmps.getD 5 .dead)), (intOf (fr.tmps.getD 10 .dead))) := by kernel_rfl
set_option maxRecDepth 100000 in
theorem ok_tlb_keep_api_Trans_3 (F : Tab) {dep : Nat} {fr : Fr} {M : Mm} {t : LT} (ht : lp_tlb_keep_api_Trans_3 F dep fr M = some t) {R : Type} (K : AX → Fr → Mm → Option R) (r : R) (hgo : t.go K = some r) :
    iter 100000 (fun fr' M' k => evC (cx F) 94 (evF (cx F) dep) dep code_tlb_keep_api_Trans_3 fr' M' (roundK Pg [] M.rows.length (some ([1, 5, 8, 9, 10], [5])) K k)) fr M = some r := by
  unfold lp_tlb_keep_api_Trans_3 at ht
  split at ht
  · rename_i hok
    simp only [Bool.and_eq_true, Nat.beq_eq] at hok
    obtain ⟨rfl, hok⟩ := hok
    obtain ⟨h1, h2⟩ := StP.ok_eq hok
    obtain rfl := Option.some.inj ht
    exact ok_of (X := fun fr M => iter 100000 (fun fr' M' k => evC (cx F) 94 (evF (cx F) 4) 4 code_tlb_keep_api_Trans_3 fr' M' (roundK Pg [] M.rows.length (some ([1, 5, 8, 9, 10], [5])) K k)) fr M) (h1.trans (e1_tlb_keep_api_Trans_3 fr M)) (h2.trans (e2_tlb_keep_api_Trans_3 fr M)) (it_tlb_keep_api_Trans_3 F K (listOf (fr.tmps.getD 8 .dead)) (intOf (fr.tmps.getD 9 .dead)) (listOf ((partsOf (valR (M.rows.getD 0 (.arr 0 [])))).getD 0 .dead)) (intOf ((partsOf (valR (M.rows.getD 1 (.arr 0 [])))).getD 0 .dead)) (intOf ((partsOf (valR (M.rows.getD 1 (.arr 0 [])))).getD 1 .dead)) (intOf ((partsOf (valR (M.rows.getD 1 (.arr 0 [])))).getD 2 .dead)) (intOf ((partsOf (valR (M.rows.getD 1 (.arr 0 [])))).getD 3 .dead)) (intOf ((partsOf (valR (M.rows.getD 1 (.arr 0 [])))).getD 4 .dead)) (listOf ((partsOf (valR (M.rows.getD 1 (.arr 0 [])))).getD 5 .dead)) 100000 ((listOf (fr.tmps.getD 5 .dead)), (intOf (fr.tmps.getD 10 .dead)))) hgo
  · exact absurd ht (by simp)
set_option maxRecDepth 100000 in
theorem at_tlb_keep_api_Trans_3 : (Try.f94.body.bind fun c => loopAt c 3) = some code_tlb_keep_api_Trans_3 := by kernel_rfl
theorem bad_tlb_keep_api_Trans_3a {R : Type} (l1 : List AV) (i0 : Int) (l2 : List AV) (i2 i3 i4 i5 i6 : Int) (l3 : List AV) (K : AX → Fr → Mm → Option R) : (lt_tlb_keep_api_Trans_3a l1 i0 l2 i2 i3 i4 i5 i6 l3 LO.bad).go K = none := by kernel_rfl
noncomputable def code_tlb_keep_api_Trans_3a : Code := ((Try.f94.body.bind fun c => loopAt c 3).getD .skip)
set_option maxRecDepth 100000 in
theorem rd_tlb_keep_api_Trans_3a (F : Tab) {R : Type} (K : AX → Fr → Mm → Option R) (kk : Fr → Mm → Option R) (l1 : List AV) (i0 : Int) (l2 : List AV) (i2 i3 i4 i5 i6 : Int) (l3 : List AV) (s : List AV × Int) :
    evC (cx F) 94 (evF (cx F) 4) 4 code_tlb_keep_api_Trans_3a (sF_tlb_keep_api_Trans_3a l1 i0 l2 i2 i3 i4 i5 i6 l3 s) (sM_tlb_keep_api_Trans_3a l1 i0 l2 i2 i3 i4 i5 i6 l3 s) (roundK Pg [] 2 (some ([1, 5, 8, 9, 10], [5])) K kk) =
    (st_tlb_keep_api_Trans_3a F l1 i0 l2 i2 i3 i4 i5 i6 l3 s).go (lt_tlb_keep_api_Trans_3a l1 i0 l2 i2 i3 i4 i5 i6 l3) K (fun s => kk (sF_tlb_keep_api_Trans_3a l1 i0 l2 i2 i3 i4 i5 i6 l3 s) (sM_tlb_keep_api_Trans_3a l1 i0 l2 i2 i3 i4 i5 i6 l3 s)) := by kernel_rfl
set_option maxRecDepth 100000 in
theorem it_tlb_keep_api_Trans_3a (F : Tab) {R : Type} (K : AX → Fr → Mm → Option R) (l1 : List AV) (i0 : Int) (l2 : List AV) (i2 i3 i4 i5 i6 : Int) (l3 : List AV) (fuel : Nat) (s : List AV × Int) :
    iter fuel (fun fr M' k => evC (cx F) 94 (evF (cx F) 4) 4 code_tlb_keep_api_Trans_3a fr M' (roundK Pg [] 2 (some ([1, 5, 8, 9, 10], [5])) K k)) (sF_tlb_keep_api_Trans_3a l1 i0 l2 i2 i3 i4 i5 i6 l3 s) (sM_tlb_keep_api_Trans_3a l1 i0 l2 i2 i3 i4 i5 i6 l3 s) = (lt_tlb_keep_api_Trans_3a l1 i0 l2 i2 i3 i4 i5 i6 l3 (Tr.run (st_tlb_keep_api_Trans_3a F l1 i0 l2 i2 i3 i4 i5 i6 l3) fuel s)).go K :=
  iter_tr (B := fun fr M' k => evC (cx F) 94 (evF (cx F) 4) 4 code_tlb_keep_api_Trans_3a fr M' (roundK Pg [] 2 (some ([1, 5, 8, 9, 10], [5])) K k)) (step := st_tlb_keep_api_Trans_3a F l1 i0 l2 i2 i3 i4 i5 i6 l3) (lt := lt_tlb_keep_api_Trans_3a l1 i0 l2 i2 i3 i4 i5 i6 l3) (sF := sF_tlb_keep_api_Trans_3a l1 i0 l2 i2 i3 i4 i5 i6 l3) (sM := sM_tlb_keep_api_Trans_3a l1 i0 l2 i2 i3 i4 i5 i6 l3) (K := K) (bad_tlb_keep_api_Trans_3a l1 i0 l2 i2 i3 i4 i5 i6 l3 K) (fun s kk => rd_tlb_keep_api_Trans_3a F K kk l1 i0 l2 i2 i3 i4 i5 i6 l3 s) fuel s
set_option maxRecDepth 100000 in
theorem e1_tlb_keep_api_Trans_3a (fr : Fr) (M : Mm) : pt_tlb_keep_api_Trans_3a.fr fr = sF_tlb_keep_api_Trans_3a (listOf (fr.tmps.getD 8 .dead)) (intOf (fr.tmps.getD 9 .dead)) (listOf ((partsOf (valR (M.rows.getD 0 (.arr 0 [])))).getD 0 .dead)) (intOf ((partsOf (valR (M.rows.getD 1 (.arr 0 [])))).getD 0 .dead)) (intOf ((partsOf (valR (M.rows.getD 1 (.arr 0 [])))).getD 1 .dead)) (intOf ((partsOf (valR (M.rows.getD 1 (.arr 0 [])))).getD 2 .dead)) (intOf ((partsOf (valR (M.rows.getD 1 (.arr 0 [])))).getD 3 .dead)) (intOf ((partsOf (valR (M.rows.getD 1 (.arr 0 [])))).getD 4 .dead)) (listOf ((partsOf (valR (M.rows.getD 1 (.arr 0 [])))).getD 5 .dead)) ((listOf (fr.tmps.getD 5 .dead)), (intOf (fr.tmps.getD 10 .dead))) := by kernel_rfl
set_option maxRecDepth 100000 in
theorem e2_tlb_keep_api_Trans_3a (fr : Fr) (M : Mm) : pt_tlb_keep_api_Trans_3a.mm M = sM_tlb_keep_api_Trans_3a (listOf (fr.tmps.getD 8 .dead)) (intOf (fr.tmps.getD 9 .dead)) (listOf ((partsOf (valR (M.rows.getD 0 (.arr 0 [])))).getD 0 .dead)) (intOf ((partsOf (valR (M.rows.getD 1 (.arr 0 [])))).getD 0 .dead)) (intOf ((partsOf (valR (M.rows.getD 1 (.arr 0 [])))).getD 1 .dead)) (intOf ((partsOf (valR (M.rows.getD 1 (.arr 0 [])))).getD 2 .dead)) (intOf ((partsOf (valR (M.rows.getD 1 (.arr 0 [])))).getD 3 .dead)) (intOf ((partsOf (valR (M.rows.getD 1 (.arr 0 [])))).getD 4 .dead)) (listOf ((partsOf (valR (M.rows.getD 1 (.arr 0 [])))).getD 5 .dead)) ((listOf (fr.tmps.getD 5 .dead)), (intOf (fr.tmps.getD 10 .dead))) := by kernel_rfl
set_option maxRecDepth 100000 in
theorem ok_tlb_keep_api_Trans_3a (F : Tab) {dep : Nat} {fr : Fr} {M : Mm} {t : LT} (ht : lp_tlb_keep_api_Trans_3a F dep fr M = some t) {R : Type} (K : AX → Fr → Mm → Option R) (r : R) (hgo : t.go K = some r) :
    iter 100000 (fun fr' M' k => evC (cx F) 94 (evF (cx F) dep) dep code_tlb_keep_api_Trans_3a fr' M' (roundK Pg [] M.rows.length (some ([1, 5, 8, 9, 10], [5])) K k)) fr M = some r := by
  unfold lp_tlb_keep_api_Trans_3a at ht
  split at ht
  · rename_i hok
    simp only [Bool.and_eq_true, Nat.beq_eq] at hok
    obtain ⟨rfl, hok⟩ := hok
    obtain ⟨h1, h2⟩ := StP.ok_eq hok
    obtain rfl := Option.some.inj ht
    exact ok_of (X := fun fr M => iter 100000 (fun fr' M' k => evC (cx F) 94 (evF (cx F) 4) 4 code_tlb_keep_api_Trans_3a fr' M' (roundK Pg [] M.rows.length (some ([1, 5, 8, 9, 10], [5])) K k)) fr M) (h1.trans (e1_tlb_keep_api_Trans_3a fr M)) (h2.trans (e2_tlb_keep_api_Trans_3a fr M)) (it_tlb_keep_api_Trans_3a F K (listOf (fr.tmps.getD 8 .dead)) (intOf (fr.tmps.getD 9 .dead)) (listOf ((partsOf (valR (M.rows.getD 0 (.arr 0 [])))).getD 0 .dead)) (intOf ((partsOf (valR (M.rows.getD 1 (.arr 0 [])))).getD 0 .dead)) (intOf ((partsOf (valR (M.rows.getD 1 (.arr 0 [])))).getD 1 .dead)) (intOf ((partsOf (valR (M.rows.getD 1 (.arr 0 [])))).getD 2 .dead)) (intOf ((partsOf (valR (M.rows.getD 1 (.arr 0 [])))).getD 3 .dead)) (intOf ((partsOf (valR (M.rows.getD 1 (.arr 0 [])))).getD 4 .dead)) (listOf ((partsOf (valR (M.rows.getD 1 (.arr 0 [])))).getD 5 .dead)) 100000 ((listOf (fr.tmps.getD 5 .dead)), (intOf (fr.tmps.getD 10 .dead)))) hgo
  · exact absurd ht (by simp)
set_option maxRecDepth 100000 in
theorem at_tlb_keep_api_Trans_3a : (Try.f94.body.bind fun c => loopAt c 3) = some code_tlb_keep_api_Trans_3a := by kernel_rfl
theorem bad_tlb_keep_api_Trans_3b {R : Type} (l1 : List AV) (i0 : Int) (l2 : List AV) (i2 : Int) (K : AX → Fr → Mm → Option R) : (lt_tlb_keep_api_Trans_3b l1 i0 l2 i2 LO.bad).go K = none := by kernel_rfl
noncomputable def code_tlb_keep_api_Trans_3b : Code := ((Try.f94.body.bind fun c => loopAt c 3).getD .skip)
set_option maxRecDepth 100000 in
theorem rd_tlb_keep_api_Trans_3b (F : Tab) {R : Type} (K : AX → Fr → Mm → Option R) (kk : Fr → Mm → Option R) (l1 : List AV) (i0 : Int) (l2 : List AV) (i2 : Int) (s : List AV × Int) :
    evC (cx F) 94 (evF (cx F) 4) 4 code_tlb_keep_api_Trans_3b (sF_tlb_keep_api_Trans_3b l1 i0 l2 i2 s) (sM_tlb_keep_api_Trans_3b l1 i0 l2 i2 s) (roundK Pg [] 3 (some ([1, 5, 8, 9, 10], [5])) K kk) =
    (st_tlb_keep_api_Trans_3b F l1 i0 l2 i2 s).go (lt_tlb_keep_api_Trans_3b l1 i0 l2 i2) K (fun s => kk (sF_tlb_keep_api_Trans_3b l1 i0 l2 i2 s) (sM_tlb_keep_api_Trans_3b l1 i0 l2 i2 s)) := by kernel_rfl
set_option maxRecDepth 100000 in
theorem it_tlb_keep_api_Trans_3b (F : Tab) {R : Type} (K : AX → Fr → Mm → Option R) (l1 : List AV) (i0 : Int) (l2 : List AV) (i2 : Int) (fuel : Nat) (s : List AV × Int) :
    iter fuel (fun fr M' k => evC (cx F) 94 (evF (cx F) 4) 4 code_tlb_keep_api_Trans_3b fr M' (roundK Pg [] 3 (some ([1, 5, 8, 9, 10], [5])) K k)) (sF_tlb_keep_api_Trans_3b l1 i0 l2 i2 s) (sM_tlb_keep_api_Trans_3b l1 i0 l2 i2 s) = (lt_tlb_keep_api_Trans_3b l1 i0 l2 i2 (Tr.run (st_tlb_keep_api_Trans_3b F l1 i0 l2 i2) fuel s)).go K :=
  iter_tr (B := fun fr M' k => evC (cx F) 94 (evF (cx F) 4) 4 code_tlb_keep_api_Trans_3b fr M' (roundK Pg [] 3 (some ([1, 5, 8, 9, 10], [5])) K k)) (step := st_tlb_keep_api_Trans_3b F l1 i0 l2 i2) (lt := lt_tlb_keep_api_Trans_3b l1 i0 l2 i2) (sF := sF_tlb_keep_api_Trans_3b l1 i0 l2 i2) (sM := sM_tlb_keep_api_Trans_3b l1 i0 l2 i2) (K := K) (bad_tlb_keep_api_Trans_3b l1 i0 l2 i2 K) (fun s kk => rd_tlb_keep_api_Trans_3b F K kk l1 i0 l2 i2 s) fuel s
set_option maxRecDepth 100000 in
theorem e1_tlb_keep_api_Trans_3b (fr : Fr) (M : Mm) : pt_tlb_keep_api_Trans_3b.fr fr = sF_tlb_keep_api_Trans_3b (listOf (fr.tmps.getD 8 .dead)) (intOf (fr.tmps.getD 9 .dead)) (listOf ((partsOf (valR (M.rows.getD 0 (.arr 0 [])))).getD 0 .dead)) (intOf (valR (M.rows.getD 1 (.arr 0 [])))) ((listOf (fr.tmps.getD 5 .dead)), (intOf (fr.tmps.getD 10 .dead))) := by kernel_rfl
set_option maxRecDepth 100000 in
theorem e2_tlb_keep_api_Trans_3b (fr : Fr) (M : Mm) : pt_tlb_keep_api_Trans_3b.mm M = sM_tlb_keep_api_Trans_3b (listOf (fr.tmps.getD 8 .dead)) (intOf (fr.tmps.getD 9 .dead)) (listOf ((partsOf (valR (M.rows.getD 0 (.arr 0 [])))).getD 0 .dead)) (intOf (valR (M.rows.getD 1 (.arr 0 [])))) ((listOf (fr.tmps.getD 5 .dead)), (intOf (fr.tmps.getD 10 .dead))) := by kernel_rfl
set_option maxRecDepth 100000 in
theorem ok_tlb_keep_api_Trans_3b (F : Tab) {dep : Nat} {fr : Fr} {M : Mm} {t : LT} (ht : lp_tlb_keep_api_Trans_3b F dep fr M = some t) {R : Type} (K : AX → Fr → Mm → Option R) (r : R) (hgo : t.go K = some r) :
    iter 100000 (fun fr' M' k => evC (cx F) 94 (evF (cx F) dep) dep code_tlb_keep_api_Trans_3b fr' M' (roundK Pg [] M.rows.length (some ([1, 5, 8, 9, 10], [5])) K k)) fr M = some r := by
  unfold lp_tlb_keep_api_Trans_3b at ht
  split at ht
  · rename_i hok
    simp only [Bool.and_eq_true, Nat.beq_eq] at hok
    obtain ⟨rfl, hok⟩ := hok
    obtain ⟨h1, h2⟩ := StP.ok_eq hok
    obtain rfl := Option.some.inj ht
    exact ok_of (X := fun fr M => iter 100000 (fun fr' M' k => evC (cx F) 94 (evF (cx F) 4) 4 code_tlb_keep_api_Trans_3b fr' M' (roundK Pg [] M.rows.length (some ([1, 5, 8, 9, 10], [5])) K k)) fr M) (h1.trans (e1_tlb_keep_api_Trans_3b fr M)) (h2.trans (e2_tlb_keep_api_Trans_3b fr M)) (it_tlb_keep_api_Trans_3b F K (listOf (fr.tmps.getD 8 .dead)) (intOf (fr.tmps.getD 9 .dead)) (listOf ((partsOf (valR (M.rows.getD 0 (.arr 0 [])))).getD 0 .dead)) (intOf (valR (M.rows.getD 1 (.arr 0 [])))) 100000 ((listOf (fr.tmps.getD 5 .dead)), (intOf (fr.tmps.getD 10 .dead)))) hgo
  · exact absurd ht (by simp)
set_option maxRecDepth 100000 in
theorem at_tlb_keep_api_Trans_3b : (Try.f94.body.bind fun c => loopAt c 3) = some code_tlb_keep_api_Trans_3b := by kernel_rfl
theorem bad_tlb_keep_api_Trans_3c {R : Type} (l1 : List AV) (i0 : Int) (l2 : List AV) (i2 i3 : Int) (K : AX → Fr → Mm → Option R) : (lt_tlb_keep_api_Trans_3c l1 i0 l2 i2 i3 LO.bad).go K = none := by kernel_rfl
noncomputable def code_tlb_keep_api_Trans_3c : Code := ((Try.f94.body.bind fun c => loopAt c 3).getD .skip)
set_option maxRecDepth 100000 in
theorem rd_tlb_keep_api_Trans_3c (F : Tab) {R : Type} (K : AX → Fr → Mm → Option R) (kk : Fr → Mm → Option R) (l1 : List AV) (i0 : Int) (l2 : List AV) (i2 i3 : Int) (s : List AV × Int) :
    evC (cx F) 94 (evF (cx F) 4) 4 code_tlb_keep_api_Trans_3c (sF_tlb_keep_api_Trans_3c l1 i0 l2 i2 i3 s) (sM_tlb_keep_api_Trans_3c l1 i0 l2 i2 i3 s) (roundK Pg [] 4 (some ([1, 5, 8, 9, 10], [5])) K kk) =
    (st_tlb_keep_api_Trans_3c F l1 i0 l2 i2 i3 s).go (lt_tlb_keep_api_Trans_3c l1 i0 l2 i2 i3) K (fun s => kk (sF_tlb_keep_api_Trans_3c l1 i0 l2 i2 i3 s) (sM_tlb_keep_api_Trans_3c l1 i0 l2 i2 i3 s)) := by kernel_rfl
set_option maxRecDepth 100000 in
theorem it_tlb_keep_api_Trans_3c (F : Tab) {R : Type} (K : AX → Fr → Mm → Option R) (l1 : List AV) (i0 : Int) (l2 : List AV) (i2 i3 : Int) (fuel : Nat) (s : List AV × Int) :
    iter fuel (fun fr M' k => evC (cx F) 94 (evF (cx F) 4) 4 code_tlb_keep_api_Trans_3c fr M' (roundK Pg [] 4 (some ([1, 5, 8, 9, 10], [5])) K k)) (sF_tlb_keep_api_Trans_3c l1 i0 l2 i2 i3 s) (sM_tlb_keep_api_Trans_3c l1 i0 l2 i2 i3 s) = (lt_tlb_keep_api_Trans_3c l1 i0 l2 i2 i3 (Tr.run (st_tlb_keep_api_Trans_3c F l1 i0 l2 i2 i3) fuel s)).go K :=
  iter_tr (B := fun fr M' k => evC (cx F) 94 (evF (cx F) 4) 4 code_tlb_keep_api_Trans_3c fr M' (roundK Pg [] 4 (some ([1, 5, 8, 9, 10], [5])) K k)) (step := st_tlb_keep_api_Trans_3c F l1 i0 l2 i2 i3) (lt := lt_tlb_keep_api_Trans_3c l1 i0 l2 i2 i3) (sF := sF_tlb_keep_api_Trans_3c l1 i0 l2 i2 i3) (sM := sM_tlb_keep_api_Trans_3c l1 i0 l2 i2 i3) (K := K) (bad_tlb_keep_api_Trans_3c l1 i0 l2 i2 i3 K) (fun s kk => rd_tlb_keep_api_Trans_3c F K kk l1 i0 l2 i2 i3 s) fuel s
set_option maxRecDepth 100000 in
theorem e1_tlb_keep_api_Trans_3c (fr : Fr) (M : Mm) : pt_tlb_keep_api_Trans_3c.fr fr = sF_tlb_keep_api_Trans_3c (listOf (fr.tmps.getD 8 .dead)) (intOf (fr.tmps.getD 9 .dead)) (listOf ((partsOf (valR (M.rows.getD 0 (.arr 0 [])))).getD 0 .dead)) (intOf (valR (M.rows.getD 1 (.arr 0 [])))) (intOf (valR (M.rows.getD 2 (.arr 0 [])))) ((listOf (fr.tmps.getD 5 .dead)), (intOf (fr.tmps.getD 10 .dead))) := by kernel_rfl
set_option maxRecDepth 100000 in
theorem e2_tlb_keep_api_Trans_3c (fr : Fr) (M : Mm) : pt_tlb_keep_api_Trans_3c.mm M = sM_tlb_keep_api_Trans_3c (listOf (fr.tmps.getD 8 .dead)) (intOf (fr.tmps.getD 9 .dead)) (listOf ((partsOf (valR (M.rows.getD 0 (.arr 0 [])))).getD 0 .dead)) (intOf (valR (M.rows.getD 1 (.arr 0 [])))) (intOf (valR (M.rows.getD 2 (.arr 0 [])))) ((listOf (fr.tmps.getD 5 .dead)), (intOf (fr.tmps.getD 10 .dead))) := by kernel_rfl
set_option maxRecDepth 100000 in
theorem ok_tlb_keep_api_Trans_3c (F : Tab) {dep : Nat} {fr : Fr} {M : Mm} {t : LT} (ht : lp_tlb_keep_api_Trans_3c F dep fr M = some t) {R : Type} (K : AX → Fr → Mm → Option R) (r : R) (hgo : t.go K = some r) :
    iter 100000 (fun fr' M' k => evC (cx F) 94 (evF (cx F) dep) dep code_tlb_keep_api_Trans_3c fr' M' (roundK Pg [] M.rows.length (some ([1, 5, 8, 9, 10], [5])) K k)) fr M = some r := by
  unfold lp_tlb_keep_api_Trans_3c at ht
  split at ht
  · rename_i hok
    simp only [Bool.and_eq_true, Nat.beq_eq] at hok
    obtain ⟨rfl, hok⟩ := hok
    obtain ⟨h1, h2⟩ := StP.ok_eq hok
    obtain rfl := Option.some.inj ht
    exact ok_of (X := fun fr M => iter 100000 (fun fr' M' k => evC (cx F) 94 (evF (cx F) 4) 4 code_tlb_keep_api_Trans_3c fr' M' (roundK Pg [] M.rows.length (some ([1, 5, 8, 9, 10], [5])) K k)) fr M) (h1.trans (e1_tlb_keep_api_Trans_3c fr M)) (h2.trans (e2_tlb_keep_api_Trans_3c fr M)) (it_tlb_keep_api_Trans_3c F K (listOf (fr.tmps.getD 8 .dead)) (intOf (fr.tmps.getD 9 .dead)) (listOf ((partsOf (valR (M.rows.getD 0 (.arr 0 [])))).getD 0 .dead)) (intOf (valR (M.rows.getD 1 (.arr 0 [])))) (intOf (valR (M.rows.getD 2 (.arr 0 [])))) 100000 ((listOf (fr.tmps.getD 5 .dead)), (intOf (fr.tmps.getD 10 .dead)))) hgo
  · exact absurd ht (by simp)
set_option maxRecDepth 100000 in
theorem at_tlb_keep_api_Trans_3c : (Try.f94.body.bind fun c => loopAt c 3) = some code_tlb_keep_api_Trans_3c := by kernel_rfl
theorem bad_tlb_keep_api_Trans_3d {R : Type} (l1 : List AV) (i0 : Int) (l2 : List AV) (i2 : Int) (K : AX → Fr → Mm → Option R) : (lt_tlb_keep_api_Trans_3d l1 i0 l2 i2 LO.bad).go K = none := by kernel_rfl
noncomputable def code_tlb_keep_api_Trans_3d : Code := ((Try.f94.body.bind fun c => loopAt c 3).getD .skip)
set_option maxRecDepth 100000 in
theorem rd_tlb_keep_api_Trans_3d (F : Tab) {R : Type} (K : AX → Fr → Mm → Option R) (kk : Fr → Mm → Option R) (l1 : List AV) (i0 : Int) (l2 : List AV) (i2 : Int) (s : List AV × Int) :
    evC (cx F) 94 (evF (cx F) 4) 4 code_tlb_keep_api_Trans_3d (sF_tlb_keep_api_Trans_3d l1 i0 l2 i2 s) (sM_tlb_keep_api_Trans_3d l1 i0 l2 i2 s) (roundK Pg [] 3 (some ([1, 5, 8, 9, 10], [5])) K kk) =
    (st_tlb_keep_api_Trans_3d F l1 i0 l2 i2 s).go (lt_tlb_keep_api_Trans_3d l1 i0 l2 i2) K (fun s => kk (sF_tlb_keep_api_Trans_3d l1 i0 l2 i2 s) (sM_tlb_keep_api_Trans_3d l1 i0 l2 i2 s)) := by kernel_rfl
set_option maxRecDepth 100000 in
theorem it_tlb_keep_api_Trans_3d (F : Tab) {R : Type} (K : AX → Fr → Mm → Option R) (l1 : List AV) (i0 : Int) (l2 : List AV) (i2 : Int) (fuel : Nat) (s : List AV × Int) :
    iter fuel (fun fr M' k => evC (cx F) 94 (evF (cx F) 4) 4 code_tlb_keep_api_Trans_3d fr M' (roundK Pg [] 3 (some ([1, 5, 8, 9, 10], [5])) K k)) (sF_tlb_keep_api_Trans_3d l1 i0 l2 i2 s) (sM_tlb_keep_api_Trans_3d l1 i0 l2 i2 s) = (lt_tlb_keep_api_Trans_3d l1 i0 l2 i2 (Tr.run (st_tlb_keep_api_Trans_3d F l1 i0 l2 i2) fuel s)).go K :=
  iter_tr (B := fun fr M' k => evC (cx F) 94 (evF (cx F) 4) 4 code_tlb_keep_api_Trans_3d fr M' (roundK Pg [] 3 (some ([1, 5, 8, 9, 10], [5])) K k)) (step := st_tlb_keep_api_Trans_3d F l1 i0 l2 i2) (lt := lt_tlb_keep_api_Trans_3d l1 i0 l2 i2) (sF := sF_tlb_keep_api_Trans_3d l1 i0 l2 i2) (sM := sM_tlb_keep_api_Trans_3d l1 i0 l2 i2) (K := K) (bad_tlb_keep_api_Trans_3d l1 i0 l2 i2 K) (fun s kk => rd_tlb_keep_api_Trans_3d F K kk l1 i0 l2 i2 s) fuel s
set_option maxRecDepth 100000 in
theorem e1_tlb_keep_api_Trans_3d (fr : Fr) (M : Mm) : pt_tlb_keep_api_Trans_3d.fr fr = sF_tlb_keep_api_Trans_3d (listOf (fr.tmps.getD 8 .dead)) (intOf (fr.tmps.getD 9 .dead)) (listOf ((partsOf (valR (M.rows.getD 0 (.arr 0 [])))).getD 0 .dead)) (intOf (valR (M.rows.getD 1 (.arr 0 [])))) ((listOf (fr.tmps.getD 5 .dead)), (intOf (fr.tmps.getD 10 .dead))) := by kernel_rfl
set_option maxRecDepth 100000 in
theorem e2_tlb_keep_api_Trans_3d (fr : Fr) (M : Mm) : pt_tlb_keep_api_Trans_3d.mm M = sM_tlb_keep_api_Trans_3d (listOf (fr.tmps.getD 8 .dead)) (intOf (fr.tmps.getD 9 .dead)) (listOf ((partsOf (valR (M.rows.getD 0 (.arr 0 [])))).getD 0 .dead)) (intOf (valR (M.rows.getD 1 (.arr 0 [])))) ((listOf (fr.tmps.getD 5 .dead)), (intOf (fr.tmps.getD 10 .dead))) := by kernel_rfl
set_option maxRecDepth 100000 in
theorem ok_tlb_keep_api_Trans_3d (F : Tab) {dep : Nat} {fr : Fr} {M : Mm} {t : LT} (ht : lp_tlb_keep_api_Trans_3d F dep fr M = some t) {R : Type} (K : AX → Fr → Mm → Option R) (r : R) (hgo : t.go K = some r) :
    iter 100000 (fun fr' M' k => evC (cx F) 94 (evF (cx F) dep) dep code_tlb_keep_api_Trans_3d fr' M' (roundK Pg [] M.rows.length (some ([1, 5, 8, 9, 10], [5])) K k)) fr M = some r := by
  unfold lp_tlb_keep_api_Trans_3d at ht
  split at ht
  · rename_i hok
    simp only [Bool.and_eq_true, Nat.beq_eq] at hok
    obtain ⟨rfl, hok⟩ := hok
    obtain ⟨h1, h2⟩ := StP.ok_eq hok
    obtain rfl := Option.some.inj ht
    exact ok_of (X := fun fr M => iter 100000 (fun fr' M' k => evC (cx F) 94 (evF (cx F) 4) 4 code_tlb_keep_api_Trans_3d fr' M' (roundK Pg [] M.rows.length (some ([1, 5, 8, 9, 10], [5])) K k)) fr M) (h1.trans (e1_tlb_keep_api_Trans_3d fr M)) (h2.trans (e2_tlb_keep_api_Trans_3d fr M)) (it_tlb_keep_api_Trans_3d F K (listOf (fr.tmps.getD 8 .dead)) (intOf (fr.tmps.getD 9 .dead)) (listOf ((partsOf (valR (M.rows.getD 0 (.arr 0 [])))).getD 0 .dead)) (intOf (valR (M.rows.getD 1 (.arr 0 [])))) 100000 ((listOf (fr.tmps.getD 5 .dead)), (intOf (fr.tmps.getD 10 .dead)))) hgo
  · exact absurd ht (by simp)
set_option maxRecDepth 100000 in
theorem at_tlb_keep_api_Trans_3d : (Try.f94.body.bind fun c => loopAt c 3) = some code_tlb_keep_api_Trans_3d := by kernel_rfl
theorem bad_tlb_Lookup_11 {R : Type} (i0 i1 i2 : Int) (l0 : List AV) (i3 : Int) (l1 : List AV) (K : AX → Fr → Mm → Option R) : (lt_tlb_Lookup_11 i0 i1 i2 l0 i3 l1 LO.bad).go K = none := by kernel_rfl
noncomputable def code_tlb_Lookup_11 : Code := ((Try.f39.body.bind fun c => loopAt c 11).getD .skip)
set_option maxRecDepth 100000 in
theorem rd_tlb_Lookup_11 (F : Tab) {R : Type} (call : CallH R) (dep : Nat) (K : AX → Fr → Mm → Option R) (kk : Fr → Mm → Option R) (i0 i1 i2 : Int) (l0 : List AV) (i3 : Int) (l1 : List AV) (s : Int) :
    evC (cx F) 39 call dep code_tlb_Lookup_11 (sF_tlb_Lookup_11 i0 i1 i2 l0 i3 l1 s) (sM_tlb_Lookup_11 i0 i1 i2 l0 i3 l1 s) (roundK Pg [] 1 (some ([1, 2, 13, 27, 28, 29], [10, 11, 12])) K kk) =
    (st_tlb_Lookup_11 F i0 i1 i2 l0 i3 l1 s).go (lt_tlb_Lookup_11 i0 i1 i2 l0 i3 l1) K (fun s => kk (sF_tlb_Lookup_11 i0 i1 i2 l0 i3 l1 s) (sM_tlb_Lookup_11 i0 i1 i2 l0 i3 l1 s)) := by kernel_rfl
set_option maxRecDepth 100000 in
theorem it_tlb_Lookup_11 (F : Tab) {R : Type} (call : CallH R) (dep : Nat) (K : AX → Fr → Mm → Option R) (i0 i1 i2 : Int) (l0 : List AV) (i3 : Int) (l1 : List AV) (fuel : Nat) (s : Int) :
    iter fuel (fun fr M' k => evC (cx F) 39 call dep code_tlb_Lookup_11 fr M' (roundK Pg [] 1 (some ([1, 2, 13, 27, 28, 29], [10, 11, 12])) K k)) (sF_tlb_Lookup_11 i0 i1 i2 l0 i3 l1 s) (sM_tlb_Lookup_11 i0 i1 i2 l0 i3 l1 s) = (lt_tlb_Lookup_11 i0 i1 i2 l0 i3 l1 (Tr.run (st_tlb_Lookup_11 F i0 i1 i2 l0 i3 l1) fuel s)).go K :=
  iter_tr (B := fun fr M' k => evC (cx F) 39 call dep code_tlb_Lookup_11 fr M' (roundK Pg [] 1 (some ([1, 2, 13, 27, 28, 29], [10, 11, 12])) K k)) (step := st_tlb_Lookup_11 F i0 i1 i2 l0 i3 l1) (lt := lt_tlb_Lookup_11 i0 i1 i2 l0 i3 l1) (sF := sF_tlb_Lookup_11 i0 i1 i2 l0 i3 l1) (sM := sM_tlb_Lookup_11 i0 i1 i2 l0 i3 l1) (K := K) (bad_tlb_Lookup_11 i0 i1 i2 l0 i3 l1 K) (fun s kk => rd_tlb_Lookup_11 F call dep K kk i0 i1 i2 l0 i3 l1 s) fuel s
set_option maxRecDepth 100000 in
theorem e1_tlb_Lookup_11 (fr : Fr) (M : Mm) : pt_tlb_Lookup_11.fr fr = sF_tlb_Lookup_11 (intOf (fr.tmps.getD 1 .dead)) (intOf (fr.tmps.getD 2 .dead)) (intOf (fr.tmps.getD 13 .dead)) (listOf (fr.tmps.getD 27 .dead)) (intOf (fr.tmps.getD 28 .dead)) (listOf ((partsOf (valR (M.rows.getD 0 (.arr 0 [])))).getD 0 .dead)) ((intOf (fr.tmps.getD 29 .dead))) := by kernel_rfl
set_option maxRecDepth 100000 in
theorem e2_tlb_Lookup_11 (fr : Fr) (M : Mm) : pt_tlb_Lookup_11.mm M = sM_tlb_Lookup_11 (intOf (fr.tmps.getD 1 .dead)) (intOf (fr.tmps.getD 2 .dead)) (intOf (fr.tmps.getD 13 .dead)) (listOf (fr.tmps.getD 27 .dead)) (intOf (fr.tmps.getD 28 .dead)) (listOf ((partsOf (valR (M.rows.getD 0 (.arr 0 [])))).getD 0 .dead)) ((intOf (fr.tmps.getD 29 .dead))) := by kernel_rfl
set_option maxRecDepth 100000 in
theorem ok_tlb_Lookup_11 (F : Tab) {dep : Nat} {fr : Fr} {M : Mm} {t : LT} (ht : lp_tlb_Lookup_11 F dep fr M = some t) {R : Type} (K : AX → Fr → Mm → Option R) (r : R) (hgo : t.go K = some r) :
    iter 100000 (fun fr' M' k => evC (cx F) 39 (evF (cx F) dep) dep code_tlb_Lookup_11 fr' M' (roundK Pg [] M.rows.length (some ([1, 2, 13, 27, 28, 29], [10, 11, 12])) K k)) fr M = some r := by
  unfold lp_tlb_Lookup_11 at ht
  split at ht
  · rename_i hok
    obtain ⟨h1, h2⟩ := StP.ok_eq hok
    obtain rfl := Option.some.inj ht
    exact ok_of (X := fun fr M => iter 100000 (fun fr' M' k => evC (cx F) 39 (evF (cx F) dep) dep code_tlb_Lookup_11 fr' M' (roundK Pg [] M.rows.length (some ([1, 2, 13, 27, 28, 29], [10, 11, 12])) K k)) fr M) (h1.trans (e1_tlb_Lookup_11 fr M)) (h2.trans (e2_tlb_Lookup_11 fr M)) (it_tlb_Lookup_11 F _ _ K (intOf (fr.tmps.getD 1 .dead)) (intOf (fr.tmps.getD 2 .dead)) (intOf (fr.tmps.getD 13 .dead)) (listOf (fr.tmps.getD 27 .dead)) (intOf (fr.tmps.getD 28 .dead)) (listOf ((partsOf (valR (M.rows.getD 0 (.arr 0 [])))).getD 0 .dead)) 100000 ((intOf (fr.tmps.getD 29 .dead)))) hgo
  · exact absurd ht (by simp)
set_option maxRecDepth 100000 in
theorem at_tlb_Lookup_11 : (Try.f39.body.bind fun c => loopAt c 11) = some code_tlb_Lookup_11 := by kernel_rfl
end
end Go.Proofs.Ytcknhfnbdgleiaa
