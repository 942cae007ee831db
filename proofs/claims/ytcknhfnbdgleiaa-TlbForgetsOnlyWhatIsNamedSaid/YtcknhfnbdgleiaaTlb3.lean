/- The buffer of translations: what its functions return. -/
import Derived.Test.YtcknhfnbdgleiaaTlb2
set_option linter.unusedVariables false
set_option linter.unusedSimpArgs false
namespace Go.Proofs.Ytcknhfnbdgleiaa
open Go.AE

def d0 : Xl := ⟨0, 0, 0, 0, 0, []⟩
/-- As the machine holds it. -/
structure WX (x : Xl) : Prop where
  b0 : -9223372036854775808 ≤ x.bits
  b1 : x.bits < 9223372036854775808
theorem getD_n {xs : List Xl} {n : Nat} (h : n < xs.length) : xs.getD n d0 = xs[n] := by simp [List.getD, h]
/-! ### find -/
def fndX (xs : List Xl) (r p : Int) : Int := match fstP (fun n => pTwin r p (xs.getD n d0)) xs.length 0 with | some n => (n : Int) | none => -1
theorem r_find (k : Nat) (xs : List Xl) (r p : Int) (hl : xs.length < 1000) : Rt Pg (D (k + 1)) 91 [Bv xs, .int .u32 r, .int .i64 p] (.int .i64 (fndX xs r p)) := .of (by
  rw [Dk, nf_ref25_find, rfind (D k) xs d0 r p hl (by omega)]
  unfold fndX
  cases fstP (fun n => pTwin r p (xs.getD n d0)) xs.length 0 <;> rfl) (by kernel_rfl)
/-! ### valid buffers -/
def nrT (xs : List Xl) (n : Nat) : Bool := cond (!(rightX (xs.getD n d0))) true ((((xs.filter (pTwin (xs.getD n d0).root (xs.getD n d0).page)).length : Nat) : Int) != 1)
def nrR (xs : List Xl) (n : Nat) : Bool := cond (!(rightX (xs.getD n d0))) true (decide ((0 : Int) ≤ fndX (xs.take n) (xs.getD n d0).root (xs.getD n d0).page))
theorem tvalid (k : Nat) (xs : List Xl) (hl : xs.length < 1000) {fuel : Nat} (hf : xs.length < fuel) :
    lf_tlb_Valid_4 (D (k + 1)) ((xs.length : Nat) : Int) (xs.map tv) fuel 0 = (match fstP (nrT xs) xs.length 0 with | some _ => ⟨1, [], [], [], [], [], []⟩ | none => ⟨2, [], [], [], [], [], []⟩) :=
  findL (st := st_tlb_Valid_4 (D (k + 1)) ((xs.length : Nat) : Int) (xs.map tv)) (fun i => i) xs.length (nrT xs) (fun _ => ⟨1, [], [], [], [], [], []⟩) ⟨2, [], [], [], [], [], []⟩ hl (fun n K h => by
    simp only [st_tlb_Valid_4, sp_tlb_Valid_4, Tr.eval, List.length_map, Int.toNat_natCast, at_map tv h, tvE, lt_n h, inB_n h, cond_true, nx_n (show n < 1000000 by omega), keep3a (D (k + 1)) xs _ _ _ _ _ _ _ hl (show xs.length < 100000 by omega), (r_right k xs[n]).ok, (r_right k xs[n]).val, bO]
    unfold nrT
    rw [getD_n h]
    simp only [RL, List.getD, List.getElem?_cons_zero, Option.getD_some, List.length_map]
    rfl) (fun K => by
    simp only [st_tlb_Valid_4, sp_tlb_Valid_4, Tr.eval, List.length_map, nlt_n, cond_false]) hf
theorem sub_map (xs : List Xl) (n : Nat) : sub (xs.map tv) 0 n = (xs.take n).map tv := by simp [sub, List.map_take]
theorem rvalid (k : Nat) (xs : List Xl) (hw : ∀ x ∈ xs, WX x) (hl : xs.length < 1000) {fuel : Nat} (hf : xs.length < fuel) :
    lf_ref25_Valid_4 (D (k + 2)) (xs.map tv) fuel 0 = (match fstP (nrR xs) xs.length 0 with | some _ => ⟨1, [], [], [], [], [], []⟩ | none => ⟨2, [], [], [], [], [], []⟩) :=
  findL (st := st_ref25_Valid_4 (D (k + 2)) (xs.map tv)) (fun i => i) xs.length (nrR xs) (fun _ => ⟨1, [], [], [], [], [], []⟩) ⟨2, [], [], [], [], [], []⟩ hl (fun n K h => by
    have w := hw xs[n] (List.getElem_mem h)
    have h0 : (decide ((0 : Int) ≤ (n : Int)) && decide ((n : Int) ≤ ((xs.length : Nat) : Int))) = true := by simp; omega
    have f1 := fun r p => (r_find (k + 1) (xs.take n) r p (by simp; omega)).ok
    have f2 := fun r p => (r_find (k + 1) (xs.take n) r p (by simp; omega)).val
    simp only [st_ref25_Valid_4, sp_ref25_Valid_4, Tr.eval, List.length_map, Int.toNat_natCast, at_map tv h, tvE, lt_n h, inB_n h, cond_true, nx_n (show n < 1000000 by omega), (r_rright k xs[n] w.b0 w.b1).ok, (r_rright k xs[n] w.b0 w.b1).val, bO, sub_map, f1, f2, iO, h0, condB_tt]
    unfold nrR
    rw [getD_n h]
    rfl) (fun K => by
    simp only [st_ref25_Valid_4, sp_ref25_Valid_4, Tr.eval, List.length_map, nlt_n, cond_false]) hf
def vT (xs : List Xl) : Bool := cond (decide ((8 : Int) < ((xs.length : Nat) : Int))) false (fstP (nrT xs) xs.length 0).isNone
def vR (xs : List Xl) : Bool := cond (decide ((8 : Int) < ((xs.length : Nat) : Int))) false (fstP (nrR xs) xs.length 0).isNone
theorem r_valid (k : Nat) (xs : List Xl) : Rt Pg (D (k + 2)) 40 [Bv xs] (.bool (vT xs)) := .of (by
  rw [Dk, nf_tlb_Valid]
  simp only [List.length_map]
  unfold vT
  by_cases h : (8 : Int) < ((xs.length : Nat) : Int)
  · rw [decide_eq_true h]; rfl
  · rw [decide_eq_false h, tvalid k xs (by omega) (by omega)]
    cases fstP (nrT xs) xs.length 0 <;> rfl) (by kernel_rfl)
theorem r_rvalid (k : Nat) (xs : List Xl) (hw : ∀ x ∈ xs, WX x) : Rt Pg (D (k + 3)) 35 [Bv xs] (.bool (vR xs)) := .of (by
  rw [Dk, nf_ref25_Valid]
  simp only [List.length_map]
  unfold vR
  by_cases h : (8 : Int) < ((xs.length : Nat) : Int)
  · rw [decide_eq_true h]; rfl
  · rw [decide_eq_false h, rvalid k xs hw (by omega) (by omega)]
    cases fstP (nrR xs) xs.length 0 <;> rfl) (by kernel_rfl)
/-! ### what is left -/
theorem r_flush (k : Nat) (xs : List Xl) (va : Int) (hl : xs.length < 1000) : Rt Pg (D (k + 1)) 44 [Bv xs, .int .u32 va] (Bv (xs.filter (pFlush va))) := .of (by
  rw [Dk, nf_tlb_Flush]
  simp only [List.length_map]
  rw [keep3b (D k) xs _ va hl (by omega)]; rfl) (by kernel_rfl)
theorem r_rflush (k : Nat) (xs : List Xl) (va : Int) (hl : xs.length < 1000) : Rt Pg (D (k + 1)) 99 [Bv xs, .int .u32 va] (Bv (xs.filter (pFlush va))) := .of (by
  rw [Dk, nf_ref25_Flush, rflush (D k) xs va hl (by omega)]; rfl) (by kernel_rfl)
def pTouch (a s : Int) (x : Xl) : Bool := !(readX a s x)
def pEvict (p : Int) (x : Xl) : Bool := cond (x.guest != p) (!(readX (IntKind.i64.wrap (128 * p)) 128 x)) false
theorem keep3c (k : Nat) (xs : List Xl) (l2 : List AV) (a s : Int) (hl : xs.length < 1000) (hr : ∀ x ∈ xs, x.reads.length < 1000) {fuel : Nat} (hf : xs.length < fuel) :
    lf_tlb_keep_api_Trans_3c (D (k + 1)) (xs.map tv) ((xs.length : Nat) : Int) l2 a s fuel [] 0 = RL ((xs.filter (pTouch a s)).map tv) :=
  filtL (st := st_tlb_keep_api_Trans_3c (D (k + 1)) (xs.map tv) ((xs.length : Nat) : Int) l2 a s) (fun o i => (o.map tv, i)) xs (pTouch a s) (fun o => RL (o.map tv)) hl (fun o n K h ho => by
    have w := hr xs[n] (List.getElem_mem h)
    simp only [st_tlb_keep_api_Trans_3c, sp_tlb_keep_api_Trans_3c, Tr.eval, List.length_map, Int.toNat_natCast, at_map tv h, tvE, lt_n h, inB_n h, cond_true, nx_n (show n < 1000000 by omega), me_n (show o.length < 1000000 by omega), (r_reads k xs[n] a s w).ok, (r_reads k xs[n] a s w).val, bO]
    show cond (pTouch a s xs[n]) (K (o.map tv ++ [tv xs[n]], _)) (K (o.map tv, _)) = _
    cases pTouch a s xs[n] <;> simp) (fun o K => by
    simp only [st_tlb_keep_api_Trans_3c, sp_tlb_keep_api_Trans_3c, Tr.eval, nlt_n, cond_false]) hf
theorem keep3d (k : Nat) (xs : List Xl) (l2 : List AV) (p : Int) (hl : xs.length < 1000) (hr : ∀ x ∈ xs, x.reads.length < 1000) {fuel : Nat} (hf : xs.length < fuel) :
    lf_tlb_keep_api_Trans_3d (D (k + 1)) (xs.map tv) ((xs.length : Nat) : Int) l2 p fuel [] 0 = RL ((xs.filter (pEvict p)).map tv) :=
  filtL (st := st_tlb_keep_api_Trans_3d (D (k + 1)) (xs.map tv) ((xs.length : Nat) : Int) l2 p) (fun o i => (o.map tv, i)) xs (pEvict p) (fun o => RL (o.map tv)) hl (fun o n K h ho => by
    have w := hr xs[n] (List.getElem_mem h)
    simp only [st_tlb_keep_api_Trans_3d, sp_tlb_keep_api_Trans_3d, Tr.eval, List.length_map, Int.toNat_natCast, at_map tv h, tvE, lt_n h, inB_n h, cond_true, nx_n (show n < 1000000 by omega), me_n (show o.length < 1000000 by omega), (r_reads k xs[n] _ _ w).ok, (r_reads k xs[n] _ _ w).val, bO, condB_tt]
    show cond (pEvict p xs[n]) (K (o.map tv ++ [tv xs[n]], _)) (K (o.map tv, _)) = _
    cases pEvict p xs[n] <;> simp) (fun o K => by
    simp only [st_tlb_keep_api_Trans_3d, sp_tlb_keep_api_Trans_3d, Tr.eval, nlt_n, cond_false]) hf
theorem rtouch (k : Nat) (xs : List Xl) (a s : Int) (hl : xs.length < 1000) (hr : ∀ x ∈ xs, x.reads.length < 1000) {fuel : Nat} (hf : xs.length < fuel) :
    lf_ref25_Touch_3 (D (k + 1)) a s (xs.map tv) fuel 0 [] = RL ((xs.filter (pTouch a s)).map tv) :=
  filtL (st := st_ref25_Touch_3 (D (k + 1)) a s (xs.map tv)) (fun o i => (i, o.map tv)) xs (pTouch a s) (fun o => RL (o.map tv)) hl (fun o n K h ho => by
    have w := hr xs[n] (List.getElem_mem h)
    simp only [st_ref25_Touch_3, sp_ref25_Touch_3, Tr.eval, List.length_map, Int.toNat_natCast, at_map tv h, tvE, lt_n h, inB_n h, cond_true, nx_n (show n < 1000000 by omega), me_n (show o.length < 1000000 by omega), (r_rreads k xs[n] a s w).ok, (r_rreads k xs[n] a s w).val, bO]
    show cond (pTouch a s xs[n]) (K (_, o.map tv ++ [tv xs[n]])) (K (_, o.map tv)) = _
    cases pTouch a s xs[n] <;> simp) (fun o K => by
    simp only [st_ref25_Touch_3, sp_ref25_Touch_3, Tr.eval, List.length_map, nlt_n, cond_false]) hf
theorem revict (k : Nat) (xs : List Xl) (p : Int) (hl : xs.length < 1000) (hr : ∀ x ∈ xs, x.reads.length < 1000) {fuel : Nat} (hf : xs.length < fuel) :
    lf_ref25_Evict_3 (D (k + 1)) p (xs.map tv) fuel 0 [] = RL ((xs.filter (pEvict p)).map tv) :=
  filtL (st := st_ref25_Evict_3 (D (k + 1)) p (xs.map tv)) (fun o i => (i, o.map tv)) xs (pEvict p) (fun o => RL (o.map tv)) hl (fun o n K h ho => by
    have w := hr xs[n] (List.getElem_mem h)
    simp only [st_ref25_Evict_3, sp_ref25_Evict_3, Tr.eval, List.length_map, Int.toNat_natCast, at_map tv h, tvE, lt_n h, inB_n h, cond_true, nx_n (show n < 1000000 by omega), me_n (show o.length < 1000000 by omega), (r_rreads k xs[n] _ _ w).ok, (r_rreads k xs[n] _ _ w).val, bO, condB_tt]
    show cond (pEvict p xs[n]) (K (_, o.map tv ++ [tv xs[n]])) (K (_, o.map tv)) = _
    cases pEvict p xs[n] <;> simp) (fun o K => by
    simp only [st_ref25_Evict_3, sp_ref25_Evict_3, Tr.eval, List.length_map, nlt_n, cond_false]) hf
theorem r_touch (k : Nat) (xs : List Xl) (a s : Int) (hl : xs.length < 1000) (hr : ∀ x ∈ xs, x.reads.length < 1000) : Rt Pg (D (k + 2)) 45 [Bv xs, .int .i64 a, .int .i64 s] (Bv (xs.filter (pTouch a s))) := .of (by
  rw [Dk, nf_tlb_Touch]
  simp only [List.length_map]
  rw [keep3c k xs _ a s hl hr (by omega)]; rfl) (by kernel_rfl)
theorem r_rtouch (k : Nat) (xs : List Xl) (a s : Int) (hl : xs.length < 1000) (hr : ∀ x ∈ xs, x.reads.length < 1000) : Rt Pg (D (k + 2)) 100 [Bv xs, .int .i64 a, .int .i64 s] (Bv (xs.filter (pTouch a s))) := .of (by
  rw [Dk, nf_ref25_Touch, rtouch k xs a s hl hr (by omega)]; rfl) (by kernel_rfl)
theorem r_evict (k : Nat) (xs : List Xl) (p : Int) (hl : xs.length < 1000) (hr : ∀ x ∈ xs, x.reads.length < 1000) : Rt Pg (D (k + 2)) 46 [Bv xs, .int .i64 p] (Bv (xs.filter (pEvict p))) := .of (by
  rw [Dk, nf_tlb_Evict]
  simp only [List.length_map]
  rw [keep3d k xs _ p hl hr (by omega)]; rfl) (by kernel_rfl)
theorem r_revict (k : Nat) (xs : List Xl) (p : Int) (hl : xs.length < 1000) (hr : ∀ x ∈ xs, x.reads.length < 1000) : Rt Pg (D (k + 2)) 101 [Bv xs, .int .i64 p] (Bv (xs.filter (pEvict p))) := .of (by
  rw [Dk, nf_ref25_Evict, revict k xs p hl hr (by omega)]; rfl) (by kernel_rfl)
def fillX (xs : List Xl) (x : Xl) : List Xl :=
  let l := xs.filter (pFill x.root x.page)
  cond (decide (8 ≤ l.length)) (l.drop 1 ++ [x]) (l ++ [x])
theorem gl0 (l : List AV) : ([l] : List (List AV)).getD 0 [] = l := rfl
theorem sub1 (o : List Xl) : sub (o.map tv) 1 o.length = (o.drop 1).map tv := by
  unfold sub
  rw [List.take_of_length_le (by simp), List.map_drop]
theorem r_fill (k : Nat) (xs : List Xl) (x : Xl) (hl : xs.length ≤ 8) : Rt Pg (D (k + 1)) 38 [Bv xs, tv x] (Bv (fillX xs x)) := .of (by
  rw [Dk, show tv x = .agg 69 [.int .u32 x.root, .int .i64 x.page, .int .i64 x.guest, .int .i64 x.frame, .int .i64 x.bits, .slice 3 (rv x.reads) false] from rfl, nf_tlb_Fill]
  simp only [List.length_map]
  rw [keep3 (D k) xs _ _ x.root x.page x.guest x.frame x.bits (by omega) (by omega)]
  have hle : (xs.filter (pFill x.root x.page)).length ≤ 8 := Nat.le_trans (List.length_filter_le _ _) hl
  unfold fillX
  simp only [RL, gl0, List.length_map]
  generalize xs.filter (pFill x.root x.page) = l at hle ⊢
  have e1 : (l.length : Int) = 8 ↔ 8 ≤ l.length := by omega
  by_cases h : 8 ≤ l.length
  · have h8 : ((l.length : Int) == 8) = true := by simp; omega
    rw [sub1, h8, decide_eq_true h, decide_eq_true (show (1 : Int) ≤ (l.length : Nat) by omega), decide_eq_true (show ((List.map tv (l.drop 1)).length + 1) * 64 ≤ 140737488355328 by simp; omega)]
    simp [tv]
  · have h8 : ((l.length : Int) == 8) = false := by simp; omega
    rw [h8, decide_eq_false h, decide_eq_true (show (l.length + 1) * 64 ≤ 140737488355328 by omega)]
    simp [tv]) (by kernel_rfl)
theorem r_rfill (k : Nat) (xs : List Xl) (x : Xl) (hl : xs.length ≤ 8) : Rt Pg (D (k + 1)) 98 [Bv xs, tv x] (Bv (fillX xs x)) := .of (by
  rw [Dk, show tv x = .agg 69 [.int .u32 x.root, .int .i64 x.page, .int .i64 x.guest, .int .i64 x.frame, .int .i64 x.bits, .slice 3 (rv x.reads) false] from rfl, nf_ref25_Fill]
  rw [rfill (D k) xs _ x.root x.page x.guest x.frame x.bits (by omega) (by omega)]
  have hle : (xs.filter (pFill x.root x.page)).length ≤ 8 := Nat.le_trans (List.length_filter_le _ _) hl
  unfold fillX
  simp only [RL, gl0, List.length_map]
  generalize xs.filter (pFill x.root x.page) = l at hle ⊢
  by_cases h : 8 ≤ l.length
  · rw [sub1, decide_eq_true h, decide_eq_true (show (8 : Int) ≤ (l.length : Nat) by omega), decide_eq_true (show (1 : Int) ≤ (l.length : Nat) by omega), decide_eq_true (show ((List.map tv (l.drop 1)).length + 1) * 64 ≤ 140737488355328 by simp; omega)]
    simp [tv]
  · rw [decide_eq_false h, decide_eq_false (show ¬ (8 : Int) ≤ (l.length : Nat) by omega), decide_eq_true (show (l.length + 1) * 64 ≤ 140737488355328 by omega)]
    simp [tv]) (by kernel_rfl)
end Go.Proofs.Ytcknhfnbdgleiaa
