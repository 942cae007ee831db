/- CoreRunsAsSpecified: whatever its arguments (any processor, any memory, any numbers), the law returns true, changes nothing and does not panic. Conditions: none. -/
import Derived.Test.YtcknhfnbdgleiaaGreatGrB
namespace Go.Proofs.YtcknhfnbdgleiaaGreat
open Go.AE
set_option maxRecDepth 100000
theorem ab0 (l : List AV) (h : jZ (fun v t => Has Tryz.checked.prog 8 t v) Tryz.f5.params.toList l) : yC Tryz.checked.prog 5 l (.bool true) := by
 have h0 : jZ (fun v t => Has Tryz.checked.prog 8 t v) [26, 29, 3, 5] l := h
 obtain ⟨p0, r0, rfl, g0, h1⟩ := kG h0
 obtain ⟨p1, r1, rfl, g1, h2⟩ := kG h1
 obtain ⟨p2, r2, rfl, g2, h3⟩ := kG h2
 obtain ⟨p3, r3, rfl, g3, h4⟩ := kG h3
 obtain rfl := Et h4
 obtain ⟨pc, r, c, u, wt, ht, n, rfl, hpc, hr, hr2, hc, hc2⟩ := aaS g0
 obtain ⟨m, rfl, hm⟩ := SA g1
 obtain ⟨s, rfl, _⟩ := Jc g2
 obtain ⟨q, rfl, hq⟩ := Ki g3
 exact ac8 13 _ _ _ (ab6 0 pc hpc r c hr hr2 hc hc2 u wt ht n m hm s q hq)
set_option maxRecDepth 100000 in
theorem acI (os : Os) (started : os.Started) (H : Type) (enc : TypeId × Value -> H) :
    ReturnsInHanded {} Tryz.checked os 5 .any (Rows.coreRunsAsSpecifiedSpec.pre6 enc Tryz.checked.prog Tryz.f5 Rows.coreRunsAsSpecifiedRow.domain false) (Rows.coreRunsAsSpecifiedSpec.post enc Tryz.checked.prog Tryz.f5 false true false false) :=
 acG (tb := 4) Tryz.own started (by kernel_rfl) Tryz.func5
  (ChangeSpec.witness6 (enc := enc) (C := Tryz.checked) false ⟨#[], #[.agg #[.int .u32 0, .int .u32 0, .int .u32 0, .int .u32 0, .int .u32 0, .int .u32 0, .int .u32 0, .int .u32 0, .int .u32 0, .int .u32 0, .int .u32 0, .int .u32 0, .int .u32 0, .int .u32 0, .int .u32 0, .int .u32 0, .int .u32 0, .int .u32 0, .int .u32 0, .int .u32 0, .int .u32 0, .int .u32 0, .int .u32 0, .int .u32 0, .int .u32 0, .int .u32 0, .bool false, .bool false, .bool false, .int .i64 0], .agg #[.slice none 0 0], .int .i64 0, .int .u8 0], []⟩ 8 (by kernel_rfl) (by kernel_rfl) (by kernel_rfl) (by kernel_rfl))
  Tryz.laidOut rfl (by kernel_rfl) rfl AJ (fun ds hds => by
   match ds, hds with
   | [d0, d1, d2, d3], _ => rfl) ab0
theorem U0 : (Rows.coreRunsAsSpecifiedRow.wf (OpenSpec.ofChange Rows.coreRunsAsSpecifiedSpec)) = true := by kernel_rfl
theorem Us : (Tryz.f5.params.all (Tryz.pinned.checked.prog.readableRec ·)) = true := by kernel_rfl
theorem aez : namedTie Tryz.pinned.checked.prog Rows.coreRunsAsSpecifiedRow.named Rows.coreRunsAsSpecifiedSpec.vars = true := by kernel_rfl
theorem ad6 : (Rows.coreRunsAsSpecifiedRow.inPlace == Tryz.pinned.checked.prog.inPlace 5) = true := by kernel_rfl
theorem Yx : (Rows.coreRunsAsSpecifiedRow.unfollowed == Tryz.pinned.checked.prog.unfollowed 5) = true := by kernel_rfl
theorem ab8 : (Rows.coreRunsAsSpecifiedRow.recurses == Tryz.pinned.checked.prog.recurses 5) = true := by kernel_rfl
theorem aci : (Rows.coreRunsAsSpecifiedRow.named == Tryz.pinned.checked.prog.varsNamed 5) = true := by kernel_rfl
theorem aeg : joinedFacts Tryz.pinned.checked.prog 5 Tryz.f5 Rows.coreRunsAsSpecifiedSpec Rows.coreRunsAsSpecifiedRow = true :=
 Wn U0 Tryz.laidOut Tryz.mapsRowed Us aez Tryz.ach ad6 Yx ab8 aci (by kernel_rfl) (by kernel_rfl) (by kernel_rfl) (by kernel_rfl) (by kernel_rfl) (by kernel_rfl) Tryz.wM (by kernel_rfl) (by kernel_rfl) (by kernel_rfl)
theorem coreRunsAsSpecified_holds : Rows.CoreRunsAsSpecifiedSaid :=
 OpenClaim.holds_of_wide 5 Tryz.f5 rfl rfl rfl rfl rfl rfl rfl ⟨rfl, rfl, rfl, rfl, rfl⟩ rfl rfl rfl rfl rfl (by kernel_rfl) Tryz.func5 aeg
  (of_decide_eq_true (by kernel_rfl)) (by unfold Func.isWrapper; first | (rw [if_pos (by decide +kernel)]; kernel_rfl) | (rw [if_neg (by decide +kernel)]; exact ⟨rfl, rfl⟩))
  (fun os started H enc _ => acI os started H enc)
end Go.Proofs.YtcknhfnbdgleiaaGreat
