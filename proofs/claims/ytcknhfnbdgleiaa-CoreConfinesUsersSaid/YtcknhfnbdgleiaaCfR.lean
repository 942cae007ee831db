/- CoreConfinesUsers: whatever its arguments (any processor, any memory, any lines), the law returns true, changes nothing and does not panic. Conditions: none. -/
import Derived.Test.YtcknhfnbdgleiaaCorA
import Derived.Test.YtcknhfnbdgleiaaCf2
namespace Go.Proofs.Ytcknhfnbdgleiaa
open Go.AE
set_option maxRecDepth 100000
theorem Rb (l : List AV) (h : jm (fun v t => Has Try.checked.prog 8 t v) Try.f13.params.toList l) : wu Try.checked.prog 13 l (.bool true) := by
 have h0 : jm (fun v t => Has Try.checked.prog 8 t v) [105, 24, 25] l := h
 obtain ⟨p0, r0, rfl, g0, h1⟩ := jZ h0
 obtain ⟨p1, r1, rfl, g1, h2⟩ := jZ h1
 obtain ⟨p2, r2, rfl, g2, h3⟩ := jZ h2
 obtain rfl := H7 h3
 obtain ⟨pc, r, c, u, wt, ht, n, rfl, hpc, hr, hr2, hc, hc2⟩ := Sn g0
 obtain ⟨m, rfl, hm⟩ := Vb g1
 obtain ⟨p, rfl, hp⟩ := Ch g2
 exact Confines.WI 12 _ _ _ (U6 0 pc hpc r c hr hr2 hc hc2 u wt ht n m hm p hp)
set_option maxRecDepth 100000 in
theorem Sj (os : Os) (started : os.Started) (H : Type) (enc : TypeId × Value -> H) :
    ReturnsInHanded {} Try.checked os 13 .any (Rows.coreConfinesUsersSpec.pre6 enc Try.checked.prog Try.f13 Rows.coreConfinesUsersRow.domain false) (Rows.coreConfinesUsersSpec.post enc Try.checked.prog Try.f13 false true false false) :=
 Yj (tb := 4) Try.own started (by kernel_rfl) Try.func13
  (ChangeSpec.witness6 (enc := enc) (C := Try.checked) false ⟨#[], #[.agg #[.int .u32 0, .int .u32 0, .int .u32 0, .int .u32 0, .int .u32 0, .int .u32 0, .int .u32 0, .int .u32 0, .int .u32 0, .int .u32 0, .int .u32 0, .int .u32 0, .int .u32 0, .int .u32 0, .int .u32 0, .int .u32 0, .int .u32 0, .int .u32 0, .int .u32 0, .int .u32 0, .int .u32 0, .int .u32 0, .int .u32 0, .int .u32 0, .int .u32 0, .int .u32 0, .bool false, .bool false, .bool false, .int .i64 0], .agg #[.slice none 0 0], .int .u32 0], []⟩ 8 (by kernel_rfl) (by kernel_rfl) (by kernel_rfl) (by kernel_rfl))
  Try.laidOut rfl (by kernel_rfl) rfl zP (fun ds hds => by
   match ds, hds with
   | [d0, d1, d2], _ => rfl) Rb
theorem XZ : (Rows.coreConfinesUsersRow.wf (OpenSpec.ofChange Rows.coreConfinesUsersSpec)) = true := by kernel_rfl
theorem Wz : (Try.f13.params.all (Try.pinned.checked.prog.readableRec ·)) = true := by kernel_rfl
theorem Yf : namedTie Try.pinned.checked.prog Rows.coreConfinesUsersRow.named Rows.coreConfinesUsersSpec.vars = true := by kernel_rfl
theorem Sc : (Rows.coreConfinesUsersRow.inPlace == Try.pinned.checked.prog.inPlace 13) = true := by kernel_rfl
theorem QI : (Rows.coreConfinesUsersRow.unfollowed == Try.pinned.checked.prog.unfollowed 13) = true := by kernel_rfl
theorem Y8 : (Rows.coreConfinesUsersRow.recurses == Try.pinned.checked.prog.recurses 13) = true := by kernel_rfl
theorem Vs : (Rows.coreConfinesUsersRow.named == Try.pinned.checked.prog.varsNamed 13) = true := by kernel_rfl
theorem Ua : joinedFacts Try.pinned.checked.prog 13 Try.f13 Rows.coreConfinesUsersSpec Rows.coreConfinesUsersRow = true :=
 Xm XZ Try.laidOut Try.mapsRowed Wz Yf Try.aaz Sc QI Y8 Vs (by kernel_rfl) (by kernel_rfl) (by kernel_rfl) (by kernel_rfl) (by kernel_rfl) (by kernel_rfl) Try.vP (by kernel_rfl) (by kernel_rfl) (by kernel_rfl)
theorem coreConfinesUsers_holds : Rows.CoreConfinesUsersSaid :=
 OpenClaim.holds_of_wide 13 Try.f13 rfl rfl rfl rfl rfl rfl rfl ⟨rfl, rfl, rfl, rfl, rfl⟩ rfl rfl rfl rfl rfl (by kernel_rfl) Try.func13 Ua
  (of_decide_eq_true (by kernel_rfl)) (by unfold Func.isWrapper; first | (rw [if_pos (by decide +kernel)]; kernel_rfl) | (rw [if_neg (by decide +kernel)]; exact ⟨rfl, rfl⟩))
  (fun os started H enc _ => Sj os started H enc)
end Go.Proofs.Ytcknhfnbdgleiaa
