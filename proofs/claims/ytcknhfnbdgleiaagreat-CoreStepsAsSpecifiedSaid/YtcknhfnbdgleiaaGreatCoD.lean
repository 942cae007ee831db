/- All that is said of loops is so; the functions' table. (Printed by a program of mine, gen.py.) -/
import Derived.Test.YtcknhfnbdgleiaaGreatCoL0
set_option linter.unusedVariables false
set_option linter.unusedSimpArgs false
set_option maxRecDepth 100000
namespace Go.Proofs.YtcknhfnbdgleiaaGreat
open Go.AE
theorem J6 : Pg.funcs[8]? = some Tryz.f8 := by kernel_rfl
theorem XI : Pg.funcs[23]? = some Tryz.f23 := by kernel_rfl
theorem K7 : Pg.funcs[25]? = some Tryz.f25 := by kernel_rfl
theorem Rk : Pg.funcs[27]? = some Tryz.f27 := by kernel_rfl
theorem TA : Pg.funcs[36]? = some Tryz.f36 := by kernel_rfl
theorem X4 : Pg.funcs[37]? = some Tryz.f37 := by kernel_rfl
theorem Wh : Pg.funcs[40]? = some Tryz.f40 := by kernel_rfl
theorem aat : Pg.funcs[43]? = some Tryz.f43 := by kernel_rfl
theorem Js : Pg.funcs[71]? = some Tryz.f71 := by kernel_rfl
theorem abD : Pg.funcs[93]? = some Tryz.f93 := by kernel_rfl
theorem Tv : Pg.funcs[94]? = some Tryz.f94 := by kernel_rfl
theorem WE : Pg.funcs[99]? = some Tryz.f99 := by kernel_rfl
theorem Ud (F : Tab) : (cx F).Lb := by
 intro dep f id fr M t ht fn body hfn hbody
 simp only [cx] at ht
 split at ht
 . have hfn' : Pg.funcs[8]? = some fn := hfn
   rw [J6] at hfn'
   obtain rfl := Option.some.inj hfn'
   have ha := aaG
   rw [hbody] at ha
   exact ⟨zU, ha, abw ht⟩
 . have hfn' : Pg.funcs[8]? = some fn := hfn
   rw [J6] at hfn'
   obtain rfl := Option.some.inj hfn'
   have ha := ab1
   rw [hbody] at ha
   exact ⟨BR, ha, aaL ht⟩
 . have hfn' : Pg.funcs[23]? = some fn := hfn
   rw [XI] at hfn'
   obtain rfl := Option.some.inj hfn'
   have ha := Y2
   rw [hbody] at ha
   exact ⟨Co, ha, XZ ht⟩
 . have hfn' : Pg.funcs[25]? = some fn := hfn
   rw [K7] at hfn'
   obtain rfl := Option.some.inj hfn'
   have ha := V3
   rw [hbody] at ha
   exact ⟨BJ, ha, ac9 ht⟩
 . have hfn' : Pg.funcs[25]? = some fn := hfn
   rw [K7] at hfn'
   obtain rfl := Option.some.inj hfn'
   have ha := U6
   rw [hbody] at ha
   exact ⟨z8, ha, acR ht⟩
 . have hfn' : Pg.funcs[27]? = some fn := hfn
   rw [Rk] at hfn'
   obtain rfl := Option.some.inj hfn'
   have ha := TT
   rw [hbody] at ha
   exact ⟨Df, ha, Yh ht⟩
 . have hfn' : Pg.funcs[36]? = some fn := hfn
   rw [TA] at hfn'
   obtain rfl := Option.some.inj hfn'
   have ha := abk
   rw [hbody] at ha
   exact ⟨zo, ha, abV ht⟩
 . have hfn' : Pg.funcs[37]? = some fn := hfn
   rw [X4] at hfn'
   obtain rfl := Option.some.inj hfn'
   have ha := TN
   rw [hbody] at ha
   exact ⟨zY, ha, V6 ht⟩
 . have hfn' : Pg.funcs[40]? = some fn := hfn
   rw [Wh] at hfn'
   obtain rfl := Option.some.inj hfn'
   have ha := Rv
   rw [hbody] at ha
   exact ⟨Dw, ha, abQ ht⟩
 . have hfn' : Pg.funcs[43]? = some fn := hfn
   rw [aat] at hfn'
   obtain rfl := Option.some.inj hfn'
   have ha := acN
   rw [hbody] at ha
   exact ⟨zG, ha, RB ht⟩
 . have hfn' : Pg.funcs[71]? = some fn := hfn
   rw [Js] at hfn'
   obtain rfl := Option.some.inj hfn'
   have ha := Xf
   rw [hbody] at ha
   exact ⟨zH, ha, RV ht⟩
 . have hfn' : Pg.funcs[71]? = some fn := hfn
   rw [Js] at hfn'
   obtain rfl := Option.some.inj hfn'
   have ha := R6
   rw [hbody] at ha
   exact ⟨zy, ha, aay ht⟩
 . have hfn' : Pg.funcs[93]? = some fn := hfn
   rw [abD] at hfn'
   obtain rfl := Option.some.inj hfn'
   have ha := abF
   rw [hbody] at ha
   exact ⟨Dc, ha, Uv ht⟩
 . have hfn' : Pg.funcs[94]? = some fn := hfn
   rw [Tv] at hfn'
   obtain rfl := Option.some.inj hfn'
   have ha := Vw
   rw [hbody] at ha
   exact ⟨Bn, ha, Tj ht⟩
 . have hfn' : Pg.funcs[99]? = some fn := hfn
   rw [WE] at hfn'
   obtain rfl := Option.some.inj hfn'
   have ha := Ut
   rw [hbody] at ha
   exact ⟨zm, ha, acX ht⟩
 . exact absurd ht (by simp)
theorem Wi (F : Tab) : (cx F).Pf := by
 intro dep f args M t ht R K r hgo
 simp only [cx] at ht
 split at ht
 . exact S9 ht R K r hgo
 . exact Vs ht R K r hgo
 . exact Rs ht R K r hgo
 . exact TP ht R K r hgo
 . split at ht
   . rename_i t2 h2
     obtain rfl := Option.some.inj ht
     exact Z6 h2 R K r hgo
   . exact QL ht R K r hgo
 . split at ht
   . rename_i t2 h2
     obtain rfl := Option.some.inj ht
     exact R8 h2 R K r hgo
   . exact VG ht R K r hgo
 . split at ht
   . rename_i t2 h2
     obtain rfl := Option.some.inj ht
     exact Ye h2 R K r hgo
   . split at ht
     . rename_i t2 h2
       obtain rfl := Option.some.inj ht
       exact aal h2 R K r hgo
     . exact acf ht R K r hgo
 . exact adj ht R K r hgo
 . exact RJ ht R K r hgo
 . exact Rl ht R K r hgo
 . exact Yn ht R K r hgo
 . exact Sy ht R K r hgo
 . exact absurd ht (by simp)
theorem Yw (F : Tab) : (cx F).MB := by
 intro dep f args M v rs ht R K r hgo
 simp only [cx] at ht
 split at ht
 . exact Vb F ht K r hgo
 . exact absurd ht (by simp)
theorem loops (F : Tab) : (cx F).Loops := ⟨Ud F, Wi F, Yw F⟩
noncomputable abbrev D : Nat -> Tab := Dt cx 6
theorem aar (k : Nat) : HV Pg (D k) := JA (P := Pg) (C := cx) (kn := kn) (fun _ => rfl) (fun _ => rfl) loops k
end Go.Proofs.YtcknhfnbdgleiaaGreat
