/- All that is said of loops is so; the functions' table. (Printed by a program of mine, gen.py.) -/
import Derived.Test.YtcknhfnbdgleiaaGreatCoL0
set_option linter.unusedVariables false
set_option linter.unusedSimpArgs false
set_option maxRecDepth 100000
namespace Go.Proofs.YtcknhfnbdgleiaaGreat
open Go.AE
theorem Qy : Pg.funcs[8]? = some Tryz.f8 := by kernel_rfl
theorem acR : Pg.funcs[13]? = some Tryz.f13 := by kernel_rfl
theorem adG : Pg.funcs[14]? = some Tryz.f14 := by kernel_rfl
theorem aaf : Pg.funcs[23]? = some Tryz.f23 := by kernel_rfl
theorem RA : Pg.funcs[25]? = some Tryz.f25 := by kernel_rfl
theorem VH : Pg.funcs[27]? = some Tryz.f27 := by kernel_rfl
theorem Vu : Pg.funcs[36]? = some Tryz.f36 := by kernel_rfl
theorem TB : Pg.funcs[37]? = some Tryz.f37 := by kernel_rfl
theorem XR : Pg.funcs[38]? = some Tryz.f38 := by kernel_rfl
theorem TN : Pg.funcs[40]? = some Tryz.f40 := by kernel_rfl
theorem aeG : Pg.funcs[43]? = some Tryz.f43 := by kernel_rfl
theorem Nr : Pg.funcs[71]? = some Tryz.f71 := by kernel_rfl
theorem WA : Pg.funcs[93]? = some Tryz.f93 := by kernel_rfl
theorem Zr : Pg.funcs[94]? = some Tryz.f94 := by kernel_rfl
theorem V7 : Pg.funcs[99]? = some Tryz.f99 := by kernel_rfl
theorem acu (F : Tab) : (cx F).QC := by
 intro dep f id fr M t ht fn body hfn hbody
 simp only [cx] at ht
 split at ht
 . have hfn' : Pg.funcs[8]? = some fn := hfn
   rw [Qy] at hfn'
   obtain rfl := Option.some.inj hfn'
   have ha := UM
   rw [hbody] at ha
   exact ⟨zW, ha, acU ht⟩
 . have hfn' : Pg.funcs[8]? = some fn := hfn
   rw [Qy] at hfn'
   obtain rfl := Option.some.inj hfn'
   have ha := adZ
   rw [hbody] at ha
   exact ⟨Am, ha, abA ht⟩
 . have hfn' : Pg.funcs[13]? = some fn := hfn
   rw [acR] at hfn'
   obtain rfl := Option.some.inj hfn'
   have ha := SY
   rw [hbody] at ha
   exact ⟨CB, ha, abT ht⟩
 . have hfn' : Pg.funcs[14]? = some fn := hfn
   rw [adG] at hfn'
   obtain rfl := Option.some.inj hfn'
   have ha := Y8
   rw [hbody] at ha
   exact ⟨zO, ha, Zy ht⟩
 . have hfn' : Pg.funcs[23]? = some fn := hfn
   rw [aaf] at hfn'
   obtain rfl := Option.some.inj hfn'
   have ha := Yd
   rw [hbody] at ha
   exact ⟨DI, ha, ZI ht⟩
 . have hfn' : Pg.funcs[25]? = some fn := hfn
   rw [RA] at hfn'
   obtain rfl := Option.some.inj hfn'
   have ha := TM
   rw [hbody] at ha
   exact ⟨Au, ha, ac5 ht⟩
 . have hfn' : Pg.funcs[25]? = some fn := hfn
   rw [RA] at hfn'
   obtain rfl := Option.some.inj hfn'
   have ha := U4
   rw [hbody] at ha
   exact ⟨Df, ha, WR ht⟩
 . have hfn' : Pg.funcs[27]? = some fn := hfn
   rw [VH] at hfn'
   obtain rfl := Option.some.inj hfn'
   have ha := Zo
   rw [hbody] at ha
   exact ⟨Du, ha, RN ht⟩
 . have hfn' : Pg.funcs[36]? = some fn := hfn
   rw [Vu] at hfn'
   obtain rfl := Option.some.inj hfn'
   have ha := acK
   rw [hbody] at ha
   exact ⟨Ao, ha, VF ht⟩
 . have hfn' : Pg.funcs[37]? = some fn := hfn
   rw [TB] at hfn'
   obtain rfl := Option.some.inj hfn'
   have ha := ZF
   rw [hbody] at ha
   exact ⟨zK, ha, Z0 ht⟩
 . have hfn' : Pg.funcs[38]? = some fn := hfn
   rw [XR] at hfn'
   obtain rfl := Option.some.inj hfn'
   have ha := TA
   rw [hbody] at ha
   exact ⟨CX, ha, S9 ht⟩
 . have hfn' : Pg.funcs[40]? = some fn := hfn
   rw [TN] at hfn'
   obtain rfl := Option.some.inj hfn'
   have ha := abC
   rw [hbody] at ha
   exact ⟨zM, ha, adM ht⟩
 . have hfn' : Pg.funcs[43]? = some fn := hfn
   rw [aeG] at hfn'
   obtain rfl := Option.some.inj hfn'
   have ha := aeD
   rw [hbody] at ha
   exact ⟨zI, ha, ab3 ht⟩
 . have hfn' : Pg.funcs[71]? = some fn := hfn
   rw [Nr] at hfn'
   obtain rfl := Option.some.inj hfn'
   have ha := UN
   rw [hbody] at ha
   exact ⟨DR, ha, Un ht⟩
 . have hfn' : Pg.funcs[71]? = some fn := hfn
   rw [Nr] at hfn'
   obtain rfl := Option.some.inj hfn'
   have ha := YE
   rw [hbody] at ha
   exact ⟨BQ, ha, abh ht⟩
 . have hfn' : Pg.funcs[93]? = some fn := hfn
   rw [WA] at hfn'
   obtain rfl := Option.some.inj hfn'
   have ha := YC
   rw [hbody] at ha
   exact ⟨BP, ha, YV ht⟩
 . have hfn' : Pg.funcs[94]? = some fn := hfn
   rw [Zr] at hfn'
   obtain rfl := Option.some.inj hfn'
   have ha := Sl
   rw [hbody] at ha
   exact ⟨CY, ha, abl ht⟩
 . have hfn' : Pg.funcs[99]? = some fn := hfn
   rw [V7] at hfn'
   obtain rfl := Option.some.inj hfn'
   have ha := adw
   rw [hbody] at ha
   exact ⟨BH, ha, adk ht⟩
 . exact absurd ht (by simp)
theorem Zm (F : Tab) : (cx F).RH := by
 intro dep f args M t ht R K r hgo
 simp only [cx] at ht
 split at ht
 . exact RO ht R K r hgo
 . exact Yk ht R K r hgo
 . exact Uk ht R K r hgo
 . exact Um ht R K r hgo
 . split at ht
   . rename_i t2 h2
     obtain rfl := Option.some.inj ht
     exact abf h2 R K r hgo
   . exact ZW ht R K r hgo
 . split at ht
   . rename_i t2 h2
     obtain rfl := Option.some.inj ht
     exact acA h2 R K r hgo
   . exact YD ht R K r hgo
 . split at ht
   . rename_i t2 h2
     obtain rfl := Option.some.inj ht
     exact XG h2 R K r hgo
   . split at ht
     . rename_i t2 h2
       obtain rfl := Option.some.inj ht
       exact SS h2 R K r hgo
     . exact abu ht R K r hgo
 . exact V6 ht R K r hgo
 . exact aeo ht R K r hgo
 . exact SH ht R K r hgo
 . exact adq ht R K r hgo
 . exact aeI ht R K r hgo
 . exact absurd ht (by simp)
theorem Tk (F : Tab) : (cx F).KH := by
 intro dep f args M v rs ht R K r hgo
 simp only [cx] at ht
 split at ht
 . exact YU F ht K r hgo
 . exact absurd ht (by simp)
theorem loops (F : Tab) : (cx F).Loops := ⟨acu F, Zm F, Tk F⟩
noncomputable abbrev D : Nat -> Tab := Dt cx 6
theorem ac8 (k : Nat) : FB Pg (D k) := MP (P := Pg) (C := cx) (kn := kn) (fun _ => rfl) (fun _ => rfl) loops k
end Go.Proofs.YtcknhfnbdgleiaaGreat
