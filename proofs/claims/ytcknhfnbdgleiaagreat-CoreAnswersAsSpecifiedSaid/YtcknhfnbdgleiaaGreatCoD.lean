/- All that is said of loops is so; the functions' table. (Printed by a program of mine, gen.py.) -/
import Derived.Test.YtcknhfnbdgleiaaGreatCoL0
set_option linter.unusedVariables false
set_option linter.unusedSimpArgs false
set_option maxRecDepth 100000
namespace Go.Proofs.YtcknhfnbdgleiaaGreat
open Go.AE
theorem QL : Pg.funcs[8]? = some Tryz.f8 := by kernel_rfl
theorem RN : Pg.funcs[23]? = some Tryz.f23 := by kernel_rfl
theorem IB : Pg.funcs[25]? = some Tryz.f25 := by kernel_rfl
theorem ZG : Pg.funcs[27]? = some Tryz.f27 := by kernel_rfl
theorem ZL : Pg.funcs[36]? = some Tryz.f36 := by kernel_rfl
theorem aan : Pg.funcs[37]? = some Tryz.f37 := by kernel_rfl
theorem aaD : Pg.funcs[40]? = some Tryz.f40 := by kernel_rfl
theorem X5 : Pg.funcs[43]? = some Tryz.f43 := by kernel_rfl
theorem Km : Pg.funcs[71]? = some Tryz.f71 := by kernel_rfl
theorem ady : Pg.funcs[93]? = some Tryz.f93 := by kernel_rfl
theorem Ro : Pg.funcs[94]? = some Tryz.f94 := by kernel_rfl
theorem abh : Pg.funcs[99]? = some Tryz.f99 := by kernel_rfl
theorem ZT (F : Tab) : (cx F).KJ := by
 intro dep f id fr M t ht fn body hfn hbody
 simp only [cx] at ht
 split at ht
 . have hfn' : Pg.funcs[8]? = some fn := hfn
   rw [QL] at hfn'
   obtain rfl := Option.some.inj hfn'
   have ha := R4
   rw [hbody] at ha
   exact ⟨Cn, ha, Sz ht⟩
 . have hfn' : Pg.funcs[8]? = some fn := hfn
   rw [QL] at hfn'
   obtain rfl := Option.some.inj hfn'
   have ha := VD
   rw [hbody] at ha
   exact ⟨Cz, ha, aa7 ht⟩
 . have hfn' : Pg.funcs[23]? = some fn := hfn
   rw [RN] at hfn'
   obtain rfl := Option.some.inj hfn'
   have ha := UF
   rw [hbody] at ha
   exact ⟨BF, ha, Yr ht⟩
 . have hfn' : Pg.funcs[25]? = some fn := hfn
   rw [IB] at hfn'
   obtain rfl := Option.some.inj hfn'
   have ha := Vl
   rw [hbody] at ha
   exact ⟨Bp, ha, SY ht⟩
 . have hfn' : Pg.funcs[25]? = some fn := hfn
   rw [IB] at hfn'
   obtain rfl := Option.some.inj hfn'
   have ha := Sv
   rw [hbody] at ha
   exact ⟨DK, ha, XG ht⟩
 . have hfn' : Pg.funcs[27]? = some fn := hfn
   rw [ZG] at hfn'
   obtain rfl := Option.some.inj hfn'
   have ha := Zc
   rw [hbody] at ha
   exact ⟨BG, ha, acS ht⟩
 . have hfn' : Pg.funcs[36]? = some fn := hfn
   rw [ZL] at hfn'
   obtain rfl := Option.some.inj hfn'
   have ha := Yg
   rw [hbody] at ha
   exact ⟨Ak, ha, abb ht⟩
 . have hfn' : Pg.funcs[37]? = some fn := hfn
   rw [aan] at hfn'
   obtain rfl := Option.some.inj hfn'
   have ha := Vo
   rw [hbody] at ha
   exact ⟨Ai, ha, ZP ht⟩
 . have hfn' : Pg.funcs[40]? = some fn := hfn
   rw [aaD] at hfn'
   obtain rfl := Option.some.inj hfn'
   have ha := SI
   rw [hbody] at ha
   exact ⟨Dz, ha, Y2 ht⟩
 . have hfn' : Pg.funcs[43]? = some fn := hfn
   rw [X5] at hfn'
   obtain rfl := Option.some.inj hfn'
   have ha := Xi
   rw [hbody] at ha
   exact ⟨Cj, ha, Uj ht⟩
 . have hfn' : Pg.funcs[71]? = some fn := hfn
   rw [Km] at hfn'
   obtain rfl := Option.some.inj hfn'
   have ha := YV
   rw [hbody] at ha
   exact ⟨zm, ha, Uz ht⟩
 . have hfn' : Pg.funcs[71]? = some fn := hfn
   rw [Km] at hfn'
   obtain rfl := Option.some.inj hfn'
   have ha := Vf
   rw [hbody] at ha
   exact ⟨C8, ha, aar ht⟩
 . have hfn' : Pg.funcs[93]? = some fn := hfn
   rw [ady] at hfn'
   obtain rfl := Option.some.inj hfn'
   have ha := abX
   rw [hbody] at ha
   exact ⟨DN, ha, Xg ht⟩
 . have hfn' : Pg.funcs[94]? = some fn := hfn
   rw [Ro] at hfn'
   obtain rfl := Option.some.inj hfn'
   have ha := X8
   rw [hbody] at ha
   exact ⟨DJ, ha, XF ht⟩
 . have hfn' : Pg.funcs[99]? = some fn := hfn
   rw [abh] at hfn'
   obtain rfl := Option.some.inj hfn'
   have ha := V6
   rw [hbody] at ha
   exact ⟨AL, ha, Vq ht⟩
 . exact absurd ht (by simp)
theorem Xu (F : Tab) : (cx F).Qe := by
 intro dep f args M t ht R K r hgo
 simp only [cx] at ht
 split at ht
 . exact Zr ht R K r hgo
 . exact abI ht R K r hgo
 . exact ZO ht R K r hgo
 . exact Rv ht R K r hgo
 . split at ht
   . rename_i t2 h2
     obtain rfl := Option.some.inj ht
     exact Zz h2 R K r hgo
   . exact U8 ht R K r hgo
 . split at ht
   . rename_i t2 h2
     obtain rfl := Option.some.inj ht
     exact ac9 h2 R K r hgo
   . exact aai ht R K r hgo
 . split at ht
   . rename_i t2 h2
     obtain rfl := Option.some.inj ht
     exact acC h2 R K r hgo
   . split at ht
     . rename_i t2 h2
       obtain rfl := Option.some.inj ht
       exact Tx h2 R K r hgo
     . exact abE ht R K r hgo
 . exact aak ht R K r hgo
 . exact Xj ht R K r hgo
 . exact Zo ht R K r hgo
 . exact VF ht R K r hgo
 . exact TN ht R K r hgo
 . exact absurd ht (by simp)
theorem UQ (F : Tab) : (cx F).Oj := by
 intro dep f args M v rs ht R K r hgo
 simp only [cx] at ht
 split at ht
 . exact UL F ht K r hgo
 . exact absurd ht (by simp)
theorem loops (F : Tab) : (cx F).Loops := ⟨ZT F, Xu F, UQ F⟩
noncomputable abbrev D : Nat -> Tab := Dt cx 6
theorem R6 (k : Nat) : EY Pg (D k) := KC (P := Pg) (C := cx) (kn := kn) (fun _ => rfl) (fun _ => rfl) loops k
end Go.Proofs.YtcknhfnbdgleiaaGreat
