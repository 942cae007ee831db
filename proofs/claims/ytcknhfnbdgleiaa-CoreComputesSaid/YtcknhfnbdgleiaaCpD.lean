/- All that is said of loops is so; the functions' table. (Printed by a program of mine, gen.py.) -/
import Derived.Test.YtcknhfnbdgleiaaCpL0
set_option linter.unusedVariables false
set_option linter.unusedSimpArgs false
namespace Go.Proofs.Ytcknhfnbdgleiaa.Computes
open Go.AE

theorem fn_14 : Pg.funcs[14]? = some Try.f14 := by kernel_rfl
set_option maxRecDepth 100000 in
theorem Mw (F : Tab) : (cx F).MS := by
 intro dep f id fr M t ht fn body hfn hbody
 simp only [cx] at ht
 split at ht
 · have hfn' : Pg.funcs[14]? = some fn := hfn
   rw [fn_14] at hfn'
   obtain rfl := Option.some.inj hfn'
   have ha := rX
   rw [hbody] at ha
   exact ⟨aL, ha, fun R K r hgo => rJ F ht K r hgo⟩
 · exact absurd ht (by simp)
theorem Rm (F : Tab) : (cx F).Acts := Ctx.noActs fun _ _ _ _ => rfl
theorem Qx (F : Tab) : (cx F).News := Ctx.noNews fun _ _ _ _ => rfl
theorem loops (F : Tab) : (cx F).Loops := ⟨Mw F, Rm F, Qx F⟩
/-- What the functions return, over the other table. -/
noncomputable abbrev E (k : Nat) : Tab := fun f args => fnV (cx (D k)) 6 f args
theorem PU {P : Program} {x : Ctx} {kn : List FuncId} {F : Tab} (hP : x.P = P) (hs : x.spec = JA P kn F) (hL : x.Loops) (hF : GI P F) : GI P (fun f args => fnV x 6 f args) := fun f args v e => by
 have hg : x.Good := D5 (by rw [hs, hP]) (by rw [hP]; exact hF)
 have := GU hg hL e
 rwa [hP] at this
theorem P_of (F : Tab) : (cx F).P = Pg := rfl
theorem Qc (F : Tab) : (cx F).spec = JA Pg kn F := rfl
theorem E_of (F : Tab) (h : GI Pg F) : GI Pg (fun f args => fnV (cx F) 6 f args) := PU (P_of F) (Qc F) (loops F) h
theorem E_ok (k : Nat) : GI Pg (E k) := E_of (D k) (D_ok k)
end Go.Proofs.Ytcknhfnbdgleiaa.Computes
