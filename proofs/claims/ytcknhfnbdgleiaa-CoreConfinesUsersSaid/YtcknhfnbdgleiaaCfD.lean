/- All that is said of loops is so; the functions' table. (Printed by a program of mine, gen.py.) -/
import Derived.Test.YtcknhfnbdgleiaaCfL0
set_option linter.unusedVariables false
set_option linter.unusedSimpArgs false
namespace Go.Proofs.Ytcknhfnbdgleiaa.Confines
open Go.AE
theorem CY : Pg.funcs[13]? = some Try.f13 := by kernel_rfl
set_option maxRecDepth 100000 in
theorem Gp (F : Tab) : (cx F).GA := by
 intro dep f id fr M t ht fn body hfn hbody
 simp only [cx] at ht
 split at ht
 . have hfn' : Pg.funcs[13]? = some fn := hfn
   rw [CY] at hfn'
   obtain rfl := Option.some.inj hfn'
   have ha := RX
   rw [hbody] at ha
   exact ⟨qp, ha, fun R K r hgo => ZI F ht K r hgo⟩
 . have hfn' : Pg.funcs[13]? = some fn := hfn
   rw [CY] at hfn'
   obtain rfl := Option.some.inj hfn'
   have ha := YN
   rw [hbody] at ha
   exact ⟨qj, ha, fun R K r hgo => XF F ht K r hgo⟩
 . have hfn' : Pg.funcs[13]? = some fn := hfn
   rw [CY] at hfn'
   obtain rfl := Option.some.inj hfn'
   have ha := RA
   rw [hbody] at ha
   exact ⟨pG, ha, fun R K r hgo => Zu F ht K r hgo⟩
 . exact absurd ht (by simp)
theorem FP (F : Tab) : (cx F).AJ := Ctx.X9 fun _ _ _ _ => rfl
theorem Dn (F : Tab) : (cx F).Ci := Ctx.Q8 fun _ _ _ _ => rfl
theorem loops (F : Tab) : (cx F).Loops := ⟨Gp F, FP F, Dn F⟩
noncomputable abbrev E (k : Nat) : Tab := fun f args => aS (cx (D k)) 6 f args
theorem Pw {P : Program} {x : Ctx} {kn : List FuncId} {F : Tab} (hP : x.P = P) (hs : x.spec = qU P kn F) (hL : x.Loops) (hF : nu P F) : nu P (fun f args => aS x 6 f args) := fun f args v e => by
 have hg : x.Good := NQ (by rw [hs, hP]) (by rw [hP]; exact hF)
 have := KE hg hL e
 rwa [hP] at this
theorem Tv (F : Tab) : (cx F).P = Pg := rfl
theorem OW (F : Tab) : (cx F).spec = qU Pg kn F := rfl
theorem OV (F : Tab) (h : nu Pg F) : nu Pg (fun f args => aS (cx F) 6 f args) := Pw (Tv F) (OW F) (loops F) h
theorem WI (k : Nat) : nu Pg (E k) := OV (D k) (TP k)
end Go.Proofs.Ytcknhfnbdgleiaa.Confines
