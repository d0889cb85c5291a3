/- The row of the law FnExactExactLegs: whatever the input, it returns true; its arguments read as they did. No conditions. -/
import Derived.Deep.Slices
import Derived.Deep.Fields
import Derived.ChangeSame
import Derived.SizedLaws
import Derived.Test.YthplhbcafihacaaDoorKFnExactExactLegsVMore
import Derived.Test.YthplhbcafihacaaDoorCards
import Derived.Test.YthplhbcafihacaaDoorTie
import Derived.OpenVars
import Derived.ChangeVars
import Derived.SevenTiedAt
import Derived.Stop.Joined
import Derived.LaidMore
import Derived.Test.YthplhbcafihacaaDoorRows
import Derived.WalkKit
import Derived.ProofKit
import Derived.OpenShut
import Derived.ShutString
import Derived.ChangeOld
import Derived.Below
import Derived.Test.YthplhbcafihacaaDoorKFnExactExactLegs0
import Derived.Test.YthplhbcafihacaaDoorKFnExactExactLegs1
import Derived.Test.YthplhbcafihacaaDoorKFnExactExactLegs2
import Derived.Test.YthplhbcafihacaaDoorKFnExactExactLegs3
import Derived.Test.YthplhbcafihacaaDoorKFnExactExactLegsU1
import Derived.Test.YthplhbcafihacaaDoorKFnExactExactLegsU4
import Derived.Test.YthplhbcafihacaaDoorKFnExactExactLegsU5
import Derived.Test.YthplhbcafihacaaDoorKFnExactExactLegsU7
/- One Lean function and its proof for each Go function, written by a program out of the translation. No conditions. -/
namespace Go.Proofs.YthplhbcafihacaaDoor.A
open Go.Proofs.YthplhbcafihacaaDoor Go.RowKit Go.Proofs.YthplhbcafihacaaDoorW.PrintWords Go.Proofs.YthplhbcafihacaaDoorW.PrintLast Go.Proofs.YthplhbcafihacaaDoorW.PrintMore
attribute [local go_sem] max2_int min2_int max_two min_two max_three min_three max_four min_four   -- for this text's walks alone
set_option linter.unusedVariables false
set_option linter.unusedSimpArgs false

/-! ### laws_FnExactExactLegs: function 7 -/
mutual
def laws_FnExactExactLegs.j0 : Nat → List (S53) → List Int → Bool → List (S50) → List Int → Bool → Bool → Option (Bool)
 | 0, _, _, _, _, _, _, _ => none
 | k + 1, x0, x4, x5, x6, x7, x8, x40 => if x40 = true then (some false) else ((laws_toLegS.f k x0).bind fun t455 => ((laws_eqLegS.f k x6 t455).bind fun t458 => (if t458 = true then ((laws_markLegS.f k x6 1).bind fun bt459 => (if bt459.1 < 0 then (laws_FnExactExactLegs.j1 k x0 x4 x5 x7 true) else ((laws_eqIntS.f k x7 x4).bind fun t461 => (if t461 = true then (laws_FnExactExactLegs.j1 k x0 x4 x5 x7 (x8 != x5)) else (laws_FnExactExactLegs.j1 k x0 x4 x5 x7 true))))) else (some false))))
def laws_FnExactExactLegs.j1 : Nat → List (S53) → List Int → Bool → List Int → Bool → Option (Bool)
 | 0, _, _, _, _, _ => none
 | k + 1, x0, x4, x5, x7, x61 => if x61 = true then (some false) else ((laws_markIntS.f k x7 1).bind fun bt462 => ((laws_heldIntS.f k bt462.2 1).bind fun t464 => (if t464 < 0 then (some false) else (if t464 = bt462.1 then ((laws_toLegS.f k x0).bind fun t465 => ((impl_ExactLegs.f t465).bind fun bt468 => ((laws_eqIntS.f k bt468.1 x4).bind fun t472 => (if t472 = true then (laws_FnExactExactLegs.j2 k bt462.2 bt462.1 (bt468.2 != x5)) else (laws_FnExactExactLegs.j2 k bt462.2 bt462.1 true))))) else (some false)))))
def laws_FnExactExactLegs.j2 : Nat → List Int → Int → Bool → Option (Bool)
 | 0, _, _, _ => none
 | k + 1, x7, x10, x87 => if x87 = true then (some false) else ((laws_heldIntS.f k x7 1).bind fun t473 => (if t473 < 0 then (some false) else (if t473 = x10 then (some true) else (some false))))
end
def laws_FnExactExactLegs.f (k : Nat) (l0 : List (S53)) : Option (Bool) := (laws_szLegS.f l0 1048576).bind fun t439 => (if t439 < 0 then (some true) else ((laws_toLegS.f k l0).bind fun t440 => ((spec_ExactLegs.f k t440).bind fun bt443 => ((laws_toLegS.f k l0).bind fun t447 => ((impl_ExactLegs.f t447).bind fun bt450 => ((laws_eqIntS.f k bt450.1 bt443.1).bind fun t454 => (if t454 = true then (laws_FnExactExactLegs.j0 k l0 bt443.1 bt443.2 t447 bt450.1 bt450.2 (bt450.2 != bt443.2)) else (laws_FnExactExactLegs.j0 k l0 bt443.1 bt443.2 t447 bt450.1 bt450.2 true))))))))
theorem laws_FnExactExactLegs.mono_l : ∀ k, (∀ y0 y1 y2 y3 y4 y5 y6, LeO (laws_FnExactExactLegs.j0 k y0 y1 y2 y3 y4 y5 y6) (laws_FnExactExactLegs.j0 (k + 1) y0 y1 y2 y3 y4 y5 y6)) ∧ (∀ y0 y1 y2 y3 y4, LeO (laws_FnExactExactLegs.j1 k y0 y1 y2 y3 y4) (laws_FnExactExactLegs.j1 (k + 1) y0 y1 y2 y3 y4)) ∧ (∀ y0 y1 y2, LeO (laws_FnExactExactLegs.j2 k y0 y1 y2) (laws_FnExactExactLegs.j2 (k + 1) y0 y1 y2))
 | 0 => ⟨fun _ _ _ _ _ _ _ r h => by simp [laws_FnExactExactLegs.j0] at h, fun _ _ _ _ _ r h => by simp [laws_FnExactExactLegs.j1] at h, fun _ _ _ r h => by simp [laws_FnExactExactLegs.j2] at h⟩
 | k + 1 => by
  obtain ⟨ih0, ih1, ih2⟩ := laws_FnExactExactLegs.mono_l k
  refine ⟨?_, ?_, ?_⟩
  ·
   intro y0 y1 y2 y3 y4 y5 y6
   unfold laws_FnExactExactLegs.j0
   repeat' first
   | (with_reducible exact ih0 _ _ _ _ _ _ _)
   | (with_reducible exact ih1 _ _ _ _ _)
   | (with_reducible exact ih2 _ _ _)
   | (with_reducible exact laws_eqIntS.mono _ _ _)
   | (with_reducible exact laws_eqLegS.mono _ _ _)
   | (with_reducible exact laws_heldIntS.mono _ _ _)
   | (with_reducible exact laws_markIntS.mono _ _ _)
   | (with_reducible exact laws_markLegS.mono _ _ _)
   | (with_reducible exact laws_toLegS.mono _ _)
   | (with_reducible exact spec_ExactLegs.mono _ _)
   | (with_reducible exact LeO.refl _)
   | (with_reducible exact LeO.none _)
   | (with_reducible refine LeO.ite ?_ ?_)
   | (with_reducible refine LeO.bind ?_ (fun _ => ?_))
   | exact ih0 _ _ _ _ _ _ _
   | exact ih1 _ _ _ _ _
   | exact ih2 _ _ _
   | exact laws_eqIntS.mono _ _ _
   | exact laws_eqLegS.mono _ _ _
   | exact laws_heldIntS.mono _ _ _
   | exact laws_markIntS.mono _ _ _
   | exact laws_markLegS.mono _ _ _
   | exact laws_toLegS.mono _ _
   | exact spec_ExactLegs.mono _ _
   | exact LeO.none _
   | refine LeO.ite ?_ ?_
   | refine LeO.bind ?_ (fun _ => ?_)
  ·
   intro y0 y1 y2 y3 y4
   unfold laws_FnExactExactLegs.j1
   repeat' first
   | (with_reducible exact ih0 _ _ _ _ _ _ _)
   | (with_reducible exact ih1 _ _ _ _ _)
   | (with_reducible exact ih2 _ _ _)
   | (with_reducible exact laws_eqIntS.mono _ _ _)
   | (with_reducible exact laws_eqLegS.mono _ _ _)
   | (with_reducible exact laws_heldIntS.mono _ _ _)
   | (with_reducible exact laws_markIntS.mono _ _ _)
   | (with_reducible exact laws_markLegS.mono _ _ _)
   | (with_reducible exact laws_toLegS.mono _ _)
   | (with_reducible exact spec_ExactLegs.mono _ _)
   | (with_reducible exact LeO.refl _)
   | (with_reducible exact LeO.none _)
   | (with_reducible refine LeO.ite ?_ ?_)
   | (with_reducible refine LeO.bind ?_ (fun _ => ?_))
   | exact ih0 _ _ _ _ _ _ _
   | exact ih1 _ _ _ _ _
   | exact ih2 _ _ _
   | exact laws_eqIntS.mono _ _ _
   | exact laws_eqLegS.mono _ _ _
   | exact laws_heldIntS.mono _ _ _
   | exact laws_markIntS.mono _ _ _
   | exact laws_markLegS.mono _ _ _
   | exact laws_toLegS.mono _ _
   | exact spec_ExactLegs.mono _ _
   | exact LeO.none _
   | refine LeO.ite ?_ ?_
   | refine LeO.bind ?_ (fun _ => ?_)
  ·
   intro y0 y1 y2
   unfold laws_FnExactExactLegs.j2
   repeat' first
   | (with_reducible exact ih0 _ _ _ _ _ _ _)
   | (with_reducible exact ih1 _ _ _ _ _)
   | (with_reducible exact ih2 _ _ _)
   | (with_reducible exact laws_eqIntS.mono _ _ _)
   | (with_reducible exact laws_eqLegS.mono _ _ _)
   | (with_reducible exact laws_heldIntS.mono _ _ _)
   | (with_reducible exact laws_markIntS.mono _ _ _)
   | (with_reducible exact laws_markLegS.mono _ _ _)
   | (with_reducible exact laws_toLegS.mono _ _)
   | (with_reducible exact spec_ExactLegs.mono _ _)
   | (with_reducible exact LeO.refl _)
   | (with_reducible exact LeO.none _)
   | (with_reducible refine LeO.ite ?_ ?_)
   | (with_reducible refine LeO.bind ?_ (fun _ => ?_))
   | exact ih0 _ _ _ _ _ _ _
   | exact ih1 _ _ _ _ _
   | exact ih2 _ _ _
   | exact laws_eqIntS.mono _ _ _
   | exact laws_eqLegS.mono _ _ _
   | exact laws_heldIntS.mono _ _ _
   | exact laws_markIntS.mono _ _ _
   | exact laws_markLegS.mono _ _ _
   | exact laws_toLegS.mono _ _
   | exact spec_ExactLegs.mono _ _
   | exact LeO.none _
   | refine LeO.ite ?_ ?_
   | refine LeO.bind ?_ (fun _ => ?_)
theorem laws_FnExactExactLegs.mono : ∀ a0 k, LeO (laws_FnExactExactLegs.f k a0) (laws_FnExactExactLegs.f (k + 1) a0) := by
 intro a0 k
 obtain ⟨ih0, ih1, ih2⟩ := laws_FnExactExactLegs.mono_l k
 unfold laws_FnExactExactLegs.f
 repeat' first
   | (with_reducible exact ih0 _ _ _ _ _ _ _)
   | (with_reducible exact ih1 _ _ _ _ _)
   | (with_reducible exact ih2 _ _ _)
   | (with_reducible exact laws_eqIntS.mono _ _ _)
   | (with_reducible exact laws_eqLegS.mono _ _ _)
   | (with_reducible exact laws_heldIntS.mono _ _ _)
   | (with_reducible exact laws_markIntS.mono _ _ _)
   | (with_reducible exact laws_markLegS.mono _ _ _)
   | (with_reducible exact laws_toLegS.mono _ _)
   | (with_reducible exact spec_ExactLegs.mono _ _)
   | (with_reducible exact LeO.refl _)
   | (with_reducible exact LeO.none _)
   | (with_reducible refine LeO.ite ?_ ?_)
   | (with_reducible refine LeO.bind ?_ (fun _ => ?_))
   | exact ih0 _ _ _ _ _ _ _
   | exact ih1 _ _ _ _ _
   | exact ih2 _ _ _
   | exact laws_eqIntS.mono _ _ _
   | exact laws_eqLegS.mono _ _ _
   | exact laws_heldIntS.mono _ _ _
   | exact laws_markIntS.mono _ _ _
   | exact laws_markLegS.mono _ _ _
   | exact laws_toLegS.mono _ _
   | exact spec_ExactLegs.mono _ _
   | exact LeO.none _
   | refine LeO.ite ?_ ?_
   | refine LeO.bind ?_ (fun _ => ?_)
set_option maxHeartbeats 8000000 in
set_option maxRecDepth 100000 in
theorem laws_FnExactExactLegs.calls (k : Nat) (A0 : Option Addr) (c0 : Nat) (l0 : List (S53)) (r : Bool) (w : World) (hr0 : Kd.C k53 w A0 l0.length l0) (hc0 : l0.length ≤ c0) (h : laws_FnExactExactLegs.f k l0 = some true) (hL : Net.Sine.Laid w) :
  Calls Tryd.prog 7 #[.slice A0 l0.length c0] w fun e w' => e = .returned (.bool true) ∧ Below w.heap.size w w' := by
 have HL := Aside0.mk hL
 clear hL
 have HR0 := Aside0.mk hr0
 have HC0 := Aside0.mk hc0
 clear hr0 hc0
 have HB := Aside0.mk (Below.refl w.heap.size w)
 have H : ((laws_szLegS.f l0 1048576).bind fun t439 => (if t439 < 0 then (some true) else ((laws_toLegS.f k l0).bind fun t440 => ((spec_ExactLegs.f k t440).bind fun bt443 => ((laws_toLegS.f k l0).bind fun t447 => ((impl_ExactLegs.f t447).bind fun bt450 => ((laws_eqIntS.f k bt450.1 bt443.1).bind fun t454 => (if t454 = true then (laws_FnExactExactLegs.j0 k l0 bt443.1 bt443.2 t447 bt450.1 bt450.2 (bt450.2 != bt443.2)) else (laws_FnExactExactLegs.j0 k l0 bt443.1 bt443.2 t447 bt450.1 bt450.2 true))))))))) = some true := h
 clear h
 replace H := Option.bind_eq_some_iff.mp H
 obtain ⟨t439, A20, H⟩ := H
 replace H : (if t439 < 0 then (some true) else ((laws_toLegS.f k l0).bind fun t440 => ((spec_ExactLegs.f k t440).bind fun bt443 => ((laws_toLegS.f k l0).bind fun t447 => ((impl_ExactLegs.f t447).bind fun bt450 => ((laws_eqIntS.f k bt450.1 bt443.1).bind fun t454 => (if t454 = true then (laws_FnExactExactLegs.j0 k l0 bt443.1 bt443.2 t447 bt450.1 bt450.2 (bt450.2 != bt443.2)) else (laws_FnExactExactLegs.j0 k l0 bt443.1 bt443.2 t447 bt450.1 bt450.2 true)))))))) = some true := H
 have A2 := Aside0.mk A20
 clear A20
 by_cases c3 : t439 < 0
 ·
  rw [if_pos c3] at H
  have c3b0 : decide (t439 < 0) = true := decide_eq_true c3
  clear c3
  go_enter Tryd.func7, Tryd.ntmps7
  go_wp2_with (first | ((with_reducible refine gate_callee (f := 8) rfl ?_); refine goesL_ (some 16) rfl rfl Tryd.func8 qz4 rfl #[.slice A0 l0.length c0, .int .i64 1048576] rfl qz1 ?_; (with_reducible refine (laws_szLegS.calls _ _ l0 1048576 t439 _ ?side1 ?side2 A2.out).mono ?_); (case side1 => repeat (first | exact HR0.out | (with_reducible refine Kd.C_alloc ?_ _) | (with_reducible refine Kd.C_drewN ?_ _) | (with_reducible refine Kd.C_drew ?_))); (case side2 => exact HC0.out); rintro e w' ⟨rfl, ⟨nd, rfl⟩⟩; refine ⟨_, rfl, ?_⟩))
  go_ret
  exact ⟨by first | rfl | (simp [errW_none, errW_some] <;> rfl) | (simp [*, errW_none, errW_some] <;> rfl), by repeat (first | (with_reducible first | exact HB.out | apply below_alloc | apply pw_below_drewN | apply below_drew1) | exact HB.out)⟩
 ·
  rw [if_neg c3] at H
  have c3b0 : decide (t439 < 0) = false := decide_eq_false c3
  clear c3
  replace H := Option.bind_eq_some_iff.mp H
  obtain ⟨t440, A40, H⟩ := H
  replace H : ((spec_ExactLegs.f k t440).bind fun bt443 => ((laws_toLegS.f k l0).bind fun t447 => ((impl_ExactLegs.f t447).bind fun bt450 => ((laws_eqIntS.f k bt450.1 bt443.1).bind fun t454 => (if t454 = true then (laws_FnExactExactLegs.j0 k l0 bt443.1 bt443.2 t447 bt450.1 bt450.2 (bt450.2 != bt443.2)) else (laws_FnExactExactLegs.j0 k l0 bt443.1 bt443.2 t447 bt450.1 bt450.2 true)))))) = some true := H
  have A4 := Aside0.mk A40
  clear A40
  replace H := Option.bind_eq_some_iff.mp H
  obtain ⟨⟨t443, t444⟩, A50, H⟩ := H
  replace H : ((laws_toLegS.f k l0).bind fun t447 => ((impl_ExactLegs.f t447).bind fun bt450 => ((laws_eqIntS.f k bt450.1 t443).bind fun t454 => (if t454 = true then (laws_FnExactExactLegs.j0 k l0 t443 t444 t447 bt450.1 bt450.2 (bt450.2 != t444)) else (laws_FnExactExactLegs.j0 k l0 t443 t444 t447 bt450.1 bt450.2 true))))) = some true := H
  have A5 := Aside0.mk A50
  clear A50
  replace H := Option.bind_eq_some_iff.mp H
  obtain ⟨t447, A60, H⟩ := H
  replace H : ((impl_ExactLegs.f t447).bind fun bt450 => ((laws_eqIntS.f k bt450.1 t443).bind fun t454 => (if t454 = true then (laws_FnExactExactLegs.j0 k l0 t443 t444 t447 bt450.1 bt450.2 (bt450.2 != t444)) else (laws_FnExactExactLegs.j0 k l0 t443 t444 t447 bt450.1 bt450.2 true)))) = some true := H
  have A6 := Aside0.mk A60
  clear A60
  replace H := Option.bind_eq_some_iff.mp H
  obtain ⟨⟨t450, t451⟩, A70, H⟩ := H
  replace H : ((laws_eqIntS.f k t450 t443).bind fun t454 => (if t454 = true then (laws_FnExactExactLegs.j0 k l0 t443 t444 t447 t450 t451 (t451 != t444)) else (laws_FnExactExactLegs.j0 k l0 t443 t444 t447 t450 t451 true))) = some true := H
  have A7 := Aside0.mk A70
  clear A70
  have HC8 := Aside0.mk H
  clear H
  go_enter Tryd.func7, Tryd.ntmps7
  go_upto_region 8 with (first | ((with_reducible refine gate_callee (f := 8) rfl ?_); refine goesL_ (some 16) rfl rfl Tryd.func8 qz4 rfl #[.slice A0 l0.length c0, .int .i64 1048576] rfl qz1 ?_; (with_reducible refine (laws_szLegS.calls _ _ l0 1048576 t439 _ ?side1 ?side2 A2.out).mono ?_); (case side1 => repeat (first | exact HR0.out | (with_reducible refine Kd.C_alloc ?_ _) | (with_reducible refine Kd.C_drewN ?_ _) | (with_reducible refine Kd.C_drew ?_))); (case side2 => exact HC0.out); rintro e w' ⟨rfl, ⟨nd, rfl⟩⟩; refine ⟨_, rfl, ?_⟩) | ((with_reducible refine gate_callee (f := 10) rfl ?_); refine goesL_ (some 21) rfl rfl Tryd.func10 qz4 rfl #[.slice A0 l0.length c0] rfl qz1 ?_; (with_reducible refine (laws_toLegS.calls k _ _ l0 t440 _ ?side1 ?side2 A4.out).mono ?_); (case side1 => repeat (first | exact HR0.out | (with_reducible refine Kd.C_alloc ?_ _) | (with_reducible refine Kd.C_drewN ?_ _) | (with_reducible refine Kd.C_drew ?_))); (case side2 => exact HC0.out); rintro e w9 ⟨v441, rfl, ho0, hb⟩; refine ⟨_, rfl, ?_⟩; have n0_ := Aside0.mk (Kd.R_lower ho0 (below_size qz0)); have n1_ := Aside0.mk (below_step qz0 hb); clear HB; have HO442 := n0_; have HB := n1_; clear n0_ n1_; (try clear hb); (try clear hb2); (try clear hk); (try clear hi); (try clear ho0); obtain ⟨Ao10, co10, eo10⟩ := Kd.R_slice HO442.out; subst eo10) | ((with_reducible refine gate_callee (f := 19) rfl ?_); refine goesL_ (some 22) rfl rfl Tryd.func19 qz4 rfl #[.slice Ao10 t440.length co10] rfl qz1 ?_; (with_reducible refine (spec_ExactLegs.calls k _ _ t440 t443 t444 _ ?side1 ?side2 A5.out ?sideL).mono ?_); (case sideL => exact HL.out.keep qz0); (case side1 => repeat (first | exact (Kd.R_reads' HO442.out).2.2 | (with_reducible refine Kd.C_alloc ?_ _) | (with_reducible refine Kd.C_drewN ?_ _) | (with_reducible refine Kd.C_drew ?_))); (case side2 => exact (Kd.R_reads' HO442.out).2.1); rintro e w11 ⟨v445, rfl, ho0, hb⟩; refine ⟨_, rfl, ?_⟩; have n0_ := Aside0.mk (Kd.R_below (by (with_reducible repeat (first | apply Kd.R_alloc | apply Kd.R_drewN | apply Kd.R_drew)); exact HO442.out) hb); have n1_ := Aside0.mk (Kd.R_lower ho0 (below_size qz0)); have n2_ := Aside0.mk (below_step qz0 hb); clear HO442; clear HB; have HO442 := n0_; have HO446 := n1_; have HB := n2_; clear n0_ n1_ n2_; (try clear hb); (try clear hb2); (try clear hk); (try clear hi); (try clear ho0)) | ((with_reducible refine gate_callee (f := 10) rfl ?_); refine goesL_ (some 26) rfl rfl Tryd.func10 qz4 rfl #[.slice A0 l0.length c0] rfl qz1 ?_; (with_reducible refine (laws_toLegS.calls k _ _ l0 t447 _ ?side1 ?side2 A6.out).mono ?_); (case side1 => repeat (first | exact (Kd.C_below HR0.out HB.out) | (with_reducible refine Kd.C_alloc ?_ _) | (with_reducible refine Kd.C_drewN ?_ _) | (with_reducible refine Kd.C_drew ?_))); (case side2 => exact HC0.out); rintro e w12 ⟨v448, rfl, ho0, hb⟩; refine ⟨_, rfl, ?_⟩; have n0_ := Aside0.mk (Kd.R_elder' (by (with_reducible repeat (first | apply Kd.R_alloc | apply Kd.R_drewN | apply Kd.R_drew)); exact HO442.out) (Kd.R_base ho0) hb); have n1_ := Aside0.mk (Kd.R_below (by (with_reducible repeat (first | apply Kd.R_alloc | apply Kd.R_drewN | apply Kd.R_drew)); exact HO446.out) hb); have n2_ := Aside0.mk (Kd.R_lower (Kd.R_new' ho0 (Kd.R_lt (by (with_reducible repeat (first | apply Kd.R_alloc | apply Kd.R_drewN | apply Kd.R_drew)); exact HO442.out))) (below_size qz0)); have n3_ := Aside0.mk (below_step qz0 hb); clear HO442; clear HO446; clear HB; have HO442 := n0_; have HO446 := n1_; have HO449 := n2_; have HB := n3_; clear n0_ n1_ n2_ n3_; (try clear hb); (try clear hb2); (try clear hk); (try clear hi); (try clear ho0); obtain ⟨Ao13, co13, eo13⟩ := Kd.R_slice HO449.out; subst eo13) | ((with_reducible refine gate_callee (f := 20) rfl ?_); refine goesL_ (some 29) rfl rfl Tryd.func20 qz4 rfl #[.slice Ao13 t447.length co13] rfl qz1 ?_; (with_reducible refine (impl_ExactLegs.calls _ _ t447 t450 t451 _ ?side1 ?side2 A7.out ?sideL).mono ?_); (case sideL => exact HL.out.keep qz0); (case side1 => repeat (first | exact (Kd.R_reads' HO449.out).2.2 | (with_reducible refine Kd.C_alloc ?_ _) | (with_reducible refine Kd.C_drewN ?_ _) | (with_reducible refine Kd.C_drew ?_))); (case side2 => exact (Kd.R_reads' HO449.out).2.1); rintro e w14 ⟨v452, rfl, ho0, hb⟩; refine ⟨_, rfl, ?_⟩; have n0_ := Aside0.mk (Kd.R_below (by (with_reducible repeat (first | apply Kd.R_alloc | apply Kd.R_drewN | apply Kd.R_drew)); exact HO442.out) hb); have n1_ := Aside0.mk (Kd.R_elder' (by (with_reducible repeat (first | apply Kd.R_alloc | apply Kd.R_drewN | apply Kd.R_drew)); exact HO446.out) (Kd.R_base ho0) hb); have n2_ := Aside0.mk (Kd.R_below (by (with_reducible repeat (first | apply Kd.R_alloc | apply Kd.R_drewN | apply Kd.R_drew)); exact HO449.out) hb); have n3_ := Aside0.mk (Kd.R_lower (Kd.R_new' ho0 (Kd.R_lt (by (with_reducible repeat (first | apply Kd.R_alloc | apply Kd.R_drewN | apply Kd.R_drew)); exact HO446.out))) (below_size qz0)); have n4_ := Aside0.mk (below_step qz0 hb); clear HO442; clear HO446; clear HO449; clear HB; have HO442 := n0_; have HO446 := n1_; have HO449 := n2_; have HO453 := n3_; have HB := n4_; clear n0_ n1_ n2_ n3_ n4_; (try clear hb); (try clear hb2); (try clear hk); (try clear hi); (try clear ho0)))
  (try simp only [Act.put, List.setIfInBounds_toArray, List.set_cons_zero, List.set_cons_succ])
  go_cut [40] (fun v40 wc => ∃ (kq : Nat) (x40_7 : Bool), v40 = .bool x40_7 ∧ Aside0 (laws_FnExactExactLegs.j0 kq l0 t443 t444 t447 t450 t451 x40_7 = some true) ∧ Aside0 (kq ≤ k) ∧ Aside0 (Kd.R (Kd.int .i64) 3 wc w.heap.size (fun k_ => some k_ ≠ (v452 : Value).ownBlock) v445 t443) ∧ Aside0 (Kd.R k50 50 wc w.heap.size (fun _ => True) (.slice Ao13 t447.length co13) t447) ∧ Aside0 (Kd.R (Kd.int .i64) 3 wc w.heap.size (fun k_ => some k_ ≠ (v445 : Value).ownBlock) v452 t450) ∧ Aside0 (Below w.heap.size w wc))
  case first =>
   have H := HC8.out
   clear HC8
   replace H := Option.bind_eq_some_iff.mp H
   obtain ⟨t454, A150, H⟩ := H
   replace H : (if t454 = true then (laws_FnExactExactLegs.j0 k l0 t443 t444 t447 t450 t451 (t451 != t444)) else (laws_FnExactExactLegs.j0 k l0 t443 t444 t447 t450 t451 true)) = some true := H
   have A15 := Aside0.mk A150
   clear A150
   by_cases c16 : t454 = true
   ·
    subst c16
    have H1 : (laws_FnExactExactLegs.j0 k l0 t443 t444 t447 t450 t451 (t451 != t444)) = some true := by rw [if_pos rfl] at H; exact H
    clear H
    have H := H1
    clear H1
    have H' := Aside0.mk H
    clear H
    obtain ⟨Ao17, co17, eo17⟩ := Kd.R_slice HO453.out
    subst eo17
    obtain ⟨Ao18, co18, eo18⟩ := Kd.R_slice HO446.out
    subst eo18
    go_wp2_with (first | ((with_reducible refine gate_callee (f := 21) rfl ?_); refine goesL_ (some 34) rfl rfl Tryd.func21 qz4 rfl #[.slice Ao17 t450.length co17, .slice Ao18 t443.length co18] rfl qz1 ?_; (with_reducible refine (laws_eqIntS.calls k _ _ t450 _ _ t443 true _ ?side1 ?side2 ?side3 ?side4 A15.out).mono ?_); (case side1 => repeat (first | exact (Kd.R_reads' HO453.out).2.2 | (with_reducible refine Kd.C_alloc ?_ _) | (with_reducible refine Kd.C_drewN ?_ _) | (with_reducible refine Kd.C_drew ?_))); (case side2 => exact (Kd.R_reads' HO453.out).2.1); (case side3 => repeat (first | exact (Kd.R_reads' HO446.out).2.2 | (with_reducible refine Kd.C_alloc ?_ _) | (with_reducible refine Kd.C_drewN ?_ _) | (with_reducible refine Kd.C_drew ?_))); (case side4 => exact (Kd.R_reads' HO446.out).2.1); rintro e w' ⟨rfl, ⟨nd, rfl⟩⟩; refine ⟨_, rfl, ?_⟩))
    go_meet
    case rel => exact ⟨_, ((t451 != t444)), qz5, H', ⟨by first | omega | exact Nat.le_refl _⟩, ⟨by (with_reducible repeat (first | apply Kd.R_alloc | apply Kd.R_drewN | apply Kd.R_drew)); exact Kd.R_mono HO446.out (fun _ hk => hk.2)⟩, ⟨by (with_reducible repeat (first | apply Kd.R_alloc | apply Kd.R_drewN | apply Kd.R_drew)); exact Kd.R_mono HO449.out (fun _ hk => trivial)⟩, ⟨by (with_reducible repeat (first | apply Kd.R_alloc | apply Kd.R_drewN | apply Kd.R_drew)); exact Kd.R_mono HO453.out (fun _ hk => hk.2)⟩, ⟨by repeat (first | (with_reducible first | exact HB.out | apply below_alloc | apply pw_below_drewN | apply below_drew1) | exact HB.out)⟩⟩
   ·
    replace c16 := Bool.eq_false_iff.mpr c16
    subst c16
    have H1 : (laws_FnExactExactLegs.j0 k l0 t443 t444 t447 t450 t451 true) = some true := by rw [if_neg (show ¬ (false = true) by decide)] at H; exact H
    clear H
    have H := H1
    clear H1
    exact absurd H (by cases k <;> simp [laws_FnExactExactLegs.j0])
  case rest =>
   clear HC8
   try clear c1
   try clear c2
   try clear p2
   try clear c3
   try clear c3b0
   try clear c7
   try clear c8
   try clear c10
   try clear c16
   try clear c19
   try clear c20
   obtain ⟨kq, x40_7, rfl, HA, HJ7, HO_4, HO_6, HO_7, HB⟩ := hcut
   cases kq with
   | zero => exact absurd HA.out (by simp [laws_FnExactExactLegs.j0])
   | succ kj7 =>
    have H := HA.out
    clear HA
    simp only [laws_FnExactExactLegs.j0] at H
    by_cases c21 : x40_7 = true
    ·
     subst c21
     have H1 : (some false) = some true := by rw [if_pos rfl] at H; exact H
     clear H
     have H := H1
     clear H1
     exact absurd (Option.some.inj H) (by decide)
    ·
     replace c21 := Bool.eq_false_iff.mpr c21
     subst c21
     have H1 : ((laws_toLegS.f kj7 l0).bind fun t455 => ((laws_eqLegS.f kj7 t447 t455).bind fun t458 => (if t458 = true then ((laws_markLegS.f kj7 t447 1).bind fun bt459 => (if bt459.1 < 0 then (laws_FnExactExactLegs.j1 kj7 l0 t443 t444 t450 true) else ((laws_eqIntS.f kj7 t450 t443).bind fun t461 => (if t461 = true then (laws_FnExactExactLegs.j1 kj7 l0 t443 t444 t450 (t451 != t444)) else (laws_FnExactExactLegs.j1 kj7 l0 t443 t444 t450 true))))) else (some false)))) = some true := by rw [if_neg (show ¬ (false = true) by decide)] at H; exact H
     clear H
     have H := H1
     clear H1
     replace H := Option.bind_eq_some_iff.mp H
     obtain ⟨t455, A220, H⟩ := H
     replace H : ((laws_eqLegS.f kj7 t447 t455).bind fun t458 => (if t458 = true then ((laws_markLegS.f kj7 t447 1).bind fun bt459 => (if bt459.1 < 0 then (laws_FnExactExactLegs.j1 kj7 l0 t443 t444 t450 true) else ((laws_eqIntS.f kj7 t450 t443).bind fun t461 => (if t461 = true then (laws_FnExactExactLegs.j1 kj7 l0 t443 t444 t450 (t451 != t444)) else (laws_FnExactExactLegs.j1 kj7 l0 t443 t444 t450 true))))) else (some false))) = some true := H
     have A22 := Aside0.mk A220
     clear A220
     replace H := Option.bind_eq_some_iff.mp H
     obtain ⟨t458, A230, H⟩ := H
     replace H : (if t458 = true then ((laws_markLegS.f kj7 t447 1).bind fun bt459 => (if bt459.1 < 0 then (laws_FnExactExactLegs.j1 kj7 l0 t443 t444 t450 true) else ((laws_eqIntS.f kj7 t450 t443).bind fun t461 => (if t461 = true then (laws_FnExactExactLegs.j1 kj7 l0 t443 t444 t450 (t451 != t444)) else (laws_FnExactExactLegs.j1 kj7 l0 t443 t444 t450 true))))) else (some false)) = some true := H
     have A23 := Aside0.mk A230
     clear A230
     by_cases c24 : t458 = true
     ·
      subst c24
      have H1 : ((laws_markLegS.f kj7 t447 1).bind fun bt459 => (if bt459.1 < 0 then (laws_FnExactExactLegs.j1 kj7 l0 t443 t444 t450 true) else ((laws_eqIntS.f kj7 t450 t443).bind fun t461 => (if t461 = true then (laws_FnExactExactLegs.j1 kj7 l0 t443 t444 t450 (t451 != t444)) else (laws_FnExactExactLegs.j1 kj7 l0 t443 t444 t450 true))))) = some true := by rw [if_pos rfl] at H; exact H
      clear H
      have H := H1
      clear H1
      replace H := Option.bind_eq_some_iff.mp H
      obtain ⟨⟨t459, t460⟩, A250, H⟩ := H
      replace H : (if t459 < 0 then (laws_FnExactExactLegs.j1 kj7 l0 t443 t444 t450 true) else ((laws_eqIntS.f kj7 t450 t443).bind fun t461 => (if t461 = true then (laws_FnExactExactLegs.j1 kj7 l0 t443 t444 t450 (t451 != t444)) else (laws_FnExactExactLegs.j1 kj7 l0 t443 t444 t450 true)))) = some true := H
      have A25 := Aside0.mk A250
      clear A250
      have HC26 := Aside0.mk H
      clear H
      go_upto_region 14 with (first | ((with_reducible refine gate_callee (f := 10) rfl ?_); refine goesL_ (some 43) rfl rfl Tryd.func10 qz4 rfl #[.slice A0 l0.length c0] rfl qz1 ?_; (with_reducible refine (laws_toLegS.calls kj7 _ _ l0 t455 _ ?side1 ?side2 A22.out).mono ?_); (case side1 => repeat (first | exact (Kd.C_below HR0.out HB.out) | (with_reducible refine Kd.C_alloc ?_ _) | (with_reducible refine Kd.C_drewN ?_ _) | (with_reducible refine Kd.C_drew ?_))); (case side2 => exact HC0.out); rintro e w27 ⟨v456, rfl, ho0, hb⟩; refine ⟨_, rfl, ?_⟩; have n0_ := Aside0.mk (Kd.R_below qz14 hb); have n1_ := Aside0.mk (Kd.R_elder' qz15 (Kd.R_base ho0) hb); have n2_ := Aside0.mk (Kd.R_below qz6 hb); have n3_ := Aside0.mk (Kd.R_lower (Kd.R_new' ho0 (Kd.R_lt qz15)) (below_size qz0)); have n4_ := Aside0.mk (below_step qz0 hb); clear HO_4; clear HO_6; clear HO_7; clear HB; have HO_4 := n0_; have HO_6 := n1_; have HO_7 := n2_; have HO457 := n3_; have HB := n4_; clear n0_ n1_ n2_ n3_ n4_; (try clear hb); (try clear hb2); (try clear hk); (try clear hi); (try clear ho0); obtain ⟨Ao28, co28, eo28⟩ := Kd.R_slice HO457.out; subst eo28) | ((with_reducible refine gate_callee (f := 12) rfl ?_); refine goesL_ (some 44) rfl rfl Tryd.func12 qz4 rfl #[.slice Ao13 t447.length co13, .slice Ao28 t455.length co28] rfl qz1 ?_; (with_reducible refine (laws_eqLegS.calls kj7 _ _ t447 _ _ t455 true _ ?side1 ?side2 ?side3 ?side4 A23.out).mono ?_); (case side1 => repeat (first | exact (Kd.R_reads' HO_6.out).2.2 | (with_reducible refine Kd.C_alloc ?_ _) | (with_reducible refine Kd.C_drewN ?_ _) | (with_reducible refine Kd.C_drew ?_))); (case side2 => exact (Kd.R_reads' HO_6.out).2.1); (case side3 => repeat (first | exact (Kd.R_reads' HO457.out).2.2 | (with_reducible refine Kd.C_alloc ?_ _) | (with_reducible refine Kd.C_drewN ?_ _) | (with_reducible refine Kd.C_drew ?_))); (case side4 => exact (Kd.R_reads' HO457.out).2.1); rintro e w29 ⟨rfl, hb⟩; refine ⟨_, rfl, ?_⟩; have n0_ := Aside0.mk (Kd.R_below qz14 hb); have n1_ := Aside0.mk (Kd.R_below qz15 hb); have n2_ := Aside0.mk (Kd.R_below qz6 hb); have n3_ := Aside0.mk (Kd.R_below (by (with_reducible repeat (first | apply Kd.R_alloc | apply Kd.R_drewN | apply Kd.R_drew)); exact HO457.out) hb); have n4_ := Aside0.mk (below_step qz0 hb); clear HO_4; clear HO_6; clear HO_7; clear HO457; clear HB; have HO_4 := n0_; have HO_6 := n1_; have HO_7 := n2_; have HO457 := n3_; have HB := n4_; clear n0_ n1_ n2_ n3_ n4_; (try clear hb); (try clear hb2); (try clear hk); (try clear hi)) | ((with_reducible refine gate_callee (f := 22) rfl ?_); refine goesL_ (some 48) rfl rfl Tryd.func22 qz4 rfl #[.slice Ao13 t447.length co13, .int .i64 1] rfl qz1 ?_; (with_reducible refine (laws_markLegS.calls kj7 (fun k_ => some k_ = (.slice Ao13 t447.length co13 : Value).ownBlock) (.slice Ao13 t447.length co13) t447 1 t459 t460 w _ ?side1 ?side2 A25.out).mono ?_); (case side1 => repeat (first | (with_reducible first | exact HB.out | apply below_alloc | apply pw_below_drewN | apply below_drew1) | exact HB.out)); (case side2 => exact Kd.R_tight rfl HO_6.out); rintro e w30 ⟨rfl, hy0, hb, hkp⟩; refine ⟨_, rfl, ?_⟩; have n0_ := Aside0.mk (Kd.R_mono (ok' := fun k_ => some k_ ≠ (v452 : Value).ownBlock) (Kd.R_keptB ((Kd.R_apart' HO_4.out (Kd.R_typed HO_6.out) (by decide))) hkp (fun k_ hk_ hs_ => (hk_.2) hs_)) (fun k_ hk_ => hk_.1.1)); have n1_ := Aside0.mk (Kd.R_reok rfl hy0 (fun k_ e_ => HO_6.out.1 k_ e_)); have n2_ := Aside0.mk (Kd.R_mono (ok' := fun k_ => some k_ ≠ (v445 : Value).ownBlock) (Kd.R_keptB ((Kd.R_apart' HO_7.out (Kd.R_typed HO_6.out) (by decide))) hkp (fun k_ hk_ hs_ => (hk_.2) hs_)) (fun k_ hk_ => hk_.1.1)); have n3_ := Aside0.mk (Kd.R_mono (ok' := fun k_ => some k_ ≠ (.slice Ao13 t447.length co13 : Value).ownBlock) (Kd.R_keptB (HO457.out) hkp (fun k_ hk_ hs_ => (hk_.2) hs_)) (fun k_ hk_ => hk_.1.2)); have n4_ := Aside0.mk (hb); clear HO_4; clear HO_6; clear HO_7; clear HO457; clear HB; have HO_4 := n0_; have HO_6 := n1_; have HO_7 := n2_; have HO457 := n3_; have HB := n4_; clear n0_ n1_ n2_ n3_ n4_; (try clear hb); (try clear hkp); (try clear hy0)))
      (try simp only [Act.put, List.setIfInBounds_toArray, List.set_cons_zero, List.set_cons_succ])
      go_cut [61] (fun v61 wc => ∃ (kq : Nat) (x61_25 : Bool), v61 = .bool x61_25 ∧ Aside0 (laws_FnExactExactLegs.j1 kq l0 t443 t444 t450 x61_25 = some true) ∧ Aside0 (kq ≤ kj7) ∧ Aside0 (Kd.R (Kd.int .i64) 3 wc w.heap.size (fun k_ => some k_ ≠ (v452 : Value).ownBlock) v445 t443) ∧ Aside0 (Kd.R (Kd.int .i64) 3 wc w.heap.size (fun k_ => some k_ ≠ (v445 : Value).ownBlock) v452 t450) ∧ Aside0 (Below w.heap.size w wc))
      case first =>
       have H := HC26.out
       clear HC26
       by_cases c31 : t459 < 0
       ·
        rw [if_pos c31] at H
        have c31b0 : decide (t459 < 0) = true := decide_eq_true c31
        clear c31
        (first | rw [c31b0] | (simp only [i64_w, i32_w]; rw [c31b0]) | skip)
        exact absurd H (by cases kj7 <;> simp [laws_FnExactExactLegs.j1])
       ·
        rw [if_neg c31] at H
        have c31b0 : decide (t459 < 0) = false := decide_eq_false c31
        clear c31
        (first | rw [c31b0] | (simp only [i64_w, i32_w]; rw [c31b0]) | skip)
        replace H := Option.bind_eq_some_iff.mp H
        obtain ⟨t461, A320, H⟩ := H
        replace H : (if t461 = true then (laws_FnExactExactLegs.j1 kj7 l0 t443 t444 t450 (t451 != t444)) else (laws_FnExactExactLegs.j1 kj7 l0 t443 t444 t450 true)) = some true := H
        have A32 := Aside0.mk A320
        clear A320
        by_cases c33 : t461 = true
        ·
         subst c33
         have H1 : (laws_FnExactExactLegs.j1 kj7 l0 t443 t444 t450 (t451 != t444)) = some true := by rw [if_pos rfl] at H; exact H
         clear H
         have H := H1
         clear H1
         have H' := Aside0.mk H
         clear H
         obtain ⟨Ao34, co34, eo34⟩ := Kd.R_slice HO_7.out
         subst eo34
         obtain ⟨Ao35, co35, eo35⟩ := Kd.R_slice HO_4.out
         subst eo35
         go_wp2_with (first | (go_at_call 21; (with_reducible refine (laws_eqIntS.calls kj7 _ _ t450 _ _ t443 true _ ?side1 ?side2 ?side3 ?side4 A32.out).mono ?_); (case side1 => repeat (first | exact (Kd.R_reads' HO_7.out).2.2 | (with_reducible refine Kd.C_alloc ?_ _) | (with_reducible refine Kd.C_drewN ?_ _) | (with_reducible refine Kd.C_drew ?_))); (case side2 => exact (Kd.R_reads' HO_7.out).2.1); (case side3 => repeat (first | exact (Kd.R_reads' HO_4.out).2.2 | (with_reducible refine Kd.C_alloc ?_ _) | (with_reducible refine Kd.C_drewN ?_ _) | (with_reducible refine Kd.C_drew ?_))); (case side4 => exact (Kd.R_reads' HO_4.out).2.1); rintro e w' ⟨rfl, ⟨nd, rfl⟩⟩))
         go_meet
         case rel => exact ⟨_, ((t451 != t444)), qz5, H', ⟨by have := HJ7.out; first | omega | exact Nat.le_refl _⟩, ⟨by (with_reducible repeat (first | apply Kd.R_alloc | apply Kd.R_drewN | apply Kd.R_drew)); exact HO_4.out⟩, ⟨by (with_reducible repeat (first | apply Kd.R_alloc | apply Kd.R_drewN | apply Kd.R_drew)); exact HO_7.out⟩, ⟨by repeat (first | (with_reducible first | exact HB.out | apply below_alloc | apply pw_below_drewN | apply below_drew1) | exact HB.out)⟩⟩
        ·
         replace c33 := Bool.eq_false_iff.mpr c33
         subst c33
         have H1 : (laws_FnExactExactLegs.j1 kj7 l0 t443 t444 t450 true) = some true := by rw [if_neg (show ¬ (false = true) by decide)] at H; exact H
         clear H
         have H := H1
         clear H1
         exact absurd H (by cases kj7 <;> simp [laws_FnExactExactLegs.j1])
      case rest =>
       clear HC26
       try clear c1
       try clear c2
       try clear p2
       try clear c3
       try clear c3b0
       try clear c7
       try clear c8
       try clear c10
       try clear c12
       try clear c16
       try clear c19
       try clear c20
       try clear c21
       try clear c22
       try clear c24
       try clear c31
       try clear c31b0
       try clear c33
       try clear p2
       obtain ⟨kq, x61_25, rfl, HA, HJ25, HO_4, HO_7, HB⟩ := hcut
       cases kq with
       | zero => exact absurd HA.out (by simp [laws_FnExactExactLegs.j1])
       | succ kj25 =>
        have H := HA.out
        clear HA
        simp only [laws_FnExactExactLegs.j1] at H
        by_cases c38 : x61_25 = true
        ·
         subst c38
         have H1 : (some false) = some true := by rw [if_pos rfl] at H; exact H
         clear H
         have H := H1
         clear H1
         exact absurd (Option.some.inj H) (by decide)
        ·
         replace c38 := Bool.eq_false_iff.mpr c38
         subst c38
         have H1 : ((laws_markIntS.f kj25 t450 1).bind fun bt462 => ((laws_heldIntS.f kj25 bt462.2 1).bind fun t464 => (if t464 < 0 then (some false) else (if t464 = bt462.1 then ((laws_toLegS.f kj25 l0).bind fun t465 => ((impl_ExactLegs.f t465).bind fun bt468 => ((laws_eqIntS.f kj25 bt468.1 t443).bind fun t472 => (if t472 = true then (laws_FnExactExactLegs.j2 kj25 bt462.2 bt462.1 (bt468.2 != t444)) else (laws_FnExactExactLegs.j2 kj25 bt462.2 bt462.1 true))))) else (some false))))) = some true := by rw [if_neg (show ¬ (false = true) by decide)] at H; exact H
         clear H
         have H := H1
         clear H1
         replace H := Option.bind_eq_some_iff.mp H
         obtain ⟨⟨t462, t463⟩, A390, H⟩ := H
         replace H : ((laws_heldIntS.f kj25 t463 1).bind fun t464 => (if t464 < 0 then (some false) else (if t464 = t462 then ((laws_toLegS.f kj25 l0).bind fun t465 => ((impl_ExactLegs.f t465).bind fun bt468 => ((laws_eqIntS.f kj25 bt468.1 t443).bind fun t472 => (if t472 = true then (laws_FnExactExactLegs.j2 kj25 t463 t462 (bt468.2 != t444)) else (laws_FnExactExactLegs.j2 kj25 t463 t462 true))))) else (some false)))) = some true := H
         have A39 := Aside0.mk A390
         clear A390
         replace H := Option.bind_eq_some_iff.mp H
         obtain ⟨t464, A400, H⟩ := H
         replace H : (if t464 < 0 then (some false) else (if t464 = t462 then ((laws_toLegS.f kj25 l0).bind fun t465 => ((impl_ExactLegs.f t465).bind fun bt468 => ((laws_eqIntS.f kj25 bt468.1 t443).bind fun t472 => (if t472 = true then (laws_FnExactExactLegs.j2 kj25 t463 t462 (bt468.2 != t444)) else (laws_FnExactExactLegs.j2 kj25 t463 t462 true))))) else (some false))) = some true := H
         have A40 := Aside0.mk A400
         clear A400
         by_cases c41 : t464 < 0
         ·
          rw [if_pos c41] at H
          have c41b0 : decide (t464 < 0) = true := decide_eq_true c41
          clear c41
          exact absurd (Option.some.inj H) (by decide)
         ·
          rw [if_neg c41] at H
          have c41b0 : decide (t464 < 0) = false := decide_eq_false c41
          clear c41
          by_cases c44 : t464 = t462
          ·
           rw [if_pos c44] at H
           have c44b0 : (t464 == t462) = true := beq_iff_eq.mpr c44
           have c44b1 : (t464 != t462) = false := bne_eq_false_iff_eq.mpr c44
           clear c44
           replace H := Option.bind_eq_some_iff.mp H
           obtain ⟨t465, A450, H⟩ := H
           replace H : ((impl_ExactLegs.f t465).bind fun bt468 => ((laws_eqIntS.f kj25 bt468.1 t443).bind fun t472 => (if t472 = true then (laws_FnExactExactLegs.j2 kj25 t463 t462 (bt468.2 != t444)) else (laws_FnExactExactLegs.j2 kj25 t463 t462 true)))) = some true := H
           have A45 := Aside0.mk A450
           clear A450
           replace H := Option.bind_eq_some_iff.mp H
           obtain ⟨⟨t468, t469⟩, A460, H⟩ := H
           replace H : ((laws_eqIntS.f kj25 t468 t443).bind fun t472 => (if t472 = true then (laws_FnExactExactLegs.j2 kj25 t463 t462 (t469 != t444)) else (laws_FnExactExactLegs.j2 kj25 t463 t462 true))) = some true := H
           have A46 := Aside0.mk A460
           clear A460
           have HC47 := Aside0.mk H
           clear H
           obtain ⟨Ao48, co48, eo48⟩ := Kd.R_slice HO_7.out
           subst eo48
           go_upto_region 25 with (first | ((with_reducible refine gate_callee (f := 23) rfl ?_); refine goesL_ (some 64) rfl rfl Tryd.func23 qz4 rfl #[.slice Ao48 t450.length co48, .int .i64 1] rfl qz1 ?_; (with_reducible refine (laws_markIntS.calls kj25 (fun k_ => some k_ = (.slice Ao48 t450.length co48 : Value).ownBlock) (.slice Ao48 t450.length co48) t450 1 t462 t463 w _ ?side1 ?side2 A39.out).mono ?_); (case side1 => repeat (first | (with_reducible first | exact HB.out | apply below_alloc | apply pw_below_drewN | apply below_drew1) | exact HB.out)); (case side2 => exact Kd.R_tight rfl HO_7.out); rintro e w49 ⟨rfl, hy0, hb, hkp⟩; refine ⟨_, rfl, ?_⟩; have n0_ := Aside0.mk (Kd.R_mono (ok' := fun k_ => some k_ ≠ (.slice Ao48 t450.length co48 : Value).ownBlock) (Kd.R_keptB (HO_4.out) hkp (fun k_ hk_ hs_ => (hk_) hs_)) (fun k_ hk_ => hk_.1)); have n1_ := Aside0.mk (Kd.R_reok rfl hy0 (fun k_ e_ => HO_7.out.1 k_ e_)); have n2_ := Aside0.mk (hb); clear HO_4; clear HO_7; clear HB; have HO_4 := n0_; have HO_7 := n1_; have HB := n2_; clear n0_ n1_ n2_; (try clear hb); (try clear hkp); (try clear hy0)) | ((with_reducible refine gate_callee (f := 24) rfl ?_); refine goesL_ (some 67) rfl rfl Tryd.func24 qz4 rfl #[.slice Ao48 t463.length co48, .int .i64 1] rfl (by (try simp only [List.map_toArray, List.map_cons, List.map_nil]); first | done | (rw [show t463.length = t450.length from (Kd.R_reads' HO_7.out).1.symm] <;> rfl) | rfl | (simp only [List.length_drop, List.length_take]; rfl)) ?_; (with_reducible refine (laws_heldIntS.calls kj25 _ _ t463 1 t464 _ ?side1 ?side2 A40.out).mono ?_); (case side1 => repeat (first | exact (Kd.R_reads' HO_7.out).2.2 | (with_reducible refine Kd.C_alloc ?_ _) | (with_reducible refine Kd.C_drewN ?_ _) | (with_reducible refine Kd.C_drew ?_))); (case side2 => rw [show t463.length = t450.length from (Kd.R_reads' HO_7.out).1.symm]; exact (Kd.R_reads' HO_7.out).2.1); rintro e w' ⟨rfl, ⟨nd, rfl⟩⟩; refine ⟨_, rfl, ?_⟩) | ((with_reducible refine gate_callee (f := 10) rfl ?_); refine goesL_ (some 75) rfl rfl Tryd.func10 qz4 rfl #[.slice A0 l0.length c0] rfl qz1 ?_; (with_reducible refine (laws_toLegS.calls kj25 _ _ l0 t465 _ ?side1 ?side2 A45.out).mono ?_); (case side1 => repeat (first | exact (Kd.C_below HR0.out qz0) | (with_reducible refine Kd.C_alloc ?_ _) | (with_reducible refine Kd.C_drewN ?_ _) | (with_reducible refine Kd.C_drew ?_))); (case side2 => exact HC0.out); rintro e w50 ⟨v466, rfl, ho0, hb⟩; refine ⟨_, rfl, ?_⟩; have n0_ := Aside0.mk (Kd.R_below qz14 hb); have n1_ := Aside0.mk (Kd.R_below qz6 hb); have n2_ := Aside0.mk (Kd.R_lower ho0 (below_size qz0)); have n3_ := Aside0.mk (below_step qz0 hb); clear HO_4; clear HO_7; clear HB; have HO_4 := n0_; have HO_7 := n1_; have HO467 := n2_; have HB := n3_; clear n0_ n1_ n2_ n3_; (try clear hb); (try clear hb2); (try clear hk); (try clear hi); (try clear ho0); obtain ⟨Ao51, co51, eo51⟩ := Kd.R_slice HO467.out; subst eo51) | ((with_reducible refine gate_callee (f := 20) rfl ?_); refine goesL_ (some 76) rfl rfl Tryd.func20 qz4 rfl #[.slice Ao51 t465.length co51] rfl qz1 ?_; (with_reducible refine (impl_ExactLegs.calls _ _ t465 t468 t469 _ ?side1 ?side2 A46.out ?sideL).mono ?_); (case sideL => exact HL.out.keep qz0); (case side1 => repeat (first | exact (Kd.R_reads' HO467.out).2.2 | (with_reducible refine Kd.C_alloc ?_ _) | (with_reducible refine Kd.C_drewN ?_ _) | (with_reducible refine Kd.C_drew ?_))); (case side2 => exact (Kd.R_reads' HO467.out).2.1); rintro e w52 ⟨v470, rfl, ho0, hb⟩; refine ⟨_, rfl, ?_⟩; have n0_ := Aside0.mk (Kd.R_elder' qz14 (Kd.R_base ho0) hb); have n1_ := Aside0.mk (Kd.R_elder' qz6 (Kd.R_base ho0) hb); have n2_ := Aside0.mk (Kd.R_below (by (with_reducible repeat (first | apply Kd.R_alloc | apply Kd.R_drewN | apply Kd.R_drew)); exact HO467.out) hb); have n3_ := Aside0.mk (Kd.R_lower (Kd.R_new' (Kd.R_new' ho0 (Kd.R_lt qz14)) (Kd.R_lt qz6)) (below_size qz0)); have n4_ := Aside0.mk (below_step qz0 hb); clear HO_4; clear HO_7; clear HO467; clear HB; have HO_4 := n0_; have HO_7 := n1_; have HO467 := n2_; have HO471 := n3_; have HB := n4_; clear n0_ n1_ n2_ n3_ n4_; (try clear hb); (try clear hb2); (try clear hk); (try clear hi); (try clear ho0)))
           (try simp only [Act.put, List.setIfInBounds_toArray, List.set_cons_zero, List.set_cons_succ])
           go_cut [87] (fun v87 wc => ∃ (kq : Nat) (x87_46 : Bool), v87 = .bool x87_46 ∧ Aside0 (laws_FnExactExactLegs.j2 kq t463 t462 x87_46 = some true) ∧ Aside0 (kq ≤ kj25) ∧ Aside0 (Kd.R (Kd.int .i64) 3 wc w.heap.size (fun _ => True) (.slice Ao48 t450.length co48) t463) ∧ Aside0 (Below w.heap.size w wc))
           case first =>
            have H := HC47.out
            clear HC47
            replace H := Option.bind_eq_some_iff.mp H
            obtain ⟨t472, A530, H⟩ := H
            replace H : (if t472 = true then (laws_FnExactExactLegs.j2 kj25 t463 t462 (t469 != t444)) else (laws_FnExactExactLegs.j2 kj25 t463 t462 true)) = some true := H
            have A53 := Aside0.mk A530
            clear A530
            by_cases c54 : t472 = true
            ·
             subst c54
             have H1 : (laws_FnExactExactLegs.j2 kj25 t463 t462 (t469 != t444)) = some true := by rw [if_pos rfl] at H; exact H
             clear H
             have H := H1
             clear H1
             have H' := Aside0.mk H
             clear H
             obtain ⟨Ao55, co55, eo55⟩ := Kd.R_slice HO471.out
             subst eo55
             obtain ⟨Ao56, co56, eo56⟩ := Kd.R_slice HO_4.out
             subst eo56
             go_wp2_with (first | ((with_reducible refine gate_callee (f := 21) rfl ?_); refine goesL_ (some 81) rfl rfl Tryd.func21 qz4 rfl #[.slice Ao55 t468.length co55, .slice Ao56 t443.length co56] rfl qz1 ?_; (with_reducible refine (laws_eqIntS.calls kj25 _ _ t468 _ _ t443 true _ ?side1 ?side2 ?side3 ?side4 A53.out).mono ?_); (case side1 => repeat (first | exact (Kd.R_reads' HO471.out).2.2 | (with_reducible refine Kd.C_alloc ?_ _) | (with_reducible refine Kd.C_drewN ?_ _) | (with_reducible refine Kd.C_drew ?_))); (case side2 => exact (Kd.R_reads' HO471.out).2.1); (case side3 => repeat (first | exact (Kd.R_reads' HO_4.out).2.2 | (with_reducible refine Kd.C_alloc ?_ _) | (with_reducible refine Kd.C_drewN ?_ _) | (with_reducible refine Kd.C_drew ?_))); (case side4 => exact (Kd.R_reads' HO_4.out).2.1); rintro e w' ⟨rfl, ⟨nd, rfl⟩⟩; refine ⟨_, rfl, ?_⟩))
             go_meet
             case rel => exact ⟨_, ((t469 != t444)), qz5, H', ⟨by have := HJ7.out; have := HJ25.out; first | omega | exact Nat.le_refl _⟩, ⟨by (with_reducible repeat (first | apply Kd.R_alloc | apply Kd.R_drewN | apply Kd.R_drew)); exact Kd.R_mono HO_7.out (fun _ hk => trivial)⟩, ⟨by repeat (first | (with_reducible first | exact HB.out | apply below_alloc | apply pw_below_drewN | apply below_drew1) | exact HB.out)⟩⟩
            ·
             replace c54 := Bool.eq_false_iff.mpr c54
             subst c54
             have H1 : (laws_FnExactExactLegs.j2 kj25 t463 t462 true) = some true := by rw [if_neg (show ¬ (false = true) by decide)] at H; exact H
             clear H
             have H := H1
             clear H1
             exact absurd H (by cases kj25 <;> simp [laws_FnExactExactLegs.j2])
           case rest =>
            clear HC47
            try clear c1
            try clear c2
            try clear p2
            try clear c3
            try clear c3b0
            try clear c4
            try clear c5
            try clear c7
            try clear c8
            try clear c10
            try clear c12
            try clear c16
            try clear c19
            try clear c20
            try clear c21
            try clear c22
            try clear c23
            try clear c24
            try clear c31
            try clear c31b0
            try clear c33
            try clear c38
            try clear c41
            try clear c41b0
            try clear c44
            try clear c44b0
            try clear c44b1
            try clear c54
            try clear p2
            obtain ⟨kq, x87_46, rfl, HA, HJ46, HO_7, HB⟩ := hcut
            have hl7_46 := (Kd.R_reads' HO_7.out).1
            rw [hl7_46] at HO_7
            (try simp only [hl7_46])
            cases kq with
            | zero => exact absurd HA.out (by simp [laws_FnExactExactLegs.j2])
            | succ kj46 =>
             have H := HA.out
             clear HA
             simp only [laws_FnExactExactLegs.j2] at H
             by_cases c59 : x87_46 = true
             ·
              subst c59
              have H1 : (some false) = some true := by rw [if_pos rfl] at H; exact H
              clear H
              have H := H1
              clear H1
              exact absurd (Option.some.inj H) (by decide)
             ·
              replace c59 := Bool.eq_false_iff.mpr c59
              subst c59
              have H1 : ((laws_heldIntS.f kj46 t463 1).bind fun t473 => (if t473 < 0 then (some false) else (if t473 = t462 then (some true) else (some false)))) = some true := by rw [if_neg (show ¬ (false = true) by decide)] at H; exact H
              clear H
              have H := H1
              clear H1
              replace H := Option.bind_eq_some_iff.mp H
              obtain ⟨t473, A600, H⟩ := H
              replace H : (if t473 < 0 then (some false) else (if t473 = t462 then (some true) else (some false))) = some true := H
              have A60 := Aside0.mk A600
              clear A600
              by_cases c61 : t473 < 0
              ·
               rw [if_pos c61] at H
               have c61b0 : decide (t473 < 0) = true := decide_eq_true c61
               clear c61
               exact absurd (Option.some.inj H) (by decide)
              ·
               rw [if_neg c61] at H
               have c61b0 : decide (t473 < 0) = false := decide_eq_false c61
               clear c61
               by_cases c62 : t473 = t462
               ·
                rw [if_pos c62] at H
                have c62b0 : (t473 == t462) = true := beq_iff_eq.mpr c62
                have c62b1 : (t473 != t462) = false := bne_eq_false_iff_eq.mpr c62
                clear c62
                go_wp2_with (first | ((with_reducible refine gate_callee (f := 24) rfl ?_); refine goesL_ (some 90) rfl rfl Tryd.func24 qz4 rfl #[.slice Ao48 t463.length co48, .int .i64 1] rfl qz1 ?_; (with_reducible refine (laws_heldIntS.calls kj46 _ _ t463 1 t473 _ ?side1 ?side2 A60.out).mono ?_); (case side1 => repeat (first | exact (Kd.R_reads' HO_7.out).2.2 | (with_reducible refine Kd.C_alloc ?_ _) | (with_reducible refine Kd.C_drewN ?_ _) | (with_reducible refine Kd.C_drew ?_))); (case side2 => exact (Kd.R_reads' HO_7.out).2.1); rintro e w' ⟨rfl, ⟨nd, rfl⟩⟩; refine ⟨_, rfl, ?_⟩))
                go_ret
                exact ⟨by first | rfl | (simp [errW_none, errW_some] <;> rfl) | (simp [*, errW_none, errW_some] <;> rfl), by repeat (first | (with_reducible first | exact HB.out | apply below_alloc | apply pw_below_drewN | apply below_drew1) | exact HB.out)⟩
               ·
                rw [if_neg c62] at H
                have c62b0 : (t473 == t462) = false := beq_eq_false_iff_ne.mpr c62
                have c62b1 : (t473 != t462) = true := bne_iff_ne.mpr c62
                exact absurd (Option.some.inj H) (by decide)
          ·
           rw [if_neg c44] at H
           have c44b0 : (t464 == t462) = false := beq_eq_false_iff_ne.mpr c44
           have c44b1 : (t464 != t462) = true := bne_iff_ne.mpr c44
           exact absurd (Option.some.inj H) (by decide)
     ·
      replace c24 := Bool.eq_false_iff.mpr c24
      subst c24
      have H1 : (some false) = some true := by rw [if_neg (show ¬ (false = true) by decide)] at H; exact H
      clear H
      have H := H1
      clear H1
      exact absurd (Option.some.inj H) (by decide)
end Go.Proofs.YthplhbcafihacaaDoor.A

/- Slices of legs that a law copies and compares. No conditions. -/
namespace Go.Proofs.YthplhbcafihacaaDoor.Legs
open Go.RowKit Go.Proofs.YthplhbcafihacaaDoorW.PrintWords Go.Proofs.YthplhbcafihacaaDoor.Plain Go.Proofs.YthplhbcafihacaaDoor.A
set_option linter.unusedVariables false
set_option linter.unusedSimpArgs false
def cv (x : S53) : S50 := ⟨x.f0, x.f1, x.f2, x.f3, x.f4⟩
theorem toLegs_ev (l : List (S53)) (hb : l.length ≤ 7036874417766) : Ev (fun k => laws_toLegS.f k l) (l.map cv) := by
  unfold laws_toLegS.f
  refine Ev.pos (by omega) ?_
  refine Ev.pos (by omega) ?_
  exact copy_all laws_toLegS.l0 cv z53 _ (fun k x0 x3 x4 => by simp only [laws_toLegS.l0, laws_toLeg.f, Option.bind_some]; rfl) l (by omega)
theorem eqLegs_ev (l : List (S50)) (hb : l.length ≤ 140737488351232) : Ev (fun k => laws_eqLegS.f k l l) true := by
  unfold laws_eqLegS.f
  refine Ev.pos rfl ?_
  exact eq_all laws_eqLegS.l0 (fun k x0 x4 h0 => by
    simp only [laws_eqLegS.l0, laws_eqLeg.f, if_true, Option.bind_some]
    by_cases h : x4 < (x0.length : Int)
    · rw [if_pos h, if_pos h0, if_pos h, if_pos h]
    · rw [if_neg h, if_neg h]) l hb
theorem szLegs_eq (l : List (S53)) (hb : l.length ≤ 140737488351232) : laws_szLegS.f l 1048576 = some (if l.length ≤ 1048576 then 1048576 - (l.length : Int) else -1) := by
  unfold laws_szLegS.f
  rw [w64 (by omega) (by omega)]
  by_cases h : l.length ≤ 1048576
  · rw [if_neg (by omega), if_pos h]
  · rw [if_pos (by omega), if_neg h]
end Go.Proofs.YthplhbcafihacaaDoor.Legs

/- Legs that a law marks: the number it ends with. No conditions. -/
namespace Go.Proofs.YthplhbcafihacaaDoor.Legs
open Go.RowKit Go.Proofs.YthplhbcafihacaaDoorW.PrintWords Go.Proofs.YthplhbcafihacaaDoor.Plain Go.Proofs.YthplhbcafihacaaDoor.A
set_option linter.unusedVariables false
set_option linter.unusedSimpArgs false
theorem markLegs_step (x : List (S50)) (a : Int) (i : Nat) (hi : i < x.length) (hb : x.length ≤ 140737488351232) (h0 : 0 ≤ a) (h1 : a ≤ 1000000000000) : ∃ x' : List (S50), x'.length = x.length ∧ ∀ k, laws_markLegS.l0 (k + 1) x (a + 5 * i) (i : Int) = laws_markLegS.l0 k x' (a + 5 * (i + 1 : Nat)) ((i + 1 : Nat) : Int) := by
  apply Exists.intro
  apply And.intro
  case right =>
    intro k
    simp only [laws_markLegS.l0, Option.bind_some]
    rw [if_pos (by omega), if_pos (by omega), w64 (x := a + 5 * (i : Int) + 1) (by omega) (by omega), w64 (x := a + 5 * (i : Int) + 1 + 1) (by omega) (by omega), w64 (x := a + 5 * (i : Int) + 1 + 1 + 1) (by omega) (by omega), w64 (x := a + 5 * (i : Int) + 1 + 1 + 1 + 1) (by omega) (by omega), w64 (x := a + 5 * (i : Int) + 1 + 1 + 1 + 1 + 1) (by omega) (by omega), w64 (x := (i : Int) + 1) (by omega) (by omega), show a + 5 * (i : Int) + 1 + 1 + 1 + 1 + 1 = a + 5 * (i + 1 : Nat) by omega, show (i : Int) + 1 = ((i + 1 : Nat) : Int) by omega]
  case left => simp only [List.length_set]
theorem markLegs_ev (l : List (S50)) (a : Int) (hb : l.length ≤ 140737488351232) (h0 : 0 ≤ a) (h1 : a ≤ 1000000000000) : ∃ r, Ev (fun k => laws_markLegS.f k l a) (a + 5 * l.length, r) := by
  have key : ∀ (d i : Nat) (x : List (S50)), x.length = l.length → i + d = l.length → ∃ r, Ev (fun k => laws_markLegS.l0 k x (a + 5 * i) (i : Int)) (a + 5 * l.length, r) := by
    intro d
    induction d with
    | zero =>
      intro i x hx hi
      obtain rfl : i = l.length := by omega
      exact ⟨x, Ev.step (f := fun _ => some (a + 5 * (l.length : Int), x)) (fun k => by simp only [laws_markLegS.l0]; rw [if_neg (by omega)]) (Ev.now _)⟩
    | succ d ih =>
      intro i x hx hi
      obtain ⟨x', hx', hs⟩ := markLegs_step x a i (by omega) (by omega) h0 h1
      obtain ⟨r, hr⟩ := ih (i + 1) x' (by omega) (by omega)
      exact ⟨r, Ev.step (fun k => hs k) hr⟩
  obtain ⟨r, hr⟩ := key l.length 0 l rfl (by omega)
  exact ⟨r, by unfold laws_markLegS.f; simpa using hr⟩
end Go.Proofs.YthplhbcafihacaaDoor.Legs

/- Slices of ints that a law copies, compares, marks and looks at again. No conditions. -/
namespace Go.Proofs.YthplhbcafihacaaDoor.Ints
open Go.RowKit Go.Proofs.YthplhbcafihacaaDoorW.PrintWords Go.Proofs.YthplhbcafihacaaDoor.Plain Go.Proofs.YthplhbcafihacaaDoor.A
set_option linter.unusedVariables false
set_option linter.unusedSimpArgs false
theorem eqInt_ev (l : List Int) (hb : l.length ≤ 140737488351232) : Ev (fun k => laws_eqIntS.f k l l) true := by
  unfold laws_eqIntS.f
  refine Ev.pos rfl ?_
  exact eq_all laws_eqIntS.l0 (fun k x0 x4 h0 => by
    simp only [laws_eqIntS.l0, if_true]
    by_cases h : x4 < (x0.length : Int)
    · rw [if_pos h, if_pos h0, if_pos h, if_pos h]
    · rw [if_neg h, if_neg h]) l hb
/-- a, a + 1, .. -/
def from_ : Int → Nat → List Int
  | _, 0 => []
  | a, n + 1 => a :: from_ (a + 1) n
theorem from_length : ∀ (n : Nat) (a : Int), (from_ a n).length = n
  | 0, _ => rfl
  | n + 1, a => by rw [from_, List.length_cons, from_length n]
theorem from_snoc : ∀ (n : Nat) (a : Int), from_ a (n + 1) = from_ a n ++ [a + n]
  | 0, a => by simp [from_]
  | n + 1, a => by
    rw [from_, from_snoc n (a + 1), from_]
    simp
    omega
theorem from_get : ∀ (n : Nat) (a : Int) (i : Nat), i < n → (from_ a n).getD i 0 = a + i
  | 0, _, _, h => by omega
  | n + 1, a, 0, _ => by simp [from_]
  | n + 1, a, i + 1, h => by
    rw [from_, List.getD_cons_succ, from_get n (a + 1) i (by omega)]
    omega
theorem mark_ev (l : List Int) (a : Int) (hb : l.length ≤ 140737488351232) (h0 : 0 ≤ a) (h1 : a ≤ 1000000000000) : Ev (fun k => laws_markIntS.f k l a) (a + l.length, from_ a l.length) := by
  have key : ∀ (d i : Nat) (x : List Int), x.length = l.length → i + d = l.length → x.take i = from_ a i → Ev (fun k => laws_markIntS.l0 k x (a + i) (i : Int)) (a + l.length, from_ a l.length) := by
    intro d
    induction d with
    | zero =>
      intro i x hx hi ht
      obtain rfl : i = l.length := by omega
      refine Ev.step (f := fun _ => some (a + (l.length : Int), x)) (fun k => by simp only [laws_markIntS.l0]; rw [if_neg (by omega)]) ?_
      rw [List.take_of_length_le (by omega)] at ht
      rw [ht]
      exact Ev.now _
    | succ d ih =>
      intro i x hx hi ht
      have hil : i < x.length := by omega
      refine Ev.step (f := fun k => laws_markIntS.l0 k (x.set i (a + i)) (a + ((i + 1 : Nat) : Int)) ((i + 1 : Nat) : Int)) (fun k => by
        simp only [laws_markIntS.l0]
        rw [if_pos (by omega), if_pos (by omega), w64 (by omega) (by omega), w64 (by omega) (by omega), Int.toNat_natCast]
        congr 1
        omega) ?_
      refine ih (i + 1) _ (by simpa using hx) (by omega) ?_
      rw [List.take_succ_eq_append_getElem (by simpa using hil), List.take_set_of_le (by omega), ht, from_snoc]
      simp
  have := key l.length 0 l rfl (by omega) rfl
  unfold laws_markIntS.f
  simpa using this
theorem held_ev (n : Nat) (a : Int) (hb : n ≤ 140737488351232) (h0 : 0 ≤ a) (h1 : a ≤ 1000000000000) : Ev (fun k => laws_heldIntS.f k (from_ a n) a) (a + n) := by
  have key : ∀ (d i : Nat), i + d = n → Ev (fun k => laws_heldIntS.l0 k (from_ a n) (a + i) (i : Int)) (a + n) := by
    intro d
    induction d with
    | zero =>
      intro i hi
      obtain rfl : i = n := by omega
      exact Ev.step (f := fun _ => some (a + (i : Int))) (fun k => by simp only [laws_heldIntS.l0]; rw [if_neg (by rw [from_length]; omega)]) (Ev.now _)
    | succ d ih =>
      intro i hi
      have e : rd (from_ a n) (i : Int) = a + i := from_get n a i (by omega)
      refine Ev.step (f := fun k => laws_heldIntS.l0 k (from_ a n) (a + ((i + 1 : Nat) : Int)) ((i + 1 : Nat) : Int)) (fun k => by
        simp only [laws_heldIntS.l0]
        rw [if_pos (by rw [from_length]; omega), if_pos (by omega), if_pos e, w64 (by omega) (by omega), w64 (by omega) (by omega)]
        congr 1
        omega) (ih (i + 1) (by omega))
  have := key n 0 (by omega)
  unfold laws_heldIntS.f
  simpa using this
end Go.Proofs.YthplhbcafihacaaDoor.Ints

/- The printed reductions (the program's and the reference's) are the lowest terms. -/
namespace Go.Proofs.YthplhbcafihacaaDoor.Net
open Go.RowKit Go.Proofs.YthplhbcafihacaaDoorW.PrintWords Go.Proofs.YthplhbcafihacaaDoor.Plain Go.Proofs.YthplhbcafihacaaDoor.A Go.Proofs.YthplhbcafihacaaDoor.Frac
set_option linter.unusedVariables false
set_option linter.unusedSimpArgs false
end Go.Proofs.YthplhbcafihacaaDoor.Net

/- The reference's residual of a leg, in plain. -/
namespace Go.Proofs.YthplhbcafihacaaDoor.Net
open Go.RowKit Go.Proofs.YthplhbcafihacaaDoorW.PrintWords Go.Proofs.YthplhbcafihacaaDoor.Plain Go.Proofs.YthplhbcafihacaaDoor.A
set_option linter.unusedVariables false
set_option linter.unusedSimpArgs false
theorem specRest_eq (x : S50) (h : Good x) (axis : Int) (h0 : 0 ≤ axis) (h2 : axis ≤ 2) (cs : List Int) (h8 : cs.length = 8) (den : Int) : spec_l9Rest.f x.f0 x.f1 x.f2 x.f3 x.f4 axis cs den = some (resM x axis cs den) := by
  unfold spec_l9Rest.f
  rw [measure_eq x h axis h0 h2, Option.bind_some]
  obtain ⟨⟨a0, a8⟩, ⟨d0, d8⟩, _⟩ := h
  rw [if_pos (by omega), if_pos (by omega), if_pos (by omega), if_pos (by omega)]
  rfl
theorem specRest {ls : L} (hn : ls.length ≤ 12) (hg : ∀ x ∈ ls, Good x) (ax : Int) (h0 : 0 ≤ ax) (h2 : ax ≤ 2) {i : Int} (hi : i ∈ usedL ls) : spec_l9Rest.f (rd_T50 ls i).f0 (rd_T50 ls i).f1 (rd_T50 ls i).f2 (rd_T50 ls i).f3 (rd_T50 ls i).f4 ax (coL ls ax) (treesM ls) = some (nT ls ax i) := by
  have hr := usedL_range ls i hi
  obtain ⟨m, rfl⟩ := Int.eq_ofNat_of_zero_le hr.1
  have hx : Good (leg ls (m : Int)) := hg _ (leg_mem (by omega))
  have h := specRest_eq (leg ls (m : Int)) hx ax h0 h2 (coL ls ax) (coL_len ls ax) (treesM ls)
  rw [res_all hn hg ax hi] at h
  exact h
end Go.Proofs.YthplhbcafihacaaDoor.Net

/- The reference's ExactLegs, in plain. -/

namespace Go.Proofs.YthplhbcafihacaaDoor.Net
open Go.RowKit Go.Proofs.YthplhbcafihacaaDoorW.PrintWords Go.Proofs.YthplhbcafihacaaDoor.Plain Go.Proofs.YthplhbcafihacaaDoor.A
set_option linter.unusedVariables false
set_option linter.unusedSimpArgs false
/-- The legs without residuals of the first j used ones. -/
def exTo (ls : L) (j : Nat) : List Int := ((usedL ls).take j).filter (fun k => decide (nT ls 0 k = 0 ∧ nT ls 1 k = 0 ∧ nT ls 2 k = 0))
theorem exTo_len (ls : L) (j : Nat) : (exTo ls j).length ≤ 12 ∨ ls.length > 12 := by
  by_cases h : ls.length ≤ 12
  · refine Or.inl ?_
    have h1 := usedL_len ls
    have h2 := List.length_filter_le (fun k => decide (nT ls 0 k = 0 ∧ nT ls 1 k = 0 ∧ nT ls 2 k = 0)) ((usedL ls).take j)
    have h3 : ((usedL ls).take j).length ≤ (usedL ls).length := by rw [List.length_take]; omega
    unfold exTo
    omega
  · exact Or.inr (by omega)
theorem exTo_step (ls : L) (j : Nat) (h : j < (usedL ls).length) : exTo ls (j + 1) = if nT ls 0 (rd (usedL ls) (j : Int)) = 0 ∧ nT ls 1 (rd (usedL ls) (j : Int)) = 0 ∧ nT ls 2 (rd (usedL ls) (j : Int)) = 0 then exTo ls j ++ [rd (usedL ls) (j : Int)] else exTo ls j := by
  have hx : rd (usedL ls) (j : Int) = (usedL ls)[j] := rd_get _ j h
  unfold exTo
  rw [List.take_succ_eq_append_getElem h, List.filter_append, ← hx]
  generalize rd (usedL ls) (j : Int) = u
  by_cases c : nT ls 0 u = 0 ∧ nT ls 1 u = 0 ∧ nT ls 2 u = 0
  · rw [if_pos c, List.filter_cons, if_pos (decide_eq_true c), List.filter_nil]
  · rw [if_neg c, List.filter_cons, if_neg (by rw [decide_eq_false c]; decide), List.filter_nil, List.append_nil]
theorem exact_loop {ls : L} (hn : ls.length ≤ 12) (hg : ∀ x ∈ ls, Good x) : ∀ (d j : Nat), j + d = (usedL ls).length →
    Ev (fun k => spec_ExactLegs.l0 k ls (exTo ls j) (usedL ls) (treesM ls) (coL ls 0) (coL ls 1) (coL ls 2) (j : Int)) (exTo ls (usedL ls).length, true) := by
  have hul := usedL_len ls
  intro d
  induction d with
  | zero =>
    intro j hj
    obtain rfl : j = (usedL ls).length := by omega
    refine Ev.step (f := fun _ => some (exTo ls (usedL ls).length, true)) (fun k => ?_) (Ev.now _)
    simp only [spec_ExactLegs.l0]
    rw [if_neg (by omega)]
  | succ d ih =>
    intro j hj
    have hlt : j < (usedL ls).length := by omega
    have h := ih (j + 1) (by omega)
    have hm : rd (usedL ls) (j : Int) ∈ usedL ls := by rw [rd_get _ j hlt]; exact List.getElem_mem hlt
    have hr := usedL_range ls _ hm
    have s0 := specRest hn hg 0 (by decide) (by decide) hm
    have s1 := specRest hn hg 1 (by decide) (by decide) hm
    have s2 := specRest hn hg 2 (by decide) (by decide) hm
    have hl : (exTo ls j).length ≤ 12 := (exTo_len ls j).elim id (fun e => absurd hn (by omega))
    have hst := exTo_step ls j hlt
    refine Ev.step (fun k => ?_) h
    simp only [spec_ExactLegs.l0]
    rw [if_pos (by omega), if_pos (by omega), if_pos hr.1, if_pos hr.2, s0, Option.bind_some, s1, Option.bind_some, s2, Option.bind_some, w64 (x := (j : Int) + 1) (by omega) (by omega), hst]
    generalize rd (usedL ls) (j : Int) = u at *
    by_cases c0 : nT ls 0 u = 0
    · rw [if_pos c0]
      by_cases c1 : nT ls 1 u = 0
      · rw [if_pos c1]
        by_cases c2 : nT ls 2 u = 0
        · rw [if_pos c2, if_pos (by omega), if_pos ⟨c0, c1, c2⟩]; rfl
        · rw [if_neg c2, if_neg (fun e => c2 e.2.2)]; rfl
      · rw [if_neg c1, if_neg (fun e => c1 e.2.1)]; rfl
    · rw [if_neg c0, if_neg (fun e => c0 e.1)]; rfl
theorem specExact_ev (ls : L) (hb : ls.length ≤ 140737488351232) : Ev (fun k => spec_ExactLegs.f k ls) (if legsB ls = true then (exA ls 3, true) else ([], false)) := by
  refine Ev.bindc rfl (Ev.bind (l4Legs_ev ls hb) ?_)
  by_cases hv : legsB ls = true
  · rw [if_pos hv]
    have h' := legsB_iff.mp hv
    have ht : spec_l9Trees.f ls = some (treesM ls) := by unfold spec_l9Trees.f; rw [if_pos hv]
    have ha : ∀ ax : Int, 0 ≤ ax → ax ≤ 2 → spec_l9Adjust.f ls ax = some (coL ls ax) := fun ax h0 h2 => by unfold spec_l9Adjust.f; rw [if_pos ⟨hv, h0, h2⟩]
    have e : exTo ls (usedL ls).length = exA ls 3 := by unfold exTo; rw [List.take_length, exA_three]
    have h := exact_loop h'.2 h'.1 (usedL ls).length 0 (by omega)
    rw [e] at h
    exact Ev.pos hv (Ev.bind (l9Legs_ev h'.2 h'.1) (Ev.bindc ht (Ev.bindc (ha 0 (by decide) (by decide)) (Ev.bindc (ha 1 (by decide) (by decide)) (Ev.bindc (ha 2 (by decide) (by decide)) h)))))
  · rw [if_neg hv]
    exact Ev.neg hv (Ev.now _)
end Go.Proofs.YthplhbcafihacaaDoor.Net

/- The law FnExactExactLegs, as a plain statement: the program's ExactLegs answers what the reference's answers. Conditions: those of the row's own reading. -/
namespace Go.Proofs.YthplhbcafihacaaDoor.Pure
open Go.RowKit Go.Proofs.YthplhbcafihacaaDoorW.PrintWords Go.Proofs.YthplhbcafihacaaDoor.Plain Go.Proofs.YthplhbcafihacaaDoor.A Go.Proofs.YthplhbcafihacaaDoor.Legs
set_option linter.unusedVariables false
set_option linter.unusedSimpArgs false
theorem FnExactExactLegs (l0 : List (S53)) (hb : l0.length * 40 ≤ 140737488351232) (_ : ∀ x ∈ l0, (Lit.int .i64 x.f0).wf = true ∧ (Lit.int .i64 x.f1).wf = true ∧ (Lit.int .i64 x.f2).wf = true ∧ (Lit.int .i64 x.f3).wf = true ∧ (Lit.int .i64 x.f4).wf = true) : ∃ k, laws_FnExactExactLegs.f k l0 = some true := by
  refine Ev.rounds ?_
  have hl : (l0.map cv).length = l0.length := by simp
  have hsz := szLegs_eq l0 (by omega)
  by_cases c : l0.length ≤ 1048576
  · rw [if_pos c] at hsz
    obtain ⟨B, hB⟩ : ∃ B : List Int × Bool, B = if Net.legsB (l0.map cv) = true then (Net.exA (l0.map cv) 3, true) else ([], false) := ⟨_, rfl⟩
    have hBl : B.1.length ≤ 100 := by
      rw [hB]
      split
      · rename_i h
        have h2 := (Net.legsB_iff.mp h).2
        have h3 := Net.exA_len (l0.map cv) 3
        have h4 := Net.usedL_len (l0.map cv)
        simp only
        omega
      · simp
    have hi : impl_ExactLegs.f (l0.map cv) = some (B.1, B.2) := by unfold impl_ExactLegs.f exactM; rw [if_pos (by omega), hB]
    have hs : Ev (fun k => spec_ExactLegs.f k (l0.map cv)) B := by rw [hB]; exact Net.specExact_ev _ (by omega)
    clear hB
    have heq := Ints.eqInt_ev B.1 (by omega)
    obtain ⟨q, hq⟩ := markLegs_ev (l0.map cv) 1 (by omega) (by omega) (by omega)
    have hm := Ints.mark_ev B.1 1 (by omega) (by omega) (by omega)
    have hh := Ints.held_ev B.1.length 1 (by omega) (by omega) (by omega)
    have hlegs := toLegs_ev l0 (by omega)
    refine Ev.bindc hsz (Ev.neg (by omega) ?_)
    refine Ev.bind hlegs (Ev.bind hs (Ev.bind hlegs (Ev.bindc hi (Ev.bind heq (Ev.pos rfl ?_)))))
    refine Ev.step (f := fun k => (laws_toLegS.f k l0).bind fun t766 => ((laws_eqLegS.f k (l0.map cv) t766).bind fun t769 => (if t769 = true then ((laws_markLegS.f k (l0.map cv) 1).bind fun bt770 => (if bt770.1 < 0 then (laws_FnExactExactLegs.j1 k l0 B.1 B.2 B.1 true) else ((laws_eqIntS.f k B.1 B.1).bind fun t772 => (if t772 = true then (laws_FnExactExactLegs.j1 k l0 B.1 B.2 B.1 false) else (laws_FnExactExactLegs.j1 k l0 B.1 B.2 B.1 true))))) else (some false)))) (fun k => by simp only [laws_FnExactExactLegs.j0, bne_self_eq_false, Bool.false_eq_true, if_false]) ?_
    refine Ev.bind hlegs (Ev.bind (eqLegs_ev _ (by omega)) (Ev.pos rfl (Ev.bind hq (Ev.neg (by simp only; omega) (Ev.bind heq (Ev.pos rfl ?_))))))
    refine Ev.step (f := fun k => (laws_markIntS.f k B.1 1).bind fun bt773 => ((laws_heldIntS.f k bt773.2 1).bind fun t775 => (if t775 < 0 then (some false) else (if t775 = bt773.1 then ((laws_toLegS.f k l0).bind fun t776 => ((impl_ExactLegs.f t776).bind fun bt779 => ((laws_eqIntS.f k bt779.1 B.1).bind fun t783 => (if t783 = true then (laws_FnExactExactLegs.j2 k bt773.2 bt773.1 (bt779.2 != B.2)) else (laws_FnExactExactLegs.j2 k bt773.2 bt773.1 true))))) else (some false))))) (fun k => by simp only [laws_FnExactExactLegs.j1, Bool.false_eq_true, if_false]) ?_
    refine Ev.bind hm (Ev.bind hh (Ev.neg (by omega) (Ev.pos rfl (Ev.bind hlegs (Ev.bindc hi (Ev.bind heq (Ev.pos rfl ?_)))))))
    refine Ev.step (f := fun k => (laws_heldIntS.f k (Ints.from_ 1 B.1.length) 1).bind fun t784 => (if t784 < 0 then (some false) else (if t784 = 1 + (B.1.length : Int) then (some true) else (some false)))) (fun k => by simp only [laws_FnExactExactLegs.j2, bne_self_eq_false, Bool.false_eq_true, if_false]) ?_
    exact Ev.bind hh (Ev.neg (by omega) (Ev.pos rfl (Ev.now _)))
  · rw [if_neg c] at hsz
    exact Ev.bindc hsz (Ev.pos (by decide) (Ev.now _))
end Go.Proofs.YthplhbcafihacaaDoor.Pure

/- General laws by which a law's arguments are opened: a slice of structs whose fields are integers or bools, as a row of the print's kinds; a struct by value. No conditions. -/
namespace Go.Proofs.YthplhbcafihacaaDoor.Opens
open Go.ChangeShapes Go.WideShapes Go.Deep Go.RowKit Go.Proofs.YthplhbcafihacaaDoorW.PrintWords

theorem list_of {α : Type} {P : Nat → α → Prop} : ∀ (n : Nat), (∀ i, i < n → ∃ x, P i x) → ∃ xs : List α, xs.length = n ∧ ∀ i x, xs[i]? = some x → P i x
  | 0, _ => ⟨[], rfl, fun i x h => by simp at h⟩
  | n + 1, h => by
    obtain ⟨xs, hl, hx⟩ := list_of n (fun i hi => h i (Nat.lt_succ_of_lt hi))
    obtain ⟨y, hy⟩ := h n (Nat.lt_succ_self n)
    refine ⟨xs ++ [y], by simp [hl], fun i x hi => ?_⟩
    by_cases hlt : i < xs.length
    · rw [List.getElem?_append_left hlt] at hi
      exact hx i x hi
    · rw [List.getElem?_append_right (by omega)] at hi
      have h0 : i - xs.length = 0 := by
        have := (List.getElem?_eq_some_iff.1 hi).1
        simp at this
        omega
      rw [h0] at hi
      simp at hi
      subst hi
      have : i = n := by omega
      subst this
      exact hy

section
variable {H : Type} {enc : TypeId × Value → H} {P : Program} {w : World} {base : Nat} {spare : Nat → Bool} {held : Bool}
/-- A slice of structs, opened: the list of what its elements are, each by the kind's own reading. -/
theorem open_row {α : Type} (d : Kd α) {Q : α → Prop} {t e : TypeId} {a : Option Addr} {len cap : Nat} {dd : DataW H} {ps : List MemPlace} (ht : P.underlying t = some (.slice e)) (hC : P.cellsOf e = d.sz)
    (hd : ∀ n cs y, DataW.trod enc P w base spare held n e cs = some y → ∃ x, d.K w x cs ∧ Q x)
    (h : DataW.Trod enc P w base spare held t (.slice a len cap) dd ps) : ∃ xs : List α, xs.length = len ∧ len ≤ cap ∧ d.C w a len xs ∧ ∀ x ∈ xs, Q x := by
  obtain ⟨fuel, hf⟩ := h
  rcases open_slice ht hf with ⟨hcs, _⟩ | ⟨x, l, c, m, n, D, Pl, hcs, _, hl, hm, hmm, _, hi⟩
  · simp [Value.cells] at hcs
    obtain ⟨rfl, rfl, rfl⟩ := hcs
    exact ⟨[], rfl, Nat.le_refl _, ⟨rfl, by omega, fun h => by omega⟩, fun x hx => by simp at hx⟩
  · simp [Value.cells] at hcs
    obtain ⟨rfl, rfl, rfl⟩ := hcs
    have hle : len ≤ m := by subst hmm; split <;> omega
    obtain ⟨xs, hxl, hx⟩ := list_of (P := fun i (z : α) => Q z ∧ ∃ cs, d.K w z cs ∧ w.cells? base (x.add (i * d.sz)) d.sz = some cs) len (fun i hil => by
      obtain ⟨cs, h1, h2⟩ := hi i (by omega)
      rw [hC] at h1
      obtain ⟨z, h3, h4⟩ := hd _ _ _ h2
      exact ⟨z, h4, cs, h3, h1⟩)
    refine ⟨xs, hxl, hl, ⟨hxl, by unfold maxLen at hm; omega, fun _ => ⟨x, rfl, fun j p hp => ?_⟩⟩, fun z hz => ?_⟩
    · obtain ⟨_, cs, h1, h2⟩ := hx j p hp
      obtain ⟨_, hlen, hat⟩ := World.cells?_some h2
      refine ⟨cs, hlen, h1, fun i u hu => ?_⟩
      have hil : i < d.sz := by have := (List.getElem?_eq_some_iff.1 hu).1; omega
      rw [← Go.Deep.add_add, hat i hil, hu]
    · obtain ⟨j, hj⟩ := List.getElem?_of_mem hz
      exact (hx j z hj).1

theorem sized_row {t e : TypeId} {a : Option Addr} {len cap : Nat} {d : DataW H} {ps : List MemPlace} {ts : List TypeId} {ds : List (DataW H)} {j : Nat}
    (hsz : (DataW.weightsEach P ts ds).all (· ≤ reachBytes) = true) (ht : ts[j]? = some t) (hd : ds[j]? = some d) (hu : P.underlying t = some (.slice e)) {B : Nat} (hB : P.bytesOf e = B)
    (h : DataW.Trod enc P w base spare held t (.slice a len cap) d ps) : len * B ≤ 140737488351232 := by
  obtain ⟨fuel, hf⟩ := h
  rcases open_slice hu hf with ⟨hcs, _⟩ | ⟨x, l, c, m, n, D, Pl, hcs, _, hl, hm, hmm, hx, hi⟩
  · simp [Value.cells] at hcs
    obtain ⟨rfl, rfl, rfl⟩ := hcs
    simp
  · simp [Value.cells] at hcs
    obtain ⟨rfl, rfl, rfl⟩ := hcs
    obtain ⟨hx, _⟩ := Prod.mk.inj hx
    subst hx
    have z := sized_slice hsz ht hd hu
    rw [hB] at z
    simp only [List.length_map, List.length_range] at z
    have hle : len ≤ m := by subst hmm; split <;> omega
    rw [show len + (m - len) = m by omega] at z
    exact Nat.le_trans (Nat.mul_le_mul_right _ hle) z

theorem one_field {f : Field} {cs : List Value} {o c : Nat} (ho : f.offset = o) (hc : P.cellsOf f.type = c) {n : Nat} {y : Option (DataW H × List MemPlace)} (h : DataW.trod enc P w base spare held n f.type ((cs.drop f.offset).take (P.cellsOf f.type)) = y) : DataW.trod enc P w base spare held n f.type ((cs.drop o).take c) = y := by rw [← ho, ← hc]; exact h
end
theorem len5 {α : Type} : ∀ {l : List α}, l.length = 5 → ∃ x0 x1 x2 x3 x4, l = [x0, x1, x2, x3, x4]
  | [x0, x1, x2, x3, x4], _ => ⟨x0, x1, x2, x3, x4, rfl⟩
end Go.Proofs.YthplhbcafihacaaDoor.Opens

namespace Go.Proofs.YthplhbcafihacaaDoor.fnExactExactLegs
open Go.ChangeShapes Go.WideShapes Go.ChangeAt Go.RowKit
open Go.ChangeMaps (open_string shut_string)
open Go.Proofs.YthplhbcafihacaaDoor.A Go.Proofs.YthplhbcafihacaaDoorW.PrintWords Go.Proofs.YthplhbcafihacaaDoor.Opens
set_option linter.unusedVariables false
theorem own : ownKnob Tryd.prog.godebug = none := by kernel_rfl
theorem laidOut : laidOutB Tryd.prog = true := by kernel_rfl
theorem open_53 {H : Type} {enc : TypeId × Value → H} {w : World} {base : Nat} {spare : Nat → Bool} {held : Bool} {n : Nat} {cs : List Value} {y : DataW H × List MemPlace} (h : DataW.trod enc Tryd.prog w base spare held n 53 cs = some y) : ∃ (x0 : Int) (x1 : Int) (x2 : Int) (x3 : Int) (x4 : Int), cs = [.int .i64 x0, .int .i64 x1, .int .i64 x2, .int .i64 x3, .int .i64 x4] ∧ (Lit.int .i64 x0).wf = true ∧ (Lit.int .i64 x1).wf = true ∧ (Lit.int .i64 x2).wf = true ∧ (Lit.int .i64 x3).wf = true ∧ (Lit.int .i64 x4).wf = true := by
  obtain ⟨ys, n', _, _, hlen, hys, hf⟩ := DataW.trod_struct Tryd.underlying53 h
  replace hlen : cs.length = 5 := hlen.trans qz4
  replace hys : ys.length = 5 := hys.trans qz4
  clear h
  obtain ⟨c0, c1, c2, c3, c4, rfl⟩ := len5 hlen
  obtain ⟨y0, y1, y2, y3, y4, rfl⟩ := len5 hys
  have h0 : DataW.trod enc Tryd.prog w base spare held n' 3 [c0] = some y0 := one_field (c := 1) (o := 0) rfl qz4 (hf 0 _ rfl)
  obtain ⟨x0, e0, _, w0⟩ := DataW.trod_int Tryd.underlying3 h0
  obtain rfl : c0 = _ := (List.cons.inj e0).1
  have h1 : DataW.trod enc Tryd.prog w base spare held n' 3 [c1] = some y1 := one_field (c := 1) (o := 1) rfl qz4 (hf 1 _ rfl)
  obtain ⟨x1, e1, _, w1⟩ := DataW.trod_int Tryd.underlying3 h1
  obtain rfl : c1 = _ := (List.cons.inj e1).1
  have h2 : DataW.trod enc Tryd.prog w base spare held n' 3 [c2] = some y2 := one_field (c := 1) (o := 2) rfl qz4 (hf 2 _ rfl)
  obtain ⟨x2, e2, _, w2⟩ := DataW.trod_int Tryd.underlying3 h2
  obtain rfl : c2 = _ := (List.cons.inj e2).1
  have h3 : DataW.trod enc Tryd.prog w base spare held n' 3 [c3] = some y3 := one_field (c := 1) (o := 3) rfl qz4 (hf 3 _ rfl)
  obtain ⟨x3, e3, _, w3⟩ := DataW.trod_int Tryd.underlying3 h3
  obtain rfl : c3 = _ := (List.cons.inj e3).1
  have h4 : DataW.trod enc Tryd.prog w base spare held n' 3 [c4] = some y4 := one_field (c := 1) (o := 4) rfl qz4 (hf 4 _ rfl)
  obtain ⟨x4, e4, _, w4⟩ := DataW.trod_int Tryd.underlying3 h4
  obtain rfl : c4 = _ := (List.cons.inj e4).1
  exact ⟨x0, x1, x2, x3, x4, rfl, w0, w1, w2, w3, w4⟩
set_option maxRecDepth 100000 in
theorem lifted (os : Os) (started : os.Started) (H : Type) (enc : TypeId × Value → H) :
    ReturnsInHanded {} Tryd.checked os 7 .any (fun w args => (Rows.fnExactExactLegsSpec.pre enc Tryd.prog Tryd.f7 [] false w args ∧ laidMetH Tryd.prog LaidT.list w) ∧ sizedMet enc Tryd.prog Tryd.f7 (OpenSpec.ofChange Rows.fnExactExactLegsSpec) false w args) (Rows.fnExactExactLegsSpec.post enc Tryd.prog Tryd.f7 false true false false) := by
  refine returnsInHanded_of_change_and (C := Tryd.checked) (X := fun w _ => laidMetH Tryd.prog LaidT.list w) (fun _ _ _ hh h => h.of_heap hh) own started qz4 Tryd.func7
    (ChangeSpec.witness_shaped (enc := enc) (C := Tryd.checked) (os := os) (X := fun w _ => laidMetH Tryd.prog LaidT.list w) false (World.doorLaid Tryd.prog 400 os) #[.slice none 0 0] 8 rfl (World.shaped_of_RefB qz4 qz4) qz4 qz4 qz4 (LaidT.door_met os _)) ?_
  intro W base args ds gs before hval0 hW hcnd hsz0 hL _
  have hsz : (DataW.weightsEach Tryd.prog (Tryd.f7.params.toList ++ Rows.fnExactExactLegsSpec.plain.varTypes Tryd.prog) (ds ++ gs)).all (· ≤ reachBytes) = true := hsz0
  have hval : ∀ (j : Nat) t v, Tryd.f7.params[j]? = some t → args[j]? = some v → Value.okWide Tryd.prog W .any base t v := hval0
  have hW' := hW
  obtain ⟨p, q, hA0, hV, rfl, hfz, hnd⟩ := hW
  have hA : DataW.TrodAll enc Tryd.prog W 0 (fun _ => true) true Tryd.f7.params.toList args.toList ds p := hA0
  rw [Tryd.params7] at hA hval hsz
  obtain ⟨v0, vs0, d0, ds0, p0, q0, hargs, rfl, rfl, h0, r0⟩ := trodAll_cons hA
  obtain ⟨rfl, rfl, rfl⟩ := trodAll_nil r0
  obtain rfl : args = #[v0] := by cases args; simp_all
  have hV2 := hV
  obtain ⟨_, _, _, _, gd, _, rfl, _, _, _, _, _⟩ := trodVars_one hV
  have k0 := h0
  have lt0 : ∀ x ∈ p0, x.block < W.heap.size := by obtain ⟨m, hm⟩ := k0; exact DataW.trod_lt m _ _ _ hm
  obtain ⟨a0, len0, cap0, rfl⟩ := okWide_slice Tryd.underlying22 (hval 0 22 v0 rfl rfl)
  obtain ⟨l0, hl0, hc0, hr0, hw0⟩ := Opens.open_row k53 (Q := fun x => (Lit.int .i64 x.f0).wf = true ∧ (Lit.int .i64 x.f1).wf = true ∧ (Lit.int .i64 x.f2).wf = true ∧ (Lit.int .i64 x.f3).wf = true ∧ (Lit.int .i64 x.f4).wf = true) (e := 53) Tryd.underlying22 qz4 (fun _ _ _ h => by obtain ⟨x0, x1, x2, x3, x4, rfl, hw⟩ := open_53 h; exact ⟨⟨x0, x1, x2, x3, x4⟩, k53_mk _ _, hw⟩) h0
  have y0 : len0 * 40 ≤ 140737488351232 := Opens.sized_row hsz (j := 0) (t := 22) rfl rfl Tryd.underlying22 qz4 h0
  subst hl0
  clear hA0 hval0 hsz0 hsz
  obtain ⟨k, hk⟩ := Pure.FnExactExactLegs l0 y0 hw0
  refine (laws_FnExactExactLegs.calls k _ _ l0 true W hr0 hc0 hk (LaidT.of_laid hL)).mono fun e W' ⟨he, hb⟩ => ?_
  have bel : Below W.heap.size W W' := hb
  subst he
  exact ⟨_, rfl, _, _, _, [], _, _, hW', trodAll_mk1 (shut_bool Tryd.underlying4 _), (trodAll_cons_mk (Below.trod laidOut qz4 (of_decide_eq_true qz4) k0 bel lt0) trodAll_mk0), Below.trodVars laidOut bel qz4 hV2, bel.frame _, fun h => by cases h⟩
theorem over : Rows.fnExactExactLegsRow.holds Tryd.pinned (OpenSpec.ofChange Rows.fnExactExactLegsSpec) :=
  OpenClaim.holds_of_wide 7 Tryd.f7 rfl rfl rfl rfl rfl rfl rfl ⟨rfl, rfl, rfl, rfl, rfl⟩ rfl rfl rfl rfl rfl qz4 Tryd.func7 qz4
    (of_decide_eq_true qz4) (by unfold Func.isWrapper; first | (rw [if_pos (by decide +kernel)]; kernel_rfl) | (rw [if_neg (by decide +kernel)]; exact ⟨rfl, rfl⟩))
    (fun os started H enc _ => lifted os started H enc)
theorem proved : Rows.FnExactExactLegsSaid := over
theorem card_holds : Rows.FnExactExactLegsCardSaid :=
  Claim7.holds_tied_plain_at .later [] [.data] true (true, "57e2faa9e92f11a4cdee4d549bcbf1debfde8c84ca67e4d671151bf42375cc4d") false
    over (fun _ h => by cases h) qz4 (fun _ h => by cases h) fnExactExactLegs_row_tie rfl ⟨rfl, rfl⟩ qz4 rfl
    (fun f fn hf hfn => by
      obtain rfl : f = 7 := Option.some.inj ((show Tryd.prog.funcNamed "loop.example/g00933/laws.FnExactExactLegs" = some 7 by kernel_rfl).symm.trans hf) |>.symm
      obtain rfl : fn = Tryd.f7 := (Option.some.inj (Tryd.func7.symm.trans hfn)).symm
      exact ⟨by kernel_rfl, fun j t ht => by
        rw [Tryd.params7] at ht
        have hm : t ∈ [22] := by simpa using Array.mem_of_getElem? ht
        have hall : ([22].all fun u => !Tryd.prog.wantsStandIn u) = true := by kernel_rfl
        exact (show Tryd.prog.wantsStandIn t = false by simpa using List.all_eq_true.1 hall t hm)⟩)
    qz4
#print axioms card_holds
end Go.Proofs.YthplhbcafihacaaDoor.fnExactExactLegs
namespace Go.Proofs.YthplhbcafihacaaDoor
/-- The row, under a short name, for the claim. -/
theorem fnExactExactLegs_holds : Rows.FnExactExactLegsCardSaid := fnExactExactLegs.card_holds
end Go.Proofs.YthplhbcafihacaaDoor
