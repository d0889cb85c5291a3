/- The row of the law FnExactLoopOf: whatever the input, it returns true; its arguments read as they did. No conditions. -/
import Derived.Deep.Slices
import Derived.Deep.Fields
import Derived.ChangeSame
import Derived.SizedLaws
import Derived.Test.YtiooiefjcbooeaaDoorKFnExactLoopOfVMore
import Derived.Test.YtiooiefjcbooeaaDoorCards
import Derived.Test.YtiooiefjcbooeaaDoorTie
import Derived.OpenVars
import Derived.ChangeVars
import Derived.SevenTiedAt
import Derived.Stop.Joined
import Derived.LaidMore
import Derived.Test.YtiooiefjcbooeaaDoorRows
import Derived.WalkKit
import Derived.ProofKit
import Derived.OpenShut
import Derived.ShutString
import Derived.ChangeOld
import Derived.Below
import Derived.Test.YtiooiefjcbooeaaDoorKFnExactLoopOf0
import Derived.Test.YtiooiefjcbooeaaDoorKFnExactLoopOf1
import Derived.Test.YtiooiefjcbooeaaDoorKFnExactLoopOf2
import Derived.Test.YtiooiefjcbooeaaDoorKFnExactLoopOf3
import Derived.Test.YtiooiefjcbooeaaDoorKFnExactLoopOf4
import Derived.Test.YtiooiefjcbooeaaDoorKFnExactLoopOfU1
import Derived.Test.YtiooiefjcbooeaaDoorKFnExactLoopOfU2
import Derived.Test.YtiooiefjcbooeaaDoorKFnExactLoopOfU3
/- One Lean function and its proof for each Go function, written by a program out of the translation. No conditions. -/
namespace Go.Proofs.YtiooiefjcbooeaaDoor.A
open Go.Proofs.YtiooiefjcbooeaaDoor Go.RowKit Go.Proofs.YtiooiefjcbooeaaDoorW.PrintWords Go.Proofs.YtiooiefjcbooeaaDoorW.PrintLast Go.Proofs.YtiooiefjcbooeaaDoorW.PrintMore
attribute [local go_sem] max2_int min2_int max_two min_two max_three min_three max_four min_four   -- for this text's walks alone
set_option linter.unusedVariables false
set_option linter.unusedSimpArgs false

/-! ### laws_FnExactLoopOf: function 13 -/
mutual
def laws_FnExactLoopOf.j0 : Nat → List (S58) → Int → List Int → Bool → List (S56) → List Int → Bool → Bool → Option (Bool)
  | 0, _, _, _, _, _, _, _, _ => none
  | k + 1, x0, x1, x6, x7, x8, x9, x10, x44 => if x44 = true then (some false) else ((laws_toLegS.f k x0).bind fun t871 => ((laws_eqLegS.f k x8 t871).bind fun t874 => (if t874 = true then ((laws_markLegS.f k x8 1).bind fun bt875 => (if bt875.1 < 0 then (laws_FnExactLoopOf.j1 k x0 x1 x6 x7 x9 true) else ((laws_eqIntS.f k x9 x6).bind fun t877 => (if t877 = true then (laws_FnExactLoopOf.j1 k x0 x1 x6 x7 x9 (x10 != x7)) else (laws_FnExactLoopOf.j1 k x0 x1 x6 x7 x9 true))))) else (some false))))
def laws_FnExactLoopOf.j1 : Nat → List (S58) → Int → List Int → Bool → List Int → Bool → Option (Bool)
  | 0, _, _, _, _, _, _ => none
  | k + 1, x0, x1, x6, x7, x9, x65 => if x65 = true then (some false) else ((laws_markIntS.f k x9 1).bind fun bt878 => ((laws_heldIntS.f k bt878.2 1).bind fun t880 => (if t880 < 0 then (some false) else (if t880 = bt878.1 then ((laws_toLegS.f k x0).bind fun t881 => ((impl_LoopOf.f t881 x1).bind fun bt884 => ((laws_eqIntS.f k bt884.1 x6).bind fun t888 => (if t888 = true then (laws_FnExactLoopOf.j2 k bt878.2 bt878.1 (bt884.2 != x7)) else (laws_FnExactLoopOf.j2 k bt878.2 bt878.1 true))))) else (some false)))))
def laws_FnExactLoopOf.j2 : Nat → List Int → Int → Bool → Option (Bool)
  | 0, _, _, _ => none
  | k + 1, x9, x12, x92 => if x92 = true then (some false) else ((laws_heldIntS.f k x9 1).bind fun t889 => (if t889 < 0 then (some false) else (if t889 = x12 then (some true) else (some false))))
end
def laws_FnExactLoopOf.f (k : Nat) (l0 : List (S58)) (a1 : Int) : Option (Bool) := (laws_szLegS.f l0 1048576).bind fun t855 => (if t855 < 0 then (some true) else ((laws_toLegS.f k l0).bind fun t856 => ((spec_LoopOf.f k t856 a1).bind fun bt859 => ((laws_toLegS.f k l0).bind fun t863 => ((impl_LoopOf.f t863 a1).bind fun bt866 => ((laws_eqIntS.f k bt866.1 bt859.1).bind fun t870 => (if t870 = true then (laws_FnExactLoopOf.j0 k l0 a1 bt859.1 bt859.2 t863 bt866.1 bt866.2 (bt866.2 != bt859.2)) else (laws_FnExactLoopOf.j0 k l0 a1 bt859.1 bt859.2 t863 bt866.1 bt866.2 true))))))))
theorem laws_FnExactLoopOf.mono_l : ∀ k, (∀ y0 y1 y2 y3 y4 y5 y6 y7, LeO (laws_FnExactLoopOf.j0 k y0 y1 y2 y3 y4 y5 y6 y7) (laws_FnExactLoopOf.j0 (k + 1) y0 y1 y2 y3 y4 y5 y6 y7)) ∧ (∀ y0 y1 y2 y3 y4 y5, LeO (laws_FnExactLoopOf.j1 k y0 y1 y2 y3 y4 y5) (laws_FnExactLoopOf.j1 (k + 1) y0 y1 y2 y3 y4 y5)) ∧ (∀ y0 y1 y2, LeO (laws_FnExactLoopOf.j2 k y0 y1 y2) (laws_FnExactLoopOf.j2 (k + 1) y0 y1 y2))
  | 0 => ⟨fun _ _ _ _ _ _ _ _ r h => by simp [laws_FnExactLoopOf.j0] at h, fun _ _ _ _ _ _ r h => by simp [laws_FnExactLoopOf.j1] at h, fun _ _ _ r h => by simp [laws_FnExactLoopOf.j2] at h⟩
  | k + 1 => by
    obtain ⟨ih0, ih1, ih2⟩ := laws_FnExactLoopOf.mono_l k
    refine ⟨?_, ?_, ?_⟩
    · intro y0 y1 y2 y3 y4 y5 y6 y7
      unfold laws_FnExactLoopOf.j0
      repeat' first
      | (with_reducible exact ih0 _ _ _ _ _ _ _ _)
      | (with_reducible exact ih1 _ _ _ _ _ _)
      | (with_reducible exact ih2 _ _ _)
      | (with_reducible exact laws_eqIntS.mono _ _ _)
      | (with_reducible exact laws_eqLegS.mono _ _ _)
      | (with_reducible exact laws_heldIntS.mono _ _ _)
      | (with_reducible exact laws_markIntS.mono _ _ _)
      | (with_reducible exact laws_markLegS.mono _ _ _)
      | (with_reducible exact laws_toLegS.mono _ _)
      | (with_reducible exact spec_LoopOf.mono _ _ _)
      | (with_reducible exact LeO.refl _)
      | (with_reducible exact LeO.none _)
      | (with_reducible refine LeO.ite ?_ ?_)
      | (with_reducible refine LeO.bind ?_ (fun _ => ?_))
      | exact ih0 _ _ _ _ _ _ _ _
      | exact ih1 _ _ _ _ _ _
      | exact ih2 _ _ _
      | exact laws_eqIntS.mono _ _ _
      | exact laws_eqLegS.mono _ _ _
      | exact laws_heldIntS.mono _ _ _
      | exact laws_markIntS.mono _ _ _
      | exact laws_markLegS.mono _ _ _
      | exact laws_toLegS.mono _ _
      | exact spec_LoopOf.mono _ _ _
      | exact LeO.none _
      | refine LeO.ite ?_ ?_
      | refine LeO.bind ?_ (fun _ => ?_)
    · intro y0 y1 y2 y3 y4 y5
      unfold laws_FnExactLoopOf.j1
      repeat' first
      | (with_reducible exact ih0 _ _ _ _ _ _ _ _)
      | (with_reducible exact ih1 _ _ _ _ _ _)
      | (with_reducible exact ih2 _ _ _)
      | (with_reducible exact laws_eqIntS.mono _ _ _)
      | (with_reducible exact laws_eqLegS.mono _ _ _)
      | (with_reducible exact laws_heldIntS.mono _ _ _)
      | (with_reducible exact laws_markIntS.mono _ _ _)
      | (with_reducible exact laws_markLegS.mono _ _ _)
      | (with_reducible exact laws_toLegS.mono _ _)
      | (with_reducible exact spec_LoopOf.mono _ _ _)
      | (with_reducible exact LeO.refl _)
      | (with_reducible exact LeO.none _)
      | (with_reducible refine LeO.ite ?_ ?_)
      | (with_reducible refine LeO.bind ?_ (fun _ => ?_))
      | exact ih0 _ _ _ _ _ _ _ _
      | exact ih1 _ _ _ _ _ _
      | exact ih2 _ _ _
      | exact laws_eqIntS.mono _ _ _
      | exact laws_eqLegS.mono _ _ _
      | exact laws_heldIntS.mono _ _ _
      | exact laws_markIntS.mono _ _ _
      | exact laws_markLegS.mono _ _ _
      | exact laws_toLegS.mono _ _
      | exact spec_LoopOf.mono _ _ _
      | exact LeO.none _
      | refine LeO.ite ?_ ?_
      | refine LeO.bind ?_ (fun _ => ?_)
    · intro y0 y1 y2
      unfold laws_FnExactLoopOf.j2
      repeat' first
      | (with_reducible exact ih0 _ _ _ _ _ _ _ _)
      | (with_reducible exact ih1 _ _ _ _ _ _)
      | (with_reducible exact ih2 _ _ _)
      | (with_reducible exact laws_eqIntS.mono _ _ _)
      | (with_reducible exact laws_eqLegS.mono _ _ _)
      | (with_reducible exact laws_heldIntS.mono _ _ _)
      | (with_reducible exact laws_markIntS.mono _ _ _)
      | (with_reducible exact laws_markLegS.mono _ _ _)
      | (with_reducible exact laws_toLegS.mono _ _)
      | (with_reducible exact spec_LoopOf.mono _ _ _)
      | (with_reducible exact LeO.refl _)
      | (with_reducible exact LeO.none _)
      | (with_reducible refine LeO.ite ?_ ?_)
      | (with_reducible refine LeO.bind ?_ (fun _ => ?_))
      | exact ih0 _ _ _ _ _ _ _ _
      | exact ih1 _ _ _ _ _ _
      | exact ih2 _ _ _
      | exact laws_eqIntS.mono _ _ _
      | exact laws_eqLegS.mono _ _ _
      | exact laws_heldIntS.mono _ _ _
      | exact laws_markIntS.mono _ _ _
      | exact laws_markLegS.mono _ _ _
      | exact laws_toLegS.mono _ _
      | exact spec_LoopOf.mono _ _ _
      | exact LeO.none _
      | refine LeO.ite ?_ ?_
      | refine LeO.bind ?_ (fun _ => ?_)
theorem laws_FnExactLoopOf.mono : ∀ a0 a1 k, LeO (laws_FnExactLoopOf.f k a0 a1) (laws_FnExactLoopOf.f (k + 1) a0 a1) := by
  intro a0 a1 k
  obtain ⟨ih0, ih1, ih2⟩ := laws_FnExactLoopOf.mono_l k
  unfold laws_FnExactLoopOf.f
  repeat' first
      | (with_reducible exact ih0 _ _ _ _ _ _ _ _)
      | (with_reducible exact ih1 _ _ _ _ _ _)
      | (with_reducible exact ih2 _ _ _)
      | (with_reducible exact laws_eqIntS.mono _ _ _)
      | (with_reducible exact laws_eqLegS.mono _ _ _)
      | (with_reducible exact laws_heldIntS.mono _ _ _)
      | (with_reducible exact laws_markIntS.mono _ _ _)
      | (with_reducible exact laws_markLegS.mono _ _ _)
      | (with_reducible exact laws_toLegS.mono _ _)
      | (with_reducible exact spec_LoopOf.mono _ _ _)
      | (with_reducible exact LeO.refl _)
      | (with_reducible exact LeO.none _)
      | (with_reducible refine LeO.ite ?_ ?_)
      | (with_reducible refine LeO.bind ?_ (fun _ => ?_))
      | exact ih0 _ _ _ _ _ _ _ _
      | exact ih1 _ _ _ _ _ _
      | exact ih2 _ _ _
      | exact laws_eqIntS.mono _ _ _
      | exact laws_eqLegS.mono _ _ _
      | exact laws_heldIntS.mono _ _ _
      | exact laws_markIntS.mono _ _ _
      | exact laws_markLegS.mono _ _ _
      | exact laws_toLegS.mono _ _
      | exact spec_LoopOf.mono _ _ _
      | exact LeO.none _
      | refine LeO.ite ?_ ?_
      | refine LeO.bind ?_ (fun _ => ?_)
set_option maxHeartbeats 8000000 in
set_option maxRecDepth 100000 in
theorem laws_FnExactLoopOf.calls (k : Nat) (A0 : Option Addr) (c0 : Nat) (l0 : List (S58)) (a1 : Int) (r : Bool) (w : World) (hr0 : Kd.C k58 w A0 l0.length l0) (hc0 : l0.length ≤ c0) (h : laws_FnExactLoopOf.f k l0 a1 = some r) (hL : Net.Sine.Laid w) :
    Calls Tryd.prog 13 #[.slice A0 l0.length c0, .int .i64 a1] w fun e w' => e = .returned (.bool r) ∧ Below w.heap.size w w' := by
  have HL := Aside0.mk hL
  clear hL
  have HR0 := Aside0.mk hr0
  have HC0 := Aside0.mk hc0
  clear hr0 hc0
  have HB := Aside0.mk (Below.refl w.heap.size w)
  have H : ((laws_szLegS.f l0 1048576).bind fun t855 => (if t855 < 0 then (some true) else ((laws_toLegS.f k l0).bind fun t856 => ((spec_LoopOf.f k t856 a1).bind fun bt859 => ((laws_toLegS.f k l0).bind fun t863 => ((impl_LoopOf.f t863 a1).bind fun bt866 => ((laws_eqIntS.f k bt866.1 bt859.1).bind fun t870 => (if t870 = true then (laws_FnExactLoopOf.j0 k l0 a1 bt859.1 bt859.2 t863 bt866.1 bt866.2 (bt866.2 != bt859.2)) else (laws_FnExactLoopOf.j0 k l0 a1 bt859.1 bt859.2 t863 bt866.1 bt866.2 true))))))))) = some r := h
  clear h
  replace H := Option.bind_eq_some_iff.mp H
  obtain ⟨t855, A30, H⟩ := H
  replace H : (if t855 < 0 then (some true) else ((laws_toLegS.f k l0).bind fun t856 => ((spec_LoopOf.f k t856 a1).bind fun bt859 => ((laws_toLegS.f k l0).bind fun t863 => ((impl_LoopOf.f t863 a1).bind fun bt866 => ((laws_eqIntS.f k bt866.1 bt859.1).bind fun t870 => (if t870 = true then (laws_FnExactLoopOf.j0 k l0 a1 bt859.1 bt859.2 t863 bt866.1 bt866.2 (bt866.2 != bt859.2)) else (laws_FnExactLoopOf.j0 k l0 a1 bt859.1 bt859.2 t863 bt866.1 bt866.2 true)))))))) = some r := H
  have A3 := Aside0.mk A30
  clear A30
  by_cases c4 : t855 < 0
  · rw [if_pos c4] at H
    have c4b0 : decide (t855 < 0) = true := decide_eq_true c4
    clear c4
    obtain rfl := Option.some.inj H
    go_enter Tryd.func13, Tryd.ntmps13
    go_wp2_with (first | ((with_reducible refine gate_callee (f := 15) rfl ?_); refine goesL_ (some 18) rfl rfl Tryd.func15 (by kernel_rfl) rfl #[.slice A0 l0.length c0, .int .i64 1048576] rfl (by (try simp only [List.map_toArray, List.map_cons, List.map_nil]); first | done | rfl | (simp only [List.length_drop, List.length_take]; rfl)) ?_; (with_reducible refine (laws_szLegS.calls _ _ l0 1048576 t855 _ ?side1 ?side2 A3.out).mono ?_); (case side1 => repeat (first | exact HR0.out | (with_reducible refine Kd.C_alloc ?_ _) | (with_reducible refine Kd.C_drewN ?_ _) | (with_reducible refine Kd.C_drew ?_))); (case side2 => exact HC0.out); rintro e w' ⟨rfl, ⟨nd, rfl⟩⟩; refine ⟨_, rfl, ?_⟩))
    go_ret
    exact ⟨by first | rfl | (simp [errW_none, errW_some] <;> rfl) | (simp [*, errW_none, errW_some] <;> rfl), by repeat (first | (with_reducible first | exact HB.out | apply below_alloc | apply pw_below_drewN | apply below_drew1) | exact HB.out)⟩
  · rw [if_neg c4] at H
    have c4b0 : decide (t855 < 0) = false := decide_eq_false c4
    clear c4
    replace H := Option.bind_eq_some_iff.mp H
    obtain ⟨t856, A50, H⟩ := H
    replace H : ((spec_LoopOf.f k t856 a1).bind fun bt859 => ((laws_toLegS.f k l0).bind fun t863 => ((impl_LoopOf.f t863 a1).bind fun bt866 => ((laws_eqIntS.f k bt866.1 bt859.1).bind fun t870 => (if t870 = true then (laws_FnExactLoopOf.j0 k l0 a1 bt859.1 bt859.2 t863 bt866.1 bt866.2 (bt866.2 != bt859.2)) else (laws_FnExactLoopOf.j0 k l0 a1 bt859.1 bt859.2 t863 bt866.1 bt866.2 true)))))) = some r := H
    have A5 := Aside0.mk A50
    clear A50
    replace H := Option.bind_eq_some_iff.mp H
    obtain ⟨⟨t859, t860⟩, A60, H⟩ := H
    replace H : ((laws_toLegS.f k l0).bind fun t863 => ((impl_LoopOf.f t863 a1).bind fun bt866 => ((laws_eqIntS.f k bt866.1 t859).bind fun t870 => (if t870 = true then (laws_FnExactLoopOf.j0 k l0 a1 t859 t860 t863 bt866.1 bt866.2 (bt866.2 != t860)) else (laws_FnExactLoopOf.j0 k l0 a1 t859 t860 t863 bt866.1 bt866.2 true))))) = some r := H
    have A6 := Aside0.mk A60
    clear A60
    replace H := Option.bind_eq_some_iff.mp H
    obtain ⟨t863, A70, H⟩ := H
    replace H : ((impl_LoopOf.f t863 a1).bind fun bt866 => ((laws_eqIntS.f k bt866.1 t859).bind fun t870 => (if t870 = true then (laws_FnExactLoopOf.j0 k l0 a1 t859 t860 t863 bt866.1 bt866.2 (bt866.2 != t860)) else (laws_FnExactLoopOf.j0 k l0 a1 t859 t860 t863 bt866.1 bt866.2 true)))) = some r := H
    have A7 := Aside0.mk A70
    clear A70
    replace H := Option.bind_eq_some_iff.mp H
    obtain ⟨⟨t866, t867⟩, A80, H⟩ := H
    replace H : ((laws_eqIntS.f k t866 t859).bind fun t870 => (if t870 = true then (laws_FnExactLoopOf.j0 k l0 a1 t859 t860 t863 t866 t867 (t867 != t860)) else (laws_FnExactLoopOf.j0 k l0 a1 t859 t860 t863 t866 t867 true))) = some r := H
    have A8 := Aside0.mk A80
    clear A80
    have HC9 := Aside0.mk H
    clear H
    go_enter Tryd.func13, Tryd.ntmps13
    go_upto_region 8 with (first | ((with_reducible refine gate_callee (f := 15) rfl ?_); refine goesL_ (some 18) rfl rfl Tryd.func15 (by kernel_rfl) rfl #[.slice A0 l0.length c0, .int .i64 1048576] rfl (by (try simp only [List.map_toArray, List.map_cons, List.map_nil]); first | done | rfl | (simp only [List.length_drop, List.length_take]; rfl)) ?_; (with_reducible refine (laws_szLegS.calls _ _ l0 1048576 t855 _ ?side1 ?side2 A3.out).mono ?_); (case side1 => repeat (first | exact HR0.out | (with_reducible refine Kd.C_alloc ?_ _) | (with_reducible refine Kd.C_drewN ?_ _) | (with_reducible refine Kd.C_drew ?_))); (case side2 => exact HC0.out); rintro e w' ⟨rfl, ⟨nd, rfl⟩⟩; refine ⟨_, rfl, ?_⟩) | ((with_reducible refine gate_callee (f := 17) rfl ?_); refine goesL_ (some 23) rfl rfl Tryd.func17 (by kernel_rfl) rfl #[.slice A0 l0.length c0] rfl (by (try simp only [List.map_toArray, List.map_cons, List.map_nil]); first | done | rfl | (simp only [List.length_drop, List.length_take]; rfl)) ?_; (with_reducible refine (laws_toLegS.calls k _ _ l0 t856 _ ?side1 ?side2 A5.out).mono ?_); (case side1 => repeat (first | exact HR0.out | (with_reducible refine Kd.C_alloc ?_ _) | (with_reducible refine Kd.C_drewN ?_ _) | (with_reducible refine Kd.C_drew ?_))); (case side2 => exact HC0.out); rintro e w10 ⟨v857, rfl, ho0, hb⟩; refine ⟨_, rfl, ?_⟩; have n0_ := Aside0.mk (Kd.R_lower ho0 (below_size (by repeat (first | (with_reducible first | exact HB.out | apply below_alloc | apply pw_below_drewN | apply below_drew1) | exact HB.out)))); have n1_ := Aside0.mk (below_step (by repeat (first | (with_reducible first | exact HB.out | apply below_alloc | apply pw_below_drewN | apply below_drew1) | exact HB.out)) hb); clear HB; have HO858 := n0_; have HB := n1_; clear n0_ n1_; (try clear hb); (try clear hb2); (try clear hk); (try clear hi); (try clear ho0); obtain ⟨Ao11, co11, eo11⟩ := Kd.R_slice HO858.out; subst eo11) | ((with_reducible refine gate_callee (f := 45) rfl ?_); refine goesL_ (some 25) rfl rfl Tryd.func45 (by kernel_rfl) rfl #[.slice Ao11 t856.length co11, .int .i64 a1] rfl (by (try simp only [List.map_toArray, List.map_cons, List.map_nil]); first | done | rfl | (simp only [List.length_drop, List.length_take]; rfl)) ?_; (with_reducible refine (spec_LoopOf.calls k _ _ t856 a1 t859 t860 _ ?side1 ?side2 A6.out).mono ?_); (case side1 => repeat (first | exact (Kd.R_reads' HO858.out).2.2 | (with_reducible refine Kd.C_alloc ?_ _) | (with_reducible refine Kd.C_drewN ?_ _) | (with_reducible refine Kd.C_drew ?_))); (case side2 => exact (Kd.R_reads' HO858.out).2.1); rintro e w12 ⟨v861, rfl, ho0, hb⟩; refine ⟨_, rfl, ?_⟩; have n0_ := Aside0.mk (Kd.R_below (by (with_reducible repeat (first | apply Kd.R_alloc | apply Kd.R_drewN | apply Kd.R_drew)); exact HO858.out) hb); have n1_ := Aside0.mk (Kd.R_lower ho0 (below_size (by repeat (first | (with_reducible first | exact HB.out | apply below_alloc | apply pw_below_drewN | apply below_drew1) | exact HB.out)))); have n2_ := Aside0.mk (below_step (by repeat (first | (with_reducible first | exact HB.out | apply below_alloc | apply pw_below_drewN | apply below_drew1) | exact HB.out)) hb); clear HO858; clear HB; have HO858 := n0_; have HO862 := n1_; have HB := n2_; clear n0_ n1_ n2_; (try clear hb); (try clear hb2); (try clear hk); (try clear hi); (try clear ho0)) | ((with_reducible refine gate_callee (f := 17) rfl ?_); refine goesL_ (some 29) rfl rfl Tryd.func17 (by kernel_rfl) rfl #[.slice A0 l0.length c0] rfl (by (try simp only [List.map_toArray, List.map_cons, List.map_nil]); first | done | rfl | (simp only [List.length_drop, List.length_take]; rfl)) ?_; (with_reducible refine (laws_toLegS.calls k _ _ l0 t863 _ ?side1 ?side2 A7.out).mono ?_); (case side1 => repeat (first | exact (Kd.C_below HR0.out HB.out) | (with_reducible refine Kd.C_alloc ?_ _) | (with_reducible refine Kd.C_drewN ?_ _) | (with_reducible refine Kd.C_drew ?_))); (case side2 => exact HC0.out); rintro e w13 ⟨v864, rfl, ho0, hb⟩; refine ⟨_, rfl, ?_⟩; have n0_ := Aside0.mk (Kd.R_elder' (by (with_reducible repeat (first | apply Kd.R_alloc | apply Kd.R_drewN | apply Kd.R_drew)); exact HO858.out) (Kd.R_base ho0) hb); have n1_ := Aside0.mk (Kd.R_below (by (with_reducible repeat (first | apply Kd.R_alloc | apply Kd.R_drewN | apply Kd.R_drew)); exact HO862.out) hb); have n2_ := Aside0.mk (Kd.R_lower (Kd.R_new' ho0 (Kd.R_lt (by (with_reducible repeat (first | apply Kd.R_alloc | apply Kd.R_drewN | apply Kd.R_drew)); exact HO858.out))) (below_size (by repeat (first | (with_reducible first | exact HB.out | apply below_alloc | apply pw_below_drewN | apply below_drew1) | exact HB.out)))); have n3_ := Aside0.mk (below_step (by repeat (first | (with_reducible first | exact HB.out | apply below_alloc | apply pw_below_drewN | apply below_drew1) | exact HB.out)) hb); clear HO858; clear HO862; clear HB; have HO858 := n0_; have HO862 := n1_; have HO865 := n2_; have HB := n3_; clear n0_ n1_ n2_ n3_; (try clear hb); (try clear hb2); (try clear hk); (try clear hi); (try clear ho0); obtain ⟨Ao14, co14, eo14⟩ := Kd.R_slice HO865.out; subst eo14) | ((with_reducible refine gate_callee (f := 46) rfl ?_); refine goesL_ (some 33) rfl rfl Tryd.func46 (by kernel_rfl) rfl #[.slice Ao14 t863.length co14, .int .i64 a1] rfl (by (try simp only [List.map_toArray, List.map_cons, List.map_nil]); first | done | rfl | (simp only [List.length_drop, List.length_take]; rfl)) ?_; (with_reducible refine (impl_LoopOf.calls _ _ t863 a1 t866 t867 _ ?side1 ?side2 A8.out ?sideL).mono ?_); (case sideL => exact HL.out.keep (by repeat (first | (with_reducible first | exact HB.out | apply below_alloc | apply pw_below_drewN | apply below_drew1) | exact HB.out))); (case side1 => repeat (first | exact (Kd.R_reads' HO865.out).2.2 | (with_reducible refine Kd.C_alloc ?_ _) | (with_reducible refine Kd.C_drewN ?_ _) | (with_reducible refine Kd.C_drew ?_))); (case side2 => exact (Kd.R_reads' HO865.out).2.1); rintro e w15 ⟨v868, rfl, ho0, hb⟩; refine ⟨_, rfl, ?_⟩; have n0_ := Aside0.mk (Kd.R_below (by (with_reducible repeat (first | apply Kd.R_alloc | apply Kd.R_drewN | apply Kd.R_drew)); exact HO858.out) hb); have n1_ := Aside0.mk (Kd.R_elder' (by (with_reducible repeat (first | apply Kd.R_alloc | apply Kd.R_drewN | apply Kd.R_drew)); exact HO862.out) (Kd.R_base ho0) hb); have n2_ := Aside0.mk (Kd.R_below (by (with_reducible repeat (first | apply Kd.R_alloc | apply Kd.R_drewN | apply Kd.R_drew)); exact HO865.out) hb); have n3_ := Aside0.mk (Kd.R_lower (Kd.R_new' ho0 (Kd.R_lt (by (with_reducible repeat (first | apply Kd.R_alloc | apply Kd.R_drewN | apply Kd.R_drew)); exact HO862.out))) (below_size (by repeat (first | (with_reducible first | exact HB.out | apply below_alloc | apply pw_below_drewN | apply below_drew1) | exact HB.out)))); have n4_ := Aside0.mk (below_step (by repeat (first | (with_reducible first | exact HB.out | apply below_alloc | apply pw_below_drewN | apply below_drew1) | exact HB.out)) hb); clear HO858; clear HO862; clear HO865; clear HB; have HO858 := n0_; have HO862 := n1_; have HO865 := n2_; have HO869 := n3_; have HB := n4_; clear n0_ n1_ n2_ n3_ n4_; (try clear hb); (try clear hb2); (try clear hk); (try clear hi); (try clear ho0)))
    (try simp only [Act.put, List.setIfInBounds_toArray, List.set_cons_zero, List.set_cons_succ])
    go_cut [44] (fun v44 wc => ∃ (kq : Nat) (x44_8 : Bool), v44 = .bool x44_8 ∧ Aside0 (laws_FnExactLoopOf.j0 kq l0 a1 t859 t860 t863 t866 t867 x44_8 = some r) ∧ Aside0 (kq ≤ k) ∧ Aside0 (Kd.R (Kd.int .i64) 3 wc w.heap.size (fun k_ => some k_ ≠ (v868 : Value).ownBlock) v861 t859) ∧ Aside0 (Kd.R k56 56 wc w.heap.size (fun _ => True) (.slice Ao14 t863.length co14) t863) ∧ Aside0 (Kd.R (Kd.int .i64) 3 wc w.heap.size (fun k_ => some k_ ≠ (v861 : Value).ownBlock) v868 t866) ∧ Aside0 (Below w.heap.size w wc))
    case first =>
      have H := HC9.out
      clear HC9
      replace H := Option.bind_eq_some_iff.mp H
      obtain ⟨t870, A160, H⟩ := H
      replace H : (if t870 = true then (laws_FnExactLoopOf.j0 k l0 a1 t859 t860 t863 t866 t867 (t867 != t860)) else (laws_FnExactLoopOf.j0 k l0 a1 t859 t860 t863 t866 t867 true)) = some r := H
      have A16 := Aside0.mk A160
      clear A160
      by_cases c17 : t870 = true
      · subst c17
        have H1 : (laws_FnExactLoopOf.j0 k l0 a1 t859 t860 t863 t866 t867 (t867 != t860)) = some r := by rw [if_pos rfl] at H; exact H
        clear H
        have H := H1
        clear H1
        have H' := Aside0.mk H
        clear H
        obtain ⟨Ao18, co18, eo18⟩ := Kd.R_slice HO869.out
        subst eo18
        obtain ⟨Ao19, co19, eo19⟩ := Kd.R_slice HO862.out
        subst eo19
        go_wp2_with (first | ((with_reducible refine gate_callee (f := 28) rfl ?_); refine goesL_ (some 38) rfl rfl Tryd.func28 (by kernel_rfl) rfl #[.slice Ao18 t866.length co18, .slice Ao19 t859.length co19] rfl (by (try simp only [List.map_toArray, List.map_cons, List.map_nil]); first | done | rfl | (simp only [List.length_drop, List.length_take]; rfl)) ?_; (with_reducible refine (laws_eqIntS.calls k _ _ t866 _ _ t859 true _ ?side1 ?side2 ?side3 ?side4 A16.out).mono ?_); (case side1 => repeat (first | exact (Kd.R_reads' HO869.out).2.2 | (with_reducible refine Kd.C_alloc ?_ _) | (with_reducible refine Kd.C_drewN ?_ _) | (with_reducible refine Kd.C_drew ?_))); (case side2 => exact (Kd.R_reads' HO869.out).2.1); (case side3 => repeat (first | exact (Kd.R_reads' HO862.out).2.2 | (with_reducible refine Kd.C_alloc ?_ _) | (with_reducible refine Kd.C_drewN ?_ _) | (with_reducible refine Kd.C_drew ?_))); (case side4 => exact (Kd.R_reads' HO862.out).2.1); rintro e w' ⟨rfl, ⟨nd, rfl⟩⟩; refine ⟨_, rfl, ?_⟩))
        go_meet
        case rel => exact ⟨_, ((t867 != t860)), (by first | rfl | (simp; done) | (simp [*]; done)), H', ⟨by first | omega | exact Nat.le_refl _⟩, ⟨by (with_reducible repeat (first | apply Kd.R_alloc | apply Kd.R_drewN | apply Kd.R_drew)); exact Kd.R_mono HO862.out (fun _ hk => hk.2)⟩, ⟨by (with_reducible repeat (first | apply Kd.R_alloc | apply Kd.R_drewN | apply Kd.R_drew)); exact Kd.R_mono HO865.out (fun _ hk => trivial)⟩, ⟨by (with_reducible repeat (first | apply Kd.R_alloc | apply Kd.R_drewN | apply Kd.R_drew)); exact Kd.R_mono HO869.out (fun _ hk => hk.2)⟩, ⟨by repeat (first | (with_reducible first | exact HB.out | apply below_alloc | apply pw_below_drewN | apply below_drew1) | exact HB.out)⟩⟩
      · replace c17 := Bool.eq_false_iff.mpr c17
        subst c17
        have H1 : (laws_FnExactLoopOf.j0 k l0 a1 t859 t860 t863 t866 t867 true) = some r := by rw [if_neg (show ¬ (false = true) by decide)] at H; exact H
        clear H
        have H := H1
        clear H1
        have H' := Aside0.mk H
        clear H
        obtain ⟨Ao20, co20, eo20⟩ := Kd.R_slice HO869.out
        subst eo20
        obtain ⟨Ao21, co21, eo21⟩ := Kd.R_slice HO862.out
        subst eo21
        go_wp2_with (first | ((with_reducible refine gate_callee (f := 28) rfl ?_); refine goesL_ (some 38) rfl rfl Tryd.func28 (by kernel_rfl) rfl #[.slice Ao20 t866.length co20, .slice Ao21 t859.length co21] rfl (by (try simp only [List.map_toArray, List.map_cons, List.map_nil]); first | done | rfl | (simp only [List.length_drop, List.length_take]; rfl)) ?_; (with_reducible refine (laws_eqIntS.calls k _ _ t866 _ _ t859 false _ ?side1 ?side2 ?side3 ?side4 A16.out).mono ?_); (case side1 => repeat (first | exact (Kd.R_reads' HO869.out).2.2 | (with_reducible refine Kd.C_alloc ?_ _) | (with_reducible refine Kd.C_drewN ?_ _) | (with_reducible refine Kd.C_drew ?_))); (case side2 => exact (Kd.R_reads' HO869.out).2.1); (case side3 => repeat (first | exact (Kd.R_reads' HO862.out).2.2 | (with_reducible refine Kd.C_alloc ?_ _) | (with_reducible refine Kd.C_drewN ?_ _) | (with_reducible refine Kd.C_drew ?_))); (case side4 => exact (Kd.R_reads' HO862.out).2.1); rintro e w' ⟨rfl, ⟨nd, rfl⟩⟩; refine ⟨_, rfl, ?_⟩))
        go_meet
        case rel => exact ⟨_, (true), (by first | rfl | (simp; done) | (simp [*]; done)), H', ⟨by first | omega | exact Nat.le_refl _⟩, ⟨by (with_reducible repeat (first | apply Kd.R_alloc | apply Kd.R_drewN | apply Kd.R_drew)); exact Kd.R_mono HO862.out (fun _ hk => hk.2)⟩, ⟨by (with_reducible repeat (first | apply Kd.R_alloc | apply Kd.R_drewN | apply Kd.R_drew)); exact Kd.R_mono HO865.out (fun _ hk => trivial)⟩, ⟨by (with_reducible repeat (first | apply Kd.R_alloc | apply Kd.R_drewN | apply Kd.R_drew)); exact Kd.R_mono HO869.out (fun _ hk => hk.2)⟩, ⟨by repeat (first | (with_reducible first | exact HB.out | apply below_alloc | apply pw_below_drewN | apply below_drew1) | exact HB.out)⟩⟩
    case rest =>
      clear HC9
      try clear c1
      try clear c2
      try clear p2
      try clear c4
      try clear c4b0
      try clear c13
      try clear c15
      try clear c17
      obtain ⟨kq, x44_8, rfl, HA, HJ8, HO_6, HO_8, HO_9, HB⟩ := hcut
      cases kq with
      | zero => exact absurd HA.out (by simp [laws_FnExactLoopOf.j0])
      | succ kj8 =>
        have H := HA.out
        clear HA
        simp only [laws_FnExactLoopOf.j0] at H
        by_cases c22 : x44_8 = true
        · subst c22
          have H1 : (some false) = some r := by rw [if_pos rfl] at H; exact H
          clear H
          have H := H1
          clear H1
          obtain rfl := Option.some.inj H
          go_wp2
          go_ret
          exact ⟨by first | rfl | (simp [errW_none, errW_some] <;> rfl) | (simp [*, errW_none, errW_some] <;> rfl), by repeat (first | (with_reducible first | exact HB.out | apply below_alloc | apply pw_below_drewN | apply below_drew1) | exact HB.out)⟩
        · replace c22 := Bool.eq_false_iff.mpr c22
          subst c22
          have H1 : ((laws_toLegS.f kj8 l0).bind fun t871 => ((laws_eqLegS.f kj8 t863 t871).bind fun t874 => (if t874 = true then ((laws_markLegS.f kj8 t863 1).bind fun bt875 => (if bt875.1 < 0 then (laws_FnExactLoopOf.j1 kj8 l0 a1 t859 t860 t866 true) else ((laws_eqIntS.f kj8 t866 t859).bind fun t877 => (if t877 = true then (laws_FnExactLoopOf.j1 kj8 l0 a1 t859 t860 t866 (t867 != t860)) else (laws_FnExactLoopOf.j1 kj8 l0 a1 t859 t860 t866 true))))) else (some false)))) = some r := by rw [if_neg (show ¬ (false = true) by decide)] at H; exact H
          clear H
          have H := H1
          clear H1
          replace H := Option.bind_eq_some_iff.mp H
          obtain ⟨t871, A230, H⟩ := H
          replace H : ((laws_eqLegS.f kj8 t863 t871).bind fun t874 => (if t874 = true then ((laws_markLegS.f kj8 t863 1).bind fun bt875 => (if bt875.1 < 0 then (laws_FnExactLoopOf.j1 kj8 l0 a1 t859 t860 t866 true) else ((laws_eqIntS.f kj8 t866 t859).bind fun t877 => (if t877 = true then (laws_FnExactLoopOf.j1 kj8 l0 a1 t859 t860 t866 (t867 != t860)) else (laws_FnExactLoopOf.j1 kj8 l0 a1 t859 t860 t866 true))))) else (some false))) = some r := H
          have A23 := Aside0.mk A230
          clear A230
          replace H := Option.bind_eq_some_iff.mp H
          obtain ⟨t874, A240, H⟩ := H
          replace H : (if t874 = true then ((laws_markLegS.f kj8 t863 1).bind fun bt875 => (if bt875.1 < 0 then (laws_FnExactLoopOf.j1 kj8 l0 a1 t859 t860 t866 true) else ((laws_eqIntS.f kj8 t866 t859).bind fun t877 => (if t877 = true then (laws_FnExactLoopOf.j1 kj8 l0 a1 t859 t860 t866 (t867 != t860)) else (laws_FnExactLoopOf.j1 kj8 l0 a1 t859 t860 t866 true))))) else (some false)) = some r := H
          have A24 := Aside0.mk A240
          clear A240
          by_cases c25 : t874 = true
          · subst c25
            have H1 : ((laws_markLegS.f kj8 t863 1).bind fun bt875 => (if bt875.1 < 0 then (laws_FnExactLoopOf.j1 kj8 l0 a1 t859 t860 t866 true) else ((laws_eqIntS.f kj8 t866 t859).bind fun t877 => (if t877 = true then (laws_FnExactLoopOf.j1 kj8 l0 a1 t859 t860 t866 (t867 != t860)) else (laws_FnExactLoopOf.j1 kj8 l0 a1 t859 t860 t866 true))))) = some r := by rw [if_pos rfl] at H; exact H
            clear H
            have H := H1
            clear H1
            replace H := Option.bind_eq_some_iff.mp H
            obtain ⟨⟨t875, t876⟩, A260, H⟩ := H
            replace H : (if t875 < 0 then (laws_FnExactLoopOf.j1 kj8 l0 a1 t859 t860 t866 true) else ((laws_eqIntS.f kj8 t866 t859).bind fun t877 => (if t877 = true then (laws_FnExactLoopOf.j1 kj8 l0 a1 t859 t860 t866 (t867 != t860)) else (laws_FnExactLoopOf.j1 kj8 l0 a1 t859 t860 t866 true)))) = some r := H
            have A26 := Aside0.mk A260
            clear A260
            have HC27 := Aside0.mk H
            clear H
            go_upto_region 14 with (first | ((with_reducible refine gate_callee (f := 17) rfl ?_); refine goesL_ (some 47) rfl rfl Tryd.func17 (by kernel_rfl) rfl #[.slice A0 l0.length c0] rfl (by (try simp only [List.map_toArray, List.map_cons, List.map_nil]); first | done | rfl | (simp only [List.length_drop, List.length_take]; rfl)) ?_; (with_reducible refine (laws_toLegS.calls kj8 _ _ l0 t871 _ ?side1 ?side2 A23.out).mono ?_); (case side1 => repeat (first | exact (Kd.C_below HR0.out HB.out) | (with_reducible refine Kd.C_alloc ?_ _) | (with_reducible refine Kd.C_drewN ?_ _) | (with_reducible refine Kd.C_drew ?_))); (case side2 => exact HC0.out); rintro e w28 ⟨v872, rfl, ho0, hb⟩; refine ⟨_, rfl, ?_⟩; have n0_ := Aside0.mk (Kd.R_below (by (with_reducible repeat (first | apply Kd.R_alloc | apply Kd.R_drewN | apply Kd.R_drew)); exact HO_6.out) hb); have n1_ := Aside0.mk (Kd.R_elder' (by (with_reducible repeat (first | apply Kd.R_alloc | apply Kd.R_drewN | apply Kd.R_drew)); exact HO_8.out) (Kd.R_base ho0) hb); have n2_ := Aside0.mk (Kd.R_below (by (with_reducible repeat (first | apply Kd.R_alloc | apply Kd.R_drewN | apply Kd.R_drew)); exact HO_9.out) hb); have n3_ := Aside0.mk (Kd.R_lower (Kd.R_new' ho0 (Kd.R_lt (by (with_reducible repeat (first | apply Kd.R_alloc | apply Kd.R_drewN | apply Kd.R_drew)); exact HO_8.out))) (below_size (by repeat (first | (with_reducible first | exact HB.out | apply below_alloc | apply pw_below_drewN | apply below_drew1) | exact HB.out)))); have n4_ := Aside0.mk (below_step (by repeat (first | (with_reducible first | exact HB.out | apply below_alloc | apply pw_below_drewN | apply below_drew1) | exact HB.out)) hb); clear HO_6; clear HO_8; clear HO_9; clear HB; have HO_6 := n0_; have HO_8 := n1_; have HO_9 := n2_; have HO873 := n3_; have HB := n4_; clear n0_ n1_ n2_ n3_ n4_; (try clear hb); (try clear hb2); (try clear hk); (try clear hi); (try clear ho0); obtain ⟨Ao29, co29, eo29⟩ := Kd.R_slice HO873.out; subst eo29) | ((with_reducible refine gate_callee (f := 19) rfl ?_); refine goesL_ (some 48) rfl rfl Tryd.func19 (by kernel_rfl) rfl #[.slice Ao14 t863.length co14, .slice Ao29 t871.length co29] rfl (by (try simp only [List.map_toArray, List.map_cons, List.map_nil]); first | done | rfl | (simp only [List.length_drop, List.length_take]; rfl)) ?_; (with_reducible refine (laws_eqLegS.calls kj8 _ _ t863 _ _ t871 true _ ?side1 ?side2 ?side3 ?side4 A24.out).mono ?_); (case side1 => repeat (first | exact (Kd.R_reads' HO_8.out).2.2 | (with_reducible refine Kd.C_alloc ?_ _) | (with_reducible refine Kd.C_drewN ?_ _) | (with_reducible refine Kd.C_drew ?_))); (case side2 => exact (Kd.R_reads' HO_8.out).2.1); (case side3 => repeat (first | exact (Kd.R_reads' HO873.out).2.2 | (with_reducible refine Kd.C_alloc ?_ _) | (with_reducible refine Kd.C_drewN ?_ _) | (with_reducible refine Kd.C_drew ?_))); (case side4 => exact (Kd.R_reads' HO873.out).2.1); rintro e w30 ⟨rfl, hb⟩; refine ⟨_, rfl, ?_⟩; have n0_ := Aside0.mk (Kd.R_below (by (with_reducible repeat (first | apply Kd.R_alloc | apply Kd.R_drewN | apply Kd.R_drew)); exact HO_6.out) hb); have n1_ := Aside0.mk (Kd.R_below (by (with_reducible repeat (first | apply Kd.R_alloc | apply Kd.R_drewN | apply Kd.R_drew)); exact HO_8.out) hb); have n2_ := Aside0.mk (Kd.R_below (by (with_reducible repeat (first | apply Kd.R_alloc | apply Kd.R_drewN | apply Kd.R_drew)); exact HO_9.out) hb); have n3_ := Aside0.mk (Kd.R_below (by (with_reducible repeat (first | apply Kd.R_alloc | apply Kd.R_drewN | apply Kd.R_drew)); exact HO873.out) hb); have n4_ := Aside0.mk (below_step (by repeat (first | (with_reducible first | exact HB.out | apply below_alloc | apply pw_below_drewN | apply below_drew1) | exact HB.out)) hb); clear HO_6; clear HO_8; clear HO_9; clear HO873; clear HB; have HO_6 := n0_; have HO_8 := n1_; have HO_9 := n2_; have HO873 := n3_; have HB := n4_; clear n0_ n1_ n2_ n3_ n4_; (try clear hb); (try clear hb2); (try clear hk); (try clear hi)) | ((with_reducible refine gate_callee (f := 33) rfl ?_); refine goesL_ (some 52) rfl rfl Tryd.func33 (by kernel_rfl) rfl #[.slice Ao14 t863.length co14, .int .i64 1] rfl (by (try simp only [List.map_toArray, List.map_cons, List.map_nil]); first | done | rfl | (simp only [List.length_drop, List.length_take]; rfl)) ?_; (with_reducible refine (laws_markLegS.calls kj8 (fun k_ => some k_ = (.slice Ao14 t863.length co14 : Value).ownBlock) (.slice Ao14 t863.length co14) t863 1 t875 t876 w _ ?side1 ?side2 A26.out).mono ?_); (case side1 => repeat (first | (with_reducible first | exact HB.out | apply below_alloc | apply pw_below_drewN | apply below_drew1) | exact HB.out)); (case side2 => exact Kd.R_tight rfl HO_8.out); rintro e w31 ⟨rfl, hy0, hb, hkp⟩; refine ⟨_, rfl, ?_⟩; have n0_ := Aside0.mk (Kd.R_mono (ok' := fun k_ => some k_ ≠ (v868 : Value).ownBlock) (Kd.R_keptB ((Kd.R_apart' HO_6.out (Kd.R_typed HO_8.out) (by decide))) hkp (fun k_ hk_ hs_ => (hk_.2) hs_)) (fun k_ hk_ => hk_.1.1)); have n1_ := Aside0.mk (Kd.R_reok rfl hy0 (fun k_ e_ => HO_8.out.1 k_ e_)); have n2_ := Aside0.mk (Kd.R_mono (ok' := fun k_ => some k_ ≠ (v861 : Value).ownBlock) (Kd.R_keptB ((Kd.R_apart' HO_9.out (Kd.R_typed HO_8.out) (by decide))) hkp (fun k_ hk_ hs_ => (hk_.2) hs_)) (fun k_ hk_ => hk_.1.1)); have n3_ := Aside0.mk (Kd.R_mono (ok' := fun k_ => some k_ ≠ (.slice Ao14 t863.length co14 : Value).ownBlock) (Kd.R_keptB (HO873.out) hkp (fun k_ hk_ hs_ => (hk_.2) hs_)) (fun k_ hk_ => hk_.1.2)); have n4_ := Aside0.mk (hb); clear HO_6; clear HO_8; clear HO_9; clear HO873; clear HB; have HO_6 := n0_; have HO_8 := n1_; have HO_9 := n2_; have HO873 := n3_; have HB := n4_; clear n0_ n1_ n2_ n3_ n4_; (try clear hb); (try clear hkp); (try clear hy0)))
            (try simp only [Act.put, List.setIfInBounds_toArray, List.set_cons_zero, List.set_cons_succ])
            go_cut [65] (fun v65 wc => ∃ (kq : Nat) (x65_26 : Bool), v65 = .bool x65_26 ∧ Aside0 (laws_FnExactLoopOf.j1 kq l0 a1 t859 t860 t866 x65_26 = some r) ∧ Aside0 (kq ≤ kj8) ∧ Aside0 (Kd.R (Kd.int .i64) 3 wc w.heap.size (fun k_ => some k_ ≠ (v868 : Value).ownBlock) v861 t859) ∧ Aside0 (Kd.R (Kd.int .i64) 3 wc w.heap.size (fun k_ => some k_ ≠ (v861 : Value).ownBlock) v868 t866) ∧ Aside0 (Below w.heap.size w wc))
            case first =>
              have H := HC27.out
              clear HC27
              by_cases c32 : t875 < 0
              · rw [if_pos c32] at H
                have c32b0 : decide (t875 < 0) = true := decide_eq_true c32
                clear c32
                (first | rw [c32b0] | (simp only [i64_w, i32_w]; rw [c32b0]) | skip)
                have H' := Aside0.mk H
                clear H
                go_wp2
                go_meet
                case rel => exact ⟨_, (true), (by first | rfl | (simp; done) | (simp [*]; done)), H', ⟨by have := HJ8.out; first | omega | exact Nat.le_refl _⟩, ⟨by (with_reducible repeat (first | apply Kd.R_alloc | apply Kd.R_drewN | apply Kd.R_drew)); exact HO_6.out⟩, ⟨by (with_reducible repeat (first | apply Kd.R_alloc | apply Kd.R_drewN | apply Kd.R_drew)); exact HO_9.out⟩, ⟨by repeat (first | (with_reducible first | exact HB.out | apply below_alloc | apply pw_below_drewN | apply below_drew1) | exact HB.out)⟩⟩
              · rw [if_neg c32] at H
                have c32b0 : decide (t875 < 0) = false := decide_eq_false c32
                clear c32
                (first | rw [c32b0] | (simp only [i64_w, i32_w]; rw [c32b0]) | skip)
                replace H := Option.bind_eq_some_iff.mp H
                obtain ⟨t877, A330, H⟩ := H
                replace H : (if t877 = true then (laws_FnExactLoopOf.j1 kj8 l0 a1 t859 t860 t866 (t867 != t860)) else (laws_FnExactLoopOf.j1 kj8 l0 a1 t859 t860 t866 true)) = some r := H
                have A33 := Aside0.mk A330
                clear A330
                by_cases c34 : t877 = true
                · subst c34
                  have H1 : (laws_FnExactLoopOf.j1 kj8 l0 a1 t859 t860 t866 (t867 != t860)) = some r := by rw [if_pos rfl] at H; exact H
                  clear H
                  have H := H1
                  clear H1
                  have H' := Aside0.mk H
                  clear H
                  obtain ⟨Ao35, co35, eo35⟩ := Kd.R_slice HO_9.out
                  subst eo35
                  obtain ⟨Ao36, co36, eo36⟩ := Kd.R_slice HO_6.out
                  subst eo36
                  go_wp2_with (first | (go_at_call 28; (with_reducible refine (laws_eqIntS.calls kj8 _ _ t866 _ _ t859 true _ ?side1 ?side2 ?side3 ?side4 A33.out).mono ?_); (case side1 => repeat (first | exact (Kd.R_reads' HO_9.out).2.2 | (with_reducible refine Kd.C_alloc ?_ _) | (with_reducible refine Kd.C_drewN ?_ _) | (with_reducible refine Kd.C_drew ?_))); (case side2 => exact (Kd.R_reads' HO_9.out).2.1); (case side3 => repeat (first | exact (Kd.R_reads' HO_6.out).2.2 | (with_reducible refine Kd.C_alloc ?_ _) | (with_reducible refine Kd.C_drewN ?_ _) | (with_reducible refine Kd.C_drew ?_))); (case side4 => exact (Kd.R_reads' HO_6.out).2.1); rintro e w' ⟨rfl, ⟨nd, rfl⟩⟩))
                  go_meet
                  case rel => exact ⟨_, ((t867 != t860)), (by first | rfl | (simp; done) | (simp [*]; done)), H', ⟨by have := HJ8.out; first | omega | exact Nat.le_refl _⟩, ⟨by (with_reducible repeat (first | apply Kd.R_alloc | apply Kd.R_drewN | apply Kd.R_drew)); exact HO_6.out⟩, ⟨by (with_reducible repeat (first | apply Kd.R_alloc | apply Kd.R_drewN | apply Kd.R_drew)); exact HO_9.out⟩, ⟨by repeat (first | (with_reducible first | exact HB.out | apply below_alloc | apply pw_below_drewN | apply below_drew1) | exact HB.out)⟩⟩
                · replace c34 := Bool.eq_false_iff.mpr c34
                  subst c34
                  have H1 : (laws_FnExactLoopOf.j1 kj8 l0 a1 t859 t860 t866 true) = some r := by rw [if_neg (show ¬ (false = true) by decide)] at H; exact H
                  clear H
                  have H := H1
                  clear H1
                  have H' := Aside0.mk H
                  clear H
                  obtain ⟨Ao37, co37, eo37⟩ := Kd.R_slice HO_9.out
                  subst eo37
                  obtain ⟨Ao38, co38, eo38⟩ := Kd.R_slice HO_6.out
                  subst eo38
                  go_wp2_with (first | (go_at_call 28; (with_reducible refine (laws_eqIntS.calls kj8 _ _ t866 _ _ t859 false _ ?side1 ?side2 ?side3 ?side4 A33.out).mono ?_); (case side1 => repeat (first | exact (Kd.R_reads' HO_9.out).2.2 | (with_reducible refine Kd.C_alloc ?_ _) | (with_reducible refine Kd.C_drewN ?_ _) | (with_reducible refine Kd.C_drew ?_))); (case side2 => exact (Kd.R_reads' HO_9.out).2.1); (case side3 => repeat (first | exact (Kd.R_reads' HO_6.out).2.2 | (with_reducible refine Kd.C_alloc ?_ _) | (with_reducible refine Kd.C_drewN ?_ _) | (with_reducible refine Kd.C_drew ?_))); (case side4 => exact (Kd.R_reads' HO_6.out).2.1); rintro e w' ⟨rfl, ⟨nd, rfl⟩⟩))
                  go_meet
                  case rel => exact ⟨_, (true), (by first | rfl | (simp; done) | (simp [*]; done)), H', ⟨by have := HJ8.out; first | omega | exact Nat.le_refl _⟩, ⟨by (with_reducible repeat (first | apply Kd.R_alloc | apply Kd.R_drewN | apply Kd.R_drew)); exact HO_6.out⟩, ⟨by (with_reducible repeat (first | apply Kd.R_alloc | apply Kd.R_drewN | apply Kd.R_drew)); exact HO_9.out⟩, ⟨by repeat (first | (with_reducible first | exact HB.out | apply below_alloc | apply pw_below_drewN | apply below_drew1) | exact HB.out)⟩⟩
            case rest =>
              clear HC27
              try clear c1
              try clear c2
              try clear p2
              try clear c3
              try clear c4
              try clear c4b0
              try clear c13
              try clear c15
              try clear c17
              try clear c19
              try clear c22
              try clear c25
              try clear c28
              try clear c32
              try clear c32b0
              try clear c33
              try clear c34
              try clear p2
              obtain ⟨kq, x65_26, rfl, HA, HJ26, HO_6, HO_9, HB⟩ := hcut
              cases kq with
              | zero => exact absurd HA.out (by simp [laws_FnExactLoopOf.j1])
              | succ kj26 =>
                have H := HA.out
                clear HA
                simp only [laws_FnExactLoopOf.j1] at H
                by_cases c39 : x65_26 = true
                · subst c39
                  have H1 : (some false) = some r := by rw [if_pos rfl] at H; exact H
                  clear H
                  have H := H1
                  clear H1
                  obtain rfl := Option.some.inj H
                  go_wp2
                  go_ret
                  exact ⟨by first | rfl | (simp [errW_none, errW_some] <;> rfl) | (simp [*, errW_none, errW_some] <;> rfl), by repeat (first | (with_reducible first | exact HB.out | apply below_alloc | apply pw_below_drewN | apply below_drew1) | exact HB.out)⟩
                · replace c39 := Bool.eq_false_iff.mpr c39
                  subst c39
                  have H1 : ((laws_markIntS.f kj26 t866 1).bind fun bt878 => ((laws_heldIntS.f kj26 bt878.2 1).bind fun t880 => (if t880 < 0 then (some false) else (if t880 = bt878.1 then ((laws_toLegS.f kj26 l0).bind fun t881 => ((impl_LoopOf.f t881 a1).bind fun bt884 => ((laws_eqIntS.f kj26 bt884.1 t859).bind fun t888 => (if t888 = true then (laws_FnExactLoopOf.j2 kj26 bt878.2 bt878.1 (bt884.2 != t860)) else (laws_FnExactLoopOf.j2 kj26 bt878.2 bt878.1 true))))) else (some false))))) = some r := by rw [if_neg (show ¬ (false = true) by decide)] at H; exact H
                  clear H
                  have H := H1
                  clear H1
                  replace H := Option.bind_eq_some_iff.mp H
                  obtain ⟨⟨t878, t879⟩, A400, H⟩ := H
                  replace H : ((laws_heldIntS.f kj26 t879 1).bind fun t880 => (if t880 < 0 then (some false) else (if t880 = t878 then ((laws_toLegS.f kj26 l0).bind fun t881 => ((impl_LoopOf.f t881 a1).bind fun bt884 => ((laws_eqIntS.f kj26 bt884.1 t859).bind fun t888 => (if t888 = true then (laws_FnExactLoopOf.j2 kj26 t879 t878 (bt884.2 != t860)) else (laws_FnExactLoopOf.j2 kj26 t879 t878 true))))) else (some false)))) = some r := H
                  have A40 := Aside0.mk A400
                  clear A400
                  replace H := Option.bind_eq_some_iff.mp H
                  obtain ⟨t880, A410, H⟩ := H
                  replace H : (if t880 < 0 then (some false) else (if t880 = t878 then ((laws_toLegS.f kj26 l0).bind fun t881 => ((impl_LoopOf.f t881 a1).bind fun bt884 => ((laws_eqIntS.f kj26 bt884.1 t859).bind fun t888 => (if t888 = true then (laws_FnExactLoopOf.j2 kj26 t879 t878 (bt884.2 != t860)) else (laws_FnExactLoopOf.j2 kj26 t879 t878 true))))) else (some false))) = some r := H
                  have A41 := Aside0.mk A410
                  clear A410
                  by_cases c42 : t880 < 0
                  · rw [if_pos c42] at H
                    have c42b0 : decide (t880 < 0) = true := decide_eq_true c42
                    clear c42
                    obtain rfl := Option.some.inj H
                    obtain ⟨Ao43, co43, eo43⟩ := Kd.R_slice HO_9.out
                    subst eo43
                    go_wp2_with (first | ((with_reducible refine gate_callee (f := 37) rfl ?_); refine goesL_ (some 68) rfl rfl Tryd.func37 (by kernel_rfl) rfl #[.slice Ao43 t866.length co43, .int .i64 1] rfl (by (try simp only [List.map_toArray, List.map_cons, List.map_nil]); first | done | rfl | (simp only [List.length_drop, List.length_take]; rfl)) ?_; (with_reducible refine (laws_markIntS.calls kj26 (fun k_ => some k_ = (.slice Ao43 t866.length co43 : Value).ownBlock) (.slice Ao43 t866.length co43) t866 1 t878 t879 w _ ?side1 ?side2 A40.out).mono ?_); (case side1 => repeat (first | (with_reducible first | exact HB.out | apply below_alloc | apply pw_below_drewN | apply below_drew1) | exact HB.out)); (case side2 => exact Kd.R_tight rfl HO_9.out); rintro e w44 ⟨rfl, hy0, hb, hkp⟩; refine ⟨_, rfl, ?_⟩; have n0_ := Aside0.mk (Kd.R_mono (ok' := fun k_ => some k_ ≠ (.slice Ao43 t866.length co43 : Value).ownBlock) (Kd.R_keptB (HO_6.out) hkp (fun k_ hk_ hs_ => (hk_) hs_)) (fun k_ hk_ => hk_.1)); have n1_ := Aside0.mk (Kd.R_reok rfl hy0 (fun k_ e_ => HO_9.out.1 k_ e_)); have n2_ := Aside0.mk (hb); clear HO_6; clear HO_9; clear HB; have HO_6 := n0_; have HO_9 := n1_; have HB := n2_; clear n0_ n1_ n2_; (try clear hb); (try clear hkp); (try clear hy0)) | ((with_reducible refine gate_callee (f := 38) rfl ?_); refine goesL_ (some 71) rfl rfl Tryd.func38 (by kernel_rfl) rfl #[.slice Ao43 t879.length co43, .int .i64 1] rfl (by (try simp only [List.map_toArray, List.map_cons, List.map_nil]); first | done | (rw [show t879.length = t866.length from (Kd.R_reads' HO_9.out).1.symm] <;> rfl) | rfl | (simp only [List.length_drop, List.length_take]; rfl)) ?_; (with_reducible refine (laws_heldIntS.calls kj26 _ _ t879 1 t880 _ ?side1 ?side2 A41.out).mono ?_); (case side1 => repeat (first | exact (Kd.R_reads' HO_9.out).2.2 | (with_reducible refine Kd.C_alloc ?_ _) | (with_reducible refine Kd.C_drewN ?_ _) | (with_reducible refine Kd.C_drew ?_))); (case side2 => rw [show t879.length = t866.length from (Kd.R_reads' HO_9.out).1.symm]; exact (Kd.R_reads' HO_9.out).2.1); rintro e w' ⟨rfl, ⟨nd, rfl⟩⟩; refine ⟨_, rfl, ?_⟩))
                    go_ret
                    exact ⟨by first | rfl | (simp [errW_none, errW_some] <;> rfl) | (simp [*, errW_none, errW_some] <;> rfl), by repeat (first | (with_reducible first | exact HB.out | apply below_alloc | apply pw_below_drewN | apply below_drew1) | exact HB.out)⟩
                  · rw [if_neg c42] at H
                    have c42b0 : decide (t880 < 0) = false := decide_eq_false c42
                    clear c42
                    by_cases c45 : t880 = t878
                    · rw [if_pos c45] at H
                      have c45b0 : (t880 == t878) = true := beq_iff_eq.mpr c45
                      have c45b1 : (t880 != t878) = false := bne_eq_false_iff_eq.mpr c45
                      clear c45
                      replace H := Option.bind_eq_some_iff.mp H
                      obtain ⟨t881, A460, H⟩ := H
                      replace H : ((impl_LoopOf.f t881 a1).bind fun bt884 => ((laws_eqIntS.f kj26 bt884.1 t859).bind fun t888 => (if t888 = true then (laws_FnExactLoopOf.j2 kj26 t879 t878 (bt884.2 != t860)) else (laws_FnExactLoopOf.j2 kj26 t879 t878 true)))) = some r := H
                      have A46 := Aside0.mk A460
                      clear A460
                      replace H := Option.bind_eq_some_iff.mp H
                      obtain ⟨⟨t884, t885⟩, A470, H⟩ := H
                      replace H : ((laws_eqIntS.f kj26 t884 t859).bind fun t888 => (if t888 = true then (laws_FnExactLoopOf.j2 kj26 t879 t878 (t885 != t860)) else (laws_FnExactLoopOf.j2 kj26 t879 t878 true))) = some r := H
                      have A47 := Aside0.mk A470
                      clear A470
                      have HC48 := Aside0.mk H
                      clear H
                      obtain ⟨Ao49, co49, eo49⟩ := Kd.R_slice HO_9.out
                      subst eo49
                      go_upto_region 25 with (first | ((with_reducible refine gate_callee (f := 37) rfl ?_); refine goesL_ (some 68) rfl rfl Tryd.func37 (by kernel_rfl) rfl #[.slice Ao49 t866.length co49, .int .i64 1] rfl (by (try simp only [List.map_toArray, List.map_cons, List.map_nil]); first | done | rfl | (simp only [List.length_drop, List.length_take]; rfl)) ?_; (with_reducible refine (laws_markIntS.calls kj26 (fun k_ => some k_ = (.slice Ao49 t866.length co49 : Value).ownBlock) (.slice Ao49 t866.length co49) t866 1 t878 t879 w _ ?side1 ?side2 A40.out).mono ?_); (case side1 => repeat (first | (with_reducible first | exact HB.out | apply below_alloc | apply pw_below_drewN | apply below_drew1) | exact HB.out)); (case side2 => exact Kd.R_tight rfl HO_9.out); rintro e w50 ⟨rfl, hy0, hb, hkp⟩; refine ⟨_, rfl, ?_⟩; have n0_ := Aside0.mk (Kd.R_mono (ok' := fun k_ => some k_ ≠ (.slice Ao49 t866.length co49 : Value).ownBlock) (Kd.R_keptB (HO_6.out) hkp (fun k_ hk_ hs_ => (hk_) hs_)) (fun k_ hk_ => hk_.1)); have n1_ := Aside0.mk (Kd.R_reok rfl hy0 (fun k_ e_ => HO_9.out.1 k_ e_)); have n2_ := Aside0.mk (hb); clear HO_6; clear HO_9; clear HB; have HO_6 := n0_; have HO_9 := n1_; have HB := n2_; clear n0_ n1_ n2_; (try clear hb); (try clear hkp); (try clear hy0)) | ((with_reducible refine gate_callee (f := 38) rfl ?_); refine goesL_ (some 71) rfl rfl Tryd.func38 (by kernel_rfl) rfl #[.slice Ao49 t879.length co49, .int .i64 1] rfl (by (try simp only [List.map_toArray, List.map_cons, List.map_nil]); first | done | (rw [show t879.length = t866.length from (Kd.R_reads' HO_9.out).1.symm] <;> rfl) | rfl | (simp only [List.length_drop, List.length_take]; rfl)) ?_; (with_reducible refine (laws_heldIntS.calls kj26 _ _ t879 1 t880 _ ?side1 ?side2 A41.out).mono ?_); (case side1 => repeat (first | exact (Kd.R_reads' HO_9.out).2.2 | (with_reducible refine Kd.C_alloc ?_ _) | (with_reducible refine Kd.C_drewN ?_ _) | (with_reducible refine Kd.C_drew ?_))); (case side2 => rw [show t879.length = t866.length from (Kd.R_reads' HO_9.out).1.symm]; exact (Kd.R_reads' HO_9.out).2.1); rintro e w' ⟨rfl, ⟨nd, rfl⟩⟩; refine ⟨_, rfl, ?_⟩) | ((with_reducible refine gate_callee (f := 17) rfl ?_); refine goesL_ (some 79) rfl rfl Tryd.func17 (by kernel_rfl) rfl #[.slice A0 l0.length c0] rfl (by (try simp only [List.map_toArray, List.map_cons, List.map_nil]); first | done | rfl | (simp only [List.length_drop, List.length_take]; rfl)) ?_; (with_reducible refine (laws_toLegS.calls kj26 _ _ l0 t881 _ ?side1 ?side2 A46.out).mono ?_); (case side1 => repeat (first | exact (Kd.C_below HR0.out (by repeat (first | (with_reducible first | exact HB.out | apply below_alloc | apply pw_below_drewN | apply below_drew1) | exact HB.out))) | (with_reducible refine Kd.C_alloc ?_ _) | (with_reducible refine Kd.C_drewN ?_ _) | (with_reducible refine Kd.C_drew ?_))); (case side2 => exact HC0.out); rintro e w51 ⟨v882, rfl, ho0, hb⟩; refine ⟨_, rfl, ?_⟩; have n0_ := Aside0.mk (Kd.R_below (by (with_reducible repeat (first | apply Kd.R_alloc | apply Kd.R_drewN | apply Kd.R_drew)); exact HO_6.out) hb); have n1_ := Aside0.mk (Kd.R_below (by (with_reducible repeat (first | apply Kd.R_alloc | apply Kd.R_drewN | apply Kd.R_drew)); exact HO_9.out) hb); have n2_ := Aside0.mk (Kd.R_lower ho0 (below_size (by repeat (first | (with_reducible first | exact HB.out | apply below_alloc | apply pw_below_drewN | apply below_drew1) | exact HB.out)))); have n3_ := Aside0.mk (below_step (by repeat (first | (with_reducible first | exact HB.out | apply below_alloc | apply pw_below_drewN | apply below_drew1) | exact HB.out)) hb); clear HO_6; clear HO_9; clear HB; have HO_6 := n0_; have HO_9 := n1_; have HO883 := n2_; have HB := n3_; clear n0_ n1_ n2_ n3_; (try clear hb); (try clear hb2); (try clear hk); (try clear hi); (try clear ho0); obtain ⟨Ao52, co52, eo52⟩ := Kd.R_slice HO883.out; subst eo52) | ((with_reducible refine gate_callee (f := 46) rfl ?_); refine goesL_ (some 81) rfl rfl Tryd.func46 (by kernel_rfl) rfl #[.slice Ao52 t881.length co52, .int .i64 a1] rfl (by (try simp only [List.map_toArray, List.map_cons, List.map_nil]); first | done | rfl | (simp only [List.length_drop, List.length_take]; rfl)) ?_; (with_reducible refine (impl_LoopOf.calls _ _ t881 a1 t884 t885 _ ?side1 ?side2 A47.out ?sideL).mono ?_); (case sideL => exact HL.out.keep (by repeat (first | (with_reducible first | exact HB.out | apply below_alloc | apply pw_below_drewN | apply below_drew1) | exact HB.out))); (case side1 => repeat (first | exact (Kd.R_reads' HO883.out).2.2 | (with_reducible refine Kd.C_alloc ?_ _) | (with_reducible refine Kd.C_drewN ?_ _) | (with_reducible refine Kd.C_drew ?_))); (case side2 => exact (Kd.R_reads' HO883.out).2.1); rintro e w53 ⟨v886, rfl, ho0, hb⟩; refine ⟨_, rfl, ?_⟩; have n0_ := Aside0.mk (Kd.R_elder' (by (with_reducible repeat (first | apply Kd.R_alloc | apply Kd.R_drewN | apply Kd.R_drew)); exact HO_6.out) (Kd.R_base ho0) hb); have n1_ := Aside0.mk (Kd.R_elder' (by (with_reducible repeat (first | apply Kd.R_alloc | apply Kd.R_drewN | apply Kd.R_drew)); exact HO_9.out) (Kd.R_base ho0) hb); have n2_ := Aside0.mk (Kd.R_below (by (with_reducible repeat (first | apply Kd.R_alloc | apply Kd.R_drewN | apply Kd.R_drew)); exact HO883.out) hb); have n3_ := Aside0.mk (Kd.R_lower (Kd.R_new' (Kd.R_new' ho0 (Kd.R_lt (by (with_reducible repeat (first | apply Kd.R_alloc | apply Kd.R_drewN | apply Kd.R_drew)); exact HO_6.out))) (Kd.R_lt (by (with_reducible repeat (first | apply Kd.R_alloc | apply Kd.R_drewN | apply Kd.R_drew)); exact HO_9.out))) (below_size (by repeat (first | (with_reducible first | exact HB.out | apply below_alloc | apply pw_below_drewN | apply below_drew1) | exact HB.out)))); have n4_ := Aside0.mk (below_step (by repeat (first | (with_reducible first | exact HB.out | apply below_alloc | apply pw_below_drewN | apply below_drew1) | exact HB.out)) hb); clear HO_6; clear HO_9; clear HO883; clear HB; have HO_6 := n0_; have HO_9 := n1_; have HO883 := n2_; have HO887 := n3_; have HB := n4_; clear n0_ n1_ n2_ n3_ n4_; (try clear hb); (try clear hb2); (try clear hk); (try clear hi); (try clear ho0)))
                      (try simp only [Act.put, List.setIfInBounds_toArray, List.set_cons_zero, List.set_cons_succ])
                      go_cut [92] (fun v92 wc => ∃ (kq : Nat) (x92_47 : Bool), v92 = .bool x92_47 ∧ Aside0 (laws_FnExactLoopOf.j2 kq t879 t878 x92_47 = some r) ∧ Aside0 (kq ≤ kj26) ∧ Aside0 (Kd.R (Kd.int .i64) 3 wc w.heap.size (fun _ => True) (.slice Ao49 t866.length co49) t879) ∧ Aside0 (Below w.heap.size w wc))
                      case first =>
                        have H := HC48.out
                        clear HC48
                        replace H := Option.bind_eq_some_iff.mp H
                        obtain ⟨t888, A540, H⟩ := H
                        replace H : (if t888 = true then (laws_FnExactLoopOf.j2 kj26 t879 t878 (t885 != t860)) else (laws_FnExactLoopOf.j2 kj26 t879 t878 true)) = some r := H
                        have A54 := Aside0.mk A540
                        clear A540
                        by_cases c55 : t888 = true
                        · subst c55
                          have H1 : (laws_FnExactLoopOf.j2 kj26 t879 t878 (t885 != t860)) = some r := by rw [if_pos rfl] at H; exact H
                          clear H
                          have H := H1
                          clear H1
                          have H' := Aside0.mk H
                          clear H
                          obtain ⟨Ao56, co56, eo56⟩ := Kd.R_slice HO887.out
                          subst eo56
                          obtain ⟨Ao57, co57, eo57⟩ := Kd.R_slice HO_6.out
                          subst eo57
                          go_wp2_with (first | ((with_reducible refine gate_callee (f := 28) rfl ?_); refine goesL_ (some 86) rfl rfl Tryd.func28 (by kernel_rfl) rfl #[.slice Ao56 t884.length co56, .slice Ao57 t859.length co57] rfl (by (try simp only [List.map_toArray, List.map_cons, List.map_nil]); first | done | rfl | (simp only [List.length_drop, List.length_take]; rfl)) ?_; (with_reducible refine (laws_eqIntS.calls kj26 _ _ t884 _ _ t859 true _ ?side1 ?side2 ?side3 ?side4 A54.out).mono ?_); (case side1 => repeat (first | exact (Kd.R_reads' HO887.out).2.2 | (with_reducible refine Kd.C_alloc ?_ _) | (with_reducible refine Kd.C_drewN ?_ _) | (with_reducible refine Kd.C_drew ?_))); (case side2 => exact (Kd.R_reads' HO887.out).2.1); (case side3 => repeat (first | exact (Kd.R_reads' HO_6.out).2.2 | (with_reducible refine Kd.C_alloc ?_ _) | (with_reducible refine Kd.C_drewN ?_ _) | (with_reducible refine Kd.C_drew ?_))); (case side4 => exact (Kd.R_reads' HO_6.out).2.1); rintro e w' ⟨rfl, ⟨nd, rfl⟩⟩; refine ⟨_, rfl, ?_⟩))
                          go_meet
                          case rel => exact ⟨_, ((t885 != t860)), (by first | rfl | (simp; done) | (simp [*]; done)), H', ⟨by have := HJ8.out; have := HJ26.out; first | omega | exact Nat.le_refl _⟩, ⟨by (with_reducible repeat (first | apply Kd.R_alloc | apply Kd.R_drewN | apply Kd.R_drew)); exact Kd.R_mono HO_9.out (fun _ hk => trivial)⟩, ⟨by repeat (first | (with_reducible first | exact HB.out | apply below_alloc | apply pw_below_drewN | apply below_drew1) | exact HB.out)⟩⟩
                        · replace c55 := Bool.eq_false_iff.mpr c55
                          subst c55
                          have H1 : (laws_FnExactLoopOf.j2 kj26 t879 t878 true) = some r := by rw [if_neg (show ¬ (false = true) by decide)] at H; exact H
                          clear H
                          have H := H1
                          clear H1
                          have H' := Aside0.mk H
                          clear H
                          obtain ⟨Ao58, co58, eo58⟩ := Kd.R_slice HO887.out
                          subst eo58
                          obtain ⟨Ao59, co59, eo59⟩ := Kd.R_slice HO_6.out
                          subst eo59
                          go_wp2_with (first | ((with_reducible refine gate_callee (f := 28) rfl ?_); refine goesL_ (some 86) rfl rfl Tryd.func28 (by kernel_rfl) rfl #[.slice Ao58 t884.length co58, .slice Ao59 t859.length co59] rfl (by (try simp only [List.map_toArray, List.map_cons, List.map_nil]); first | done | rfl | (simp only [List.length_drop, List.length_take]; rfl)) ?_; (with_reducible refine (laws_eqIntS.calls kj26 _ _ t884 _ _ t859 false _ ?side1 ?side2 ?side3 ?side4 A54.out).mono ?_); (case side1 => repeat (first | exact (Kd.R_reads' HO887.out).2.2 | (with_reducible refine Kd.C_alloc ?_ _) | (with_reducible refine Kd.C_drewN ?_ _) | (with_reducible refine Kd.C_drew ?_))); (case side2 => exact (Kd.R_reads' HO887.out).2.1); (case side3 => repeat (first | exact (Kd.R_reads' HO_6.out).2.2 | (with_reducible refine Kd.C_alloc ?_ _) | (with_reducible refine Kd.C_drewN ?_ _) | (with_reducible refine Kd.C_drew ?_))); (case side4 => exact (Kd.R_reads' HO_6.out).2.1); rintro e w' ⟨rfl, ⟨nd, rfl⟩⟩; refine ⟨_, rfl, ?_⟩))
                          go_meet
                          case rel => exact ⟨_, (true), (by first | rfl | (simp; done) | (simp [*]; done)), H', ⟨by have := HJ8.out; have := HJ26.out; first | omega | exact Nat.le_refl _⟩, ⟨by (with_reducible repeat (first | apply Kd.R_alloc | apply Kd.R_drewN | apply Kd.R_drew)); exact Kd.R_mono HO_9.out (fun _ hk => trivial)⟩, ⟨by repeat (first | (with_reducible first | exact HB.out | apply below_alloc | apply pw_below_drewN | apply below_drew1) | exact HB.out)⟩⟩
                      case rest =>
                        clear HC48
                        try clear c1
                        try clear c2
                        try clear p2
                        try clear c3
                        try clear c4
                        try clear c4b0
                        try clear c5
                        try clear c13
                        try clear c15
                        try clear c17
                        try clear c19
                        try clear c22
                        try clear c25
                        try clear c28
                        try clear c32
                        try clear c32b0
                        try clear c33
                        try clear c34
                        try clear c37
                        try clear c38
                        try clear c39
                        try clear c42
                        try clear c42b0
                        try clear c45
                        try clear c45b0
                        try clear c45b1
                        try clear c46
                        try clear c55
                        try clear p2
                        obtain ⟨kq, x92_47, rfl, HA, HJ47, HO_9, HB⟩ := hcut
                        have hl9_47 := (Kd.R_reads' HO_9.out).1
                        rw [hl9_47] at HO_9
                        (try simp only [hl9_47])
                        cases kq with
                        | zero => exact absurd HA.out (by simp [laws_FnExactLoopOf.j2])
                        | succ kj47 =>
                          have H := HA.out
                          clear HA
                          simp only [laws_FnExactLoopOf.j2] at H
                          by_cases c60 : x92_47 = true
                          · subst c60
                            have H1 : (some false) = some r := by rw [if_pos rfl] at H; exact H
                            clear H
                            have H := H1
                            clear H1
                            obtain rfl := Option.some.inj H
                            go_wp2
                            go_ret
                            exact ⟨by first | rfl | (simp [errW_none, errW_some] <;> rfl) | (simp [*, errW_none, errW_some] <;> rfl), by repeat (first | (with_reducible first | exact HB.out | apply below_alloc | apply pw_below_drewN | apply below_drew1) | exact HB.out)⟩
                          · replace c60 := Bool.eq_false_iff.mpr c60
                            subst c60
                            have H1 : ((laws_heldIntS.f kj47 t879 1).bind fun t889 => (if t889 < 0 then (some false) else (if t889 = t878 then (some true) else (some false)))) = some r := by rw [if_neg (show ¬ (false = true) by decide)] at H; exact H
                            clear H
                            have H := H1
                            clear H1
                            replace H := Option.bind_eq_some_iff.mp H
                            obtain ⟨t889, A610, H⟩ := H
                            replace H : (if t889 < 0 then (some false) else (if t889 = t878 then (some true) else (some false))) = some r := H
                            have A61 := Aside0.mk A610
                            clear A610
                            by_cases c62 : t889 < 0
                            · rw [if_pos c62] at H
                              have c62b0 : decide (t889 < 0) = true := decide_eq_true c62
                              clear c62
                              obtain rfl := Option.some.inj H
                              go_wp2_with (first | ((with_reducible refine gate_callee (f := 38) rfl ?_); refine goesL_ (some 95) rfl rfl Tryd.func38 (by kernel_rfl) rfl #[.slice Ao49 t879.length co49, .int .i64 1] rfl (by (try simp only [List.map_toArray, List.map_cons, List.map_nil]); first | done | rfl | (simp only [List.length_drop, List.length_take]; rfl)) ?_; (with_reducible refine (laws_heldIntS.calls kj47 _ _ t879 1 t889 _ ?side1 ?side2 A61.out).mono ?_); (case side1 => repeat (first | exact (Kd.R_reads' HO_9.out).2.2 | (with_reducible refine Kd.C_alloc ?_ _) | (with_reducible refine Kd.C_drewN ?_ _) | (with_reducible refine Kd.C_drew ?_))); (case side2 => exact (Kd.R_reads' HO_9.out).2.1); rintro e w' ⟨rfl, ⟨nd, rfl⟩⟩; refine ⟨_, rfl, ?_⟩))
                              go_ret
                              exact ⟨by first | rfl | (simp [errW_none, errW_some] <;> rfl) | (simp [*, errW_none, errW_some] <;> rfl), by repeat (first | (with_reducible first | exact HB.out | apply below_alloc | apply pw_below_drewN | apply below_drew1) | exact HB.out)⟩
                            · rw [if_neg c62] at H
                              have c62b0 : decide (t889 < 0) = false := decide_eq_false c62
                              clear c62
                              by_cases c63 : t889 = t878
                              · rw [if_pos c63] at H
                                have c63b0 : (t889 == t878) = true := beq_iff_eq.mpr c63
                                have c63b1 : (t889 != t878) = false := bne_eq_false_iff_eq.mpr c63
                                clear c63
                                obtain rfl := Option.some.inj H
                                go_wp2_with (first | ((with_reducible refine gate_callee (f := 38) rfl ?_); refine goesL_ (some 95) rfl rfl Tryd.func38 (by kernel_rfl) rfl #[.slice Ao49 t879.length co49, .int .i64 1] rfl (by (try simp only [List.map_toArray, List.map_cons, List.map_nil]); first | done | rfl | (simp only [List.length_drop, List.length_take]; rfl)) ?_; (with_reducible refine (laws_heldIntS.calls kj47 _ _ t879 1 t889 _ ?side1 ?side2 A61.out).mono ?_); (case side1 => repeat (first | exact (Kd.R_reads' HO_9.out).2.2 | (with_reducible refine Kd.C_alloc ?_ _) | (with_reducible refine Kd.C_drewN ?_ _) | (with_reducible refine Kd.C_drew ?_))); (case side2 => exact (Kd.R_reads' HO_9.out).2.1); rintro e w' ⟨rfl, ⟨nd, rfl⟩⟩; refine ⟨_, rfl, ?_⟩))
                                go_ret
                                exact ⟨by first | rfl | (simp [errW_none, errW_some] <;> rfl) | (simp [*, errW_none, errW_some] <;> rfl), by repeat (first | (with_reducible first | exact HB.out | apply below_alloc | apply pw_below_drewN | apply below_drew1) | exact HB.out)⟩
                              · rw [if_neg c63] at H
                                have c63b0 : (t889 == t878) = false := beq_eq_false_iff_ne.mpr c63
                                have c63b1 : (t889 != t878) = true := bne_iff_ne.mpr c63
                                obtain rfl := Option.some.inj H
                                go_wp2_with (first | ((with_reducible refine gate_callee (f := 38) rfl ?_); refine goesL_ (some 95) rfl rfl Tryd.func38 (by kernel_rfl) rfl #[.slice Ao49 t879.length co49, .int .i64 1] rfl (by (try simp only [List.map_toArray, List.map_cons, List.map_nil]); first | done | rfl | (simp only [List.length_drop, List.length_take]; rfl)) ?_; (with_reducible refine (laws_heldIntS.calls kj47 _ _ t879 1 t889 _ ?side1 ?side2 A61.out).mono ?_); (case side1 => repeat (first | exact (Kd.R_reads' HO_9.out).2.2 | (with_reducible refine Kd.C_alloc ?_ _) | (with_reducible refine Kd.C_drewN ?_ _) | (with_reducible refine Kd.C_drew ?_))); (case side2 => exact (Kd.R_reads' HO_9.out).2.1); rintro e w' ⟨rfl, ⟨nd, rfl⟩⟩; refine ⟨_, rfl, ?_⟩))
                                go_ret
                                exact ⟨by first | rfl | (simp [errW_none, errW_some] <;> rfl) | (simp [*, errW_none, errW_some] <;> rfl), by repeat (first | (with_reducible first | exact HB.out | apply below_alloc | apply pw_below_drewN | apply below_drew1) | exact HB.out)⟩
                    · rw [if_neg c45] at H
                      have c45b0 : (t880 == t878) = false := beq_eq_false_iff_ne.mpr c45
                      have c45b1 : (t880 != t878) = true := bne_iff_ne.mpr c45
                      obtain rfl := Option.some.inj H
                      obtain ⟨Ao64, co64, eo64⟩ := Kd.R_slice HO_9.out
                      subst eo64
                      go_wp2_with (first | ((with_reducible refine gate_callee (f := 37) rfl ?_); refine goesL_ (some 68) rfl rfl Tryd.func37 (by kernel_rfl) rfl #[.slice Ao64 t866.length co64, .int .i64 1] rfl (by (try simp only [List.map_toArray, List.map_cons, List.map_nil]); first | done | rfl | (simp only [List.length_drop, List.length_take]; rfl)) ?_; (with_reducible refine (laws_markIntS.calls kj26 (fun k_ => some k_ = (.slice Ao64 t866.length co64 : Value).ownBlock) (.slice Ao64 t866.length co64) t866 1 t878 t879 w _ ?side1 ?side2 A40.out).mono ?_); (case side1 => repeat (first | (with_reducible first | exact HB.out | apply below_alloc | apply pw_below_drewN | apply below_drew1) | exact HB.out)); (case side2 => exact Kd.R_tight rfl HO_9.out); rintro e w65 ⟨rfl, hy0, hb, hkp⟩; refine ⟨_, rfl, ?_⟩; have n0_ := Aside0.mk (Kd.R_mono (ok' := fun k_ => some k_ ≠ (.slice Ao64 t866.length co64 : Value).ownBlock) (Kd.R_keptB (HO_6.out) hkp (fun k_ hk_ hs_ => (hk_) hs_)) (fun k_ hk_ => hk_.1)); have n1_ := Aside0.mk (Kd.R_reok rfl hy0 (fun k_ e_ => HO_9.out.1 k_ e_)); have n2_ := Aside0.mk (hb); clear HO_6; clear HO_9; clear HB; have HO_6 := n0_; have HO_9 := n1_; have HB := n2_; clear n0_ n1_ n2_; (try clear hb); (try clear hkp); (try clear hy0)) | ((with_reducible refine gate_callee (f := 38) rfl ?_); refine goesL_ (some 71) rfl rfl Tryd.func38 (by kernel_rfl) rfl #[.slice Ao64 t879.length co64, .int .i64 1] rfl (by (try simp only [List.map_toArray, List.map_cons, List.map_nil]); first | done | (rw [show t879.length = t866.length from (Kd.R_reads' HO_9.out).1.symm] <;> rfl) | rfl | (simp only [List.length_drop, List.length_take]; rfl)) ?_; (with_reducible refine (laws_heldIntS.calls kj26 _ _ t879 1 t880 _ ?side1 ?side2 A41.out).mono ?_); (case side1 => repeat (first | exact (Kd.R_reads' HO_9.out).2.2 | (with_reducible refine Kd.C_alloc ?_ _) | (with_reducible refine Kd.C_drewN ?_ _) | (with_reducible refine Kd.C_drew ?_))); (case side2 => rw [show t879.length = t866.length from (Kd.R_reads' HO_9.out).1.symm]; exact (Kd.R_reads' HO_9.out).2.1); rintro e w' ⟨rfl, ⟨nd, rfl⟩⟩; refine ⟨_, rfl, ?_⟩))
                      go_ret
                      exact ⟨by first | rfl | (simp [errW_none, errW_some] <;> rfl) | (simp [*, errW_none, errW_some] <;> rfl), by repeat (first | (with_reducible first | exact HB.out | apply below_alloc | apply pw_below_drewN | apply below_drew1) | exact HB.out)⟩
          · replace c25 := Bool.eq_false_iff.mpr c25
            subst c25
            have H1 : (some false) = some r := by rw [if_neg (show ¬ (false = true) by decide)] at H; exact H
            clear H
            have H := H1
            clear H1
            obtain rfl := Option.some.inj H
            go_wp2_with (first | ((with_reducible refine gate_callee (f := 17) rfl ?_); refine goesL_ (some 47) rfl rfl Tryd.func17 (by kernel_rfl) rfl #[.slice A0 l0.length c0] rfl (by (try simp only [List.map_toArray, List.map_cons, List.map_nil]); first | done | rfl | (simp only [List.length_drop, List.length_take]; rfl)) ?_; (with_reducible refine (laws_toLegS.calls kj8 _ _ l0 t871 _ ?side1 ?side2 A23.out).mono ?_); (case side1 => repeat (first | exact (Kd.C_below HR0.out HB.out) | (with_reducible refine Kd.C_alloc ?_ _) | (with_reducible refine Kd.C_drewN ?_ _) | (with_reducible refine Kd.C_drew ?_))); (case side2 => exact HC0.out); rintro e w66 ⟨v872, rfl, ho0, hb⟩; refine ⟨_, rfl, ?_⟩; have n0_ := Aside0.mk (Kd.R_below (by (with_reducible repeat (first | apply Kd.R_alloc | apply Kd.R_drewN | apply Kd.R_drew)); exact HO_6.out) hb); have n1_ := Aside0.mk (Kd.R_elder' (by (with_reducible repeat (first | apply Kd.R_alloc | apply Kd.R_drewN | apply Kd.R_drew)); exact HO_8.out) (Kd.R_base ho0) hb); have n2_ := Aside0.mk (Kd.R_below (by (with_reducible repeat (first | apply Kd.R_alloc | apply Kd.R_drewN | apply Kd.R_drew)); exact HO_9.out) hb); have n3_ := Aside0.mk (Kd.R_lower (Kd.R_new' ho0 (Kd.R_lt (by (with_reducible repeat (first | apply Kd.R_alloc | apply Kd.R_drewN | apply Kd.R_drew)); exact HO_8.out))) (below_size (by repeat (first | (with_reducible first | exact HB.out | apply below_alloc | apply pw_below_drewN | apply below_drew1) | exact HB.out)))); have n4_ := Aside0.mk (below_step (by repeat (first | (with_reducible first | exact HB.out | apply below_alloc | apply pw_below_drewN | apply below_drew1) | exact HB.out)) hb); clear HO_6; clear HO_8; clear HO_9; clear HB; have HO_6 := n0_; have HO_8 := n1_; have HO_9 := n2_; have HO873 := n3_; have HB := n4_; clear n0_ n1_ n2_ n3_ n4_; (try clear hb); (try clear hb2); (try clear hk); (try clear hi); (try clear ho0); obtain ⟨Ao67, co67, eo67⟩ := Kd.R_slice HO873.out; subst eo67) | ((with_reducible refine gate_callee (f := 19) rfl ?_); refine goesL_ (some 48) rfl rfl Tryd.func19 (by kernel_rfl) rfl #[.slice Ao14 t863.length co14, .slice Ao67 t871.length co67] rfl (by (try simp only [List.map_toArray, List.map_cons, List.map_nil]); first | done | rfl | (simp only [List.length_drop, List.length_take]; rfl)) ?_; (with_reducible refine (laws_eqLegS.calls kj8 _ _ t863 _ _ t871 false _ ?side1 ?side2 ?side3 ?side4 A24.out).mono ?_); (case side1 => repeat (first | exact (Kd.R_reads' HO_8.out).2.2 | (with_reducible refine Kd.C_alloc ?_ _) | (with_reducible refine Kd.C_drewN ?_ _) | (with_reducible refine Kd.C_drew ?_))); (case side2 => exact (Kd.R_reads' HO_8.out).2.1); (case side3 => repeat (first | exact (Kd.R_reads' HO873.out).2.2 | (with_reducible refine Kd.C_alloc ?_ _) | (with_reducible refine Kd.C_drewN ?_ _) | (with_reducible refine Kd.C_drew ?_))); (case side4 => exact (Kd.R_reads' HO873.out).2.1); rintro e w68 ⟨rfl, hb⟩; refine ⟨_, rfl, ?_⟩; have n0_ := Aside0.mk (Kd.R_below (by (with_reducible repeat (first | apply Kd.R_alloc | apply Kd.R_drewN | apply Kd.R_drew)); exact HO_6.out) hb); have n1_ := Aside0.mk (Kd.R_below (by (with_reducible repeat (first | apply Kd.R_alloc | apply Kd.R_drewN | apply Kd.R_drew)); exact HO_8.out) hb); have n2_ := Aside0.mk (Kd.R_below (by (with_reducible repeat (first | apply Kd.R_alloc | apply Kd.R_drewN | apply Kd.R_drew)); exact HO_9.out) hb); have n3_ := Aside0.mk (Kd.R_below (by (with_reducible repeat (first | apply Kd.R_alloc | apply Kd.R_drewN | apply Kd.R_drew)); exact HO873.out) hb); have n4_ := Aside0.mk (below_step (by repeat (first | (with_reducible first | exact HB.out | apply below_alloc | apply pw_below_drewN | apply below_drew1) | exact HB.out)) hb); clear HO_6; clear HO_8; clear HO_9; clear HO873; clear HB; have HO_6 := n0_; have HO_8 := n1_; have HO_9 := n2_; have HO873 := n3_; have HB := n4_; clear n0_ n1_ n2_ n3_ n4_; (try clear hb); (try clear hb2); (try clear hk); (try clear hi)))
            go_ret
            exact ⟨by first | rfl | (simp [errW_none, errW_some] <;> rfl) | (simp [*, errW_none, errW_some] <;> rfl), by repeat (first | (with_reducible first | exact HB.out | apply below_alloc | apply pw_below_drewN | apply below_drew1) | exact HB.out)⟩

end Go.Proofs.YtiooiefjcbooeaaDoor.A

/- Slices of legs that a law copies and compares. No conditions. -/
namespace Go.Proofs.YtiooiefjcbooeaaDoor.Legs
open Go.RowKit Go.Proofs.YtiooiefjcbooeaaDoorW.PrintWords Go.Proofs.YtiooiefjcbooeaaDoor.Plain Go.Proofs.YtiooiefjcbooeaaDoor.A
set_option linter.unusedVariables false
set_option linter.unusedSimpArgs false
def cv (x : S58) : S56 := ⟨x.f0, x.f1, x.f2, x.f3, x.f4⟩
theorem toLegs_ev (l : List (S58)) (hb : l.length ≤ 7036874417766) : Ev (fun k => laws_toLegS.f k l) (l.map cv) := by
  unfold laws_toLegS.f
  refine Ev.pos (by omega) ?_
  refine Ev.pos (by omega) ?_
  exact copy_all laws_toLegS.l0 cv z58 _ (fun k x0 x3 x4 => by simp only [laws_toLegS.l0, laws_toLeg.f, Option.bind_some]; rfl) l (by omega)
theorem eqLegs_ev (l : List (S56)) (hb : l.length ≤ 140737488351232) : Ev (fun k => laws_eqLegS.f k l l) true := by
  unfold laws_eqLegS.f
  refine Ev.pos rfl ?_
  exact eq_all laws_eqLegS.l0 (fun k x0 x4 h0 => by
    simp only [laws_eqLegS.l0, laws_eqLeg.f, if_true, Option.bind_some]
    by_cases h : x4 < (x0.length : Int)
    · rw [if_pos h, if_pos h0, if_pos h, if_pos h]
    · rw [if_neg h, if_neg h]) l hb
theorem szLegs_eq (l : List (S58)) (hb : l.length ≤ 140737488351232) : laws_szLegS.f l 1048576 = some (if l.length ≤ 1048576 then 1048576 - (l.length : Int) else -1) := by
  unfold laws_szLegS.f
  rw [w64 (by omega) (by omega)]
  by_cases h : l.length ≤ 1048576
  · rw [if_neg (by omega), if_pos h]
  · rw [if_pos (by omega), if_neg h]
end Go.Proofs.YtiooiefjcbooeaaDoor.Legs

/- Legs that a law marks: the number it ends with. No conditions. -/
namespace Go.Proofs.YtiooiefjcbooeaaDoor.Legs
open Go.RowKit Go.Proofs.YtiooiefjcbooeaaDoorW.PrintWords Go.Proofs.YtiooiefjcbooeaaDoor.Plain Go.Proofs.YtiooiefjcbooeaaDoor.A
set_option linter.unusedVariables false
set_option linter.unusedSimpArgs false
theorem markLegs_step (x : List (S56)) (a : Int) (i : Nat) (hi : i < x.length) (hb : x.length ≤ 140737488351232) (h0 : 0 ≤ a) (h1 : a ≤ 1000000000000) : ∃ x' : List (S56), x'.length = x.length ∧ ∀ k, laws_markLegS.l0 (k + 1) x (a + 5 * i) (i : Int) = laws_markLegS.l0 k x' (a + 5 * (i + 1 : Nat)) ((i + 1 : Nat) : Int) := by
  apply Exists.intro
  apply And.intro
  case right =>
    intro k
    simp only [laws_markLegS.l0, Option.bind_some]
    rw [if_pos (by omega), if_pos (by omega), w64 (x := a + 5 * (i : Int) + 1) (by omega) (by omega), w64 (x := a + 5 * (i : Int) + 1 + 1) (by omega) (by omega), w64 (x := a + 5 * (i : Int) + 1 + 1 + 1) (by omega) (by omega), w64 (x := a + 5 * (i : Int) + 1 + 1 + 1 + 1) (by omega) (by omega), w64 (x := a + 5 * (i : Int) + 1 + 1 + 1 + 1 + 1) (by omega) (by omega), w64 (x := (i : Int) + 1) (by omega) (by omega), show a + 5 * (i : Int) + 1 + 1 + 1 + 1 + 1 = a + 5 * (i + 1 : Nat) by omega, show (i : Int) + 1 = ((i + 1 : Nat) : Int) by omega]
  case left => simp only [List.length_set]
theorem markLegs_ev (l : List (S56)) (a : Int) (hb : l.length ≤ 140737488351232) (h0 : 0 ≤ a) (h1 : a ≤ 1000000000000) : ∃ r, Ev (fun k => laws_markLegS.f k l a) (a + 5 * l.length, r) := by
  have key : ∀ (d i : Nat) (x : List (S56)), x.length = l.length → i + d = l.length → ∃ r, Ev (fun k => laws_markLegS.l0 k x (a + 5 * i) (i : Int)) (a + 5 * l.length, r) := by
    intro d
    induction d with
    | zero =>
      intro i x hx hi
      obtain rfl : i = l.length := by omega
      exact ⟨x, Ev.step (f := fun _ => some (a + 5 * (l.length : Int), x)) (fun k => by simp only [laws_markLegS.l0]; rw [if_neg (by omega)]) (Ev.now _)⟩
    | succ d ih =>
      intro i x hx hi
      obtain ⟨x', hx', hs⟩ := markLegs_step x a i (by omega) (by omega) h0 h1
      obtain ⟨r, hr⟩ := ih (i + 1) x' (by omega) (by omega)
      exact ⟨r, Ev.step (fun k => hs k) hr⟩
  obtain ⟨r, hr⟩ := key l.length 0 l rfl (by omega)
  exact ⟨r, by unfold laws_markLegS.f; simpa using hr⟩
end Go.Proofs.YtiooiefjcbooeaaDoor.Legs

/- Slices of ints that a law copies, compares, marks and looks at again. No conditions. -/
namespace Go.Proofs.YtiooiefjcbooeaaDoor.Ints
open Go.RowKit Go.Proofs.YtiooiefjcbooeaaDoorW.PrintWords Go.Proofs.YtiooiefjcbooeaaDoor.Plain Go.Proofs.YtiooiefjcbooeaaDoor.A
set_option linter.unusedVariables false
set_option linter.unusedSimpArgs false
theorem eqInt_ev (l : List Int) (hb : l.length ≤ 140737488351232) : Ev (fun k => laws_eqIntS.f k l l) true := by
  unfold laws_eqIntS.f
  refine Ev.pos rfl ?_
  exact eq_all laws_eqIntS.l0 (fun k x0 x4 h0 => by
    simp only [laws_eqIntS.l0, if_true]
    by_cases h : x4 < (x0.length : Int)
    · rw [if_pos h, if_pos h0, if_pos h, if_pos h]
    · rw [if_neg h, if_neg h]) l hb
/-- a, a + 1, .. -/
def from_ : Int → Nat → List Int
  | _, 0 => []
  | a, n + 1 => a :: from_ (a + 1) n
theorem from_length : ∀ (n : Nat) (a : Int), (from_ a n).length = n
  | 0, _ => rfl
  | n + 1, a => by rw [from_, List.length_cons, from_length n]
theorem from_snoc : ∀ (n : Nat) (a : Int), from_ a (n + 1) = from_ a n ++ [a + n]
  | 0, a => by simp [from_]
  | n + 1, a => by
    rw [from_, from_snoc n (a + 1), from_]
    simp
    omega
theorem from_get : ∀ (n : Nat) (a : Int) (i : Nat), i < n → (from_ a n).getD i 0 = a + i
  | 0, _, _, h => by omega
  | n + 1, a, 0, _ => by simp [from_]
  | n + 1, a, i + 1, h => by
    rw [from_, List.getD_cons_succ, from_get n (a + 1) i (by omega)]
    omega
theorem mark_ev (l : List Int) (a : Int) (hb : l.length ≤ 140737488351232) (h0 : 0 ≤ a) (h1 : a ≤ 1000000000000) : Ev (fun k => laws_markIntS.f k l a) (a + l.length, from_ a l.length) := by
  have key : ∀ (d i : Nat) (x : List Int), x.length = l.length → i + d = l.length → x.take i = from_ a i → Ev (fun k => laws_markIntS.l0 k x (a + i) (i : Int)) (a + l.length, from_ a l.length) := by
    intro d
    induction d with
    | zero =>
      intro i x hx hi ht
      obtain rfl : i = l.length := by omega
      refine Ev.step (f := fun _ => some (a + (l.length : Int), x)) (fun k => by simp only [laws_markIntS.l0]; rw [if_neg (by omega)]) ?_
      rw [List.take_of_length_le (by omega)] at ht
      rw [ht]
      exact Ev.now _
    | succ d ih =>
      intro i x hx hi ht
      have hil : i < x.length := by omega
      refine Ev.step (f := fun k => laws_markIntS.l0 k (x.set i (a + i)) (a + ((i + 1 : Nat) : Int)) ((i + 1 : Nat) : Int)) (fun k => by
        simp only [laws_markIntS.l0]
        rw [if_pos (by omega), if_pos (by omega), w64 (by omega) (by omega), w64 (by omega) (by omega), Int.toNat_natCast]
        congr 1
        omega) ?_
      refine ih (i + 1) _ (by simpa using hx) (by omega) ?_
      rw [List.take_succ_eq_append_getElem (by simpa using hil), List.take_set_of_le (by omega), ht, from_snoc]
      simp
  have := key l.length 0 l rfl (by omega) rfl
  unfold laws_markIntS.f
  simpa using this
theorem held_ev (n : Nat) (a : Int) (hb : n ≤ 140737488351232) (h0 : 0 ≤ a) (h1 : a ≤ 1000000000000) : Ev (fun k => laws_heldIntS.f k (from_ a n) a) (a + n) := by
  have key : ∀ (d i : Nat), i + d = n → Ev (fun k => laws_heldIntS.l0 k (from_ a n) (a + i) (i : Int)) (a + n) := by
    intro d
    induction d with
    | zero =>
      intro i hi
      obtain rfl : i = n := by omega
      exact Ev.step (f := fun _ => some (a + (i : Int))) (fun k => by simp only [laws_heldIntS.l0]; rw [if_neg (by rw [from_length]; omega)]) (Ev.now _)
    | succ d ih =>
      intro i hi
      have e : rd (from_ a n) (i : Int) = a + i := from_get n a i (by omega)
      refine Ev.step (f := fun k => laws_heldIntS.l0 k (from_ a n) (a + ((i + 1 : Nat) : Int)) ((i + 1 : Nat) : Int)) (fun k => by
        simp only [laws_heldIntS.l0]
        rw [if_pos (by rw [from_length]; omega), if_pos (by omega), if_pos e, w64 (by omega) (by omega), w64 (by omega) (by omega)]
        congr 1
        omega) (ih (i + 1) (by omega))
  have := key n 0 (by omega)
  unfold laws_heldIntS.f
  simpa using this
end Go.Proofs.YtiooiefjcbooeaaDoor.Ints

/- The reference's LoopLegs and LoopOf, in plain. -/
namespace Go.Proofs.YtiooiefjcbooeaaDoor.Net
open Go.RowKit Go.Proofs.YtiooiefjcbooeaaDoorW.PrintWords Go.Proofs.YtiooiefjcbooeaaDoorW.PrintLast Go.Proofs.YtiooiefjcbooeaaDoorW.PrintMore Go.Proofs.YtiooiefjcbooeaaDoor.A Go.Proofs.YtiooiefjcbooeaaDoor.Plain
open Go.Proofs.YtiooiefjcbooeaaDoor.Tree (verts legs W)
open Go.Proofs.YtiooiefjcbooeaaDoor.Grow (Q sweep grow)
set_option linter.unusedVariables false
set_option linter.unusedSimpArgs false
theorem loopOf_loop (ls : L) (hg : ∀ x ∈ ls, Good x) (w : List Int) (i : Int) (ha : ∀ i ∈ w, 0 ≤ i ∧ i < (ls.length : Int)) (hl : w.length ≤ 100) : ∀ (d j : Nat) (at_ : Int) (out : List Int), j + d = w.length → out.length ≤ 1000 + j →
    (-(8 + 14 * (j : Int)) ≤ at_ ∧ at_ ≤ 8 + 14 * (j : Int)) →
    Ev (fun k => spec_LoopOf.l0 k ls (w ++ [i]) at_ out (j : Int)) (out ++ (trail (ends ls) at_ (w.drop j)).tail, true) := by
  intro d
  induction d with
  | zero =>
    intro j at_ out hj ho _
    rw [List.drop_eq_nil_of_le (by omega)]
    refine Ev.step (f := fun _ => some (out, true)) (fun k => ?_) (by simp only [trail, List.tail_cons, List.append_nil]; exact Ev.now _)
    simp only [spec_LoopOf.l0]
    rw [w64 (by omega) (by omega), if_neg (by simp only [List.length_append, List.length_singleton]; omega)]
  | succ d ih =>
    intro j at_ out hj hol hat
    have hlt : j < w.length := by omega
    have er : rd (w ++ [i]) (j : Int) = w[j] := by
      rw [rd_at _ j (by simp; omega), List.getElem_append_left hlt]
    have hin := ha _ (List.getElem_mem hlt)
    rw [List.drop_eq_getElem_cons hlt]
    have e : wrap64 ((j : Int) + 1) = ((j + 1 : Nat) : Int) := by rw [w64 (by omega) (by omega)]; omega
    have bj : ((j + 1 : Nat) : Int) < ((w ++ [i]).length : Int) := by simp only [List.length_append, List.length_singleton]; omega
    have bj2 : (j : Int) < ((w ++ [i]).length : Int) := by omega
    have bj0 : (0 : Int) ≤ (j : Int) := Int.natCast_nonneg j
    obtain ⟨m, hi⟩ := Int.eq_ofNat_of_zero_le hin.1
    rw [hi] at hin er ⊢
    have hgi := leg_good hg m (Int.ofNat_lt.mp hin.2)
    have hrd : rd_T56 ls (m : Int) = leg ls m := rfl
    simp only [trail, show ends ls m = ((leg ls m).f0, (leg ls m).f1) from rfl, List.tail_cons]
    obtain ⟨⟨a0, a8⟩, ⟨b0, b8⟩, _⟩ := hgi
    generalize leg ls (m : Int) = x at *
    have ho : wrap64 ((wrap64 (x.f0 + x.f1)) - at_) = x.f0 + x.f1 - at_ := by rw [w64 (x := x.f0 + x.f1) (by omega) (by omega), w64 (by omega) (by omega)]
    have h := ih (j + 1) (x.f0 + x.f1 - at_) (out ++ [x.f0 + x.f1 - at_]) (by omega) (by simp only [List.length_append, List.length_singleton]; omega) (by omega)
    rw [List.append_assoc, List.singleton_append, ← trail_cons] at h
    refine Ev.step (fun k => ?_) h
    simp only [spec_LoopOf.l0]
    rw [e, if_pos bj, if_pos bj0, if_pos bj2, er, if_pos hin.1, if_pos hin.2, if_pos (by omega), hrd, ho]
theorem specLoopOf_ev (ls : L) (i : Int) (hb : ls.length ≤ 140737488351232) : Ev (fun k => spec_LoopOf.f k ls i) (if legsB ls = true ∧ i ∈ closeL ls then (loopS ls i, true) else ([], false)) := by
  have hc := closingB_ev ls i hb
  unfold spec_LoopOf.f
  by_cases h : legsB ls = true ∧ i ∈ closeL ls
  · rw [if_pos h]
    rw [h.1, decide_eq_true h.2] at hc
    refine Ev.bind hc (Ev.pos rfl ?_)
    have hv := legsB_iff.mp h.1
    refine Ev.bind (loop_ev hv.2 hv.1 h.2) ?_
    obtain ⟨i0, i1, _⟩ := mem_closeL hv.1 h.2
    have hr := loopL_range hv.1 h.2
    have hle := loopL_len hv.1 i
    refine Ev.pos i0 (Ev.pos i1 ?_)
    obtain ⟨m, rfl⟩ := Int.eq_ofNat_of_zero_le i0
    have hgi := leg_good hv.1 m (Int.ofNat_lt.mp i1)
    have hrd : rd_T56 ls (m : Int) = leg ls m := rfl
    rw [hrd]
    unfold loopL at hr hle ⊢
    have := loopOf_loop ls hv.1 (W (RR ls) (ends ls m).2 (ends ls m).1) m (fun x hx => hr x (List.mem_append_left _ hx)) (by simp at hle; omega) _ 0 (leg ls m).f1 [(leg ls m).f1] (Nat.zero_add _) (by simp) (by have := hgi.2.1; omega)
    rw [List.drop_zero, List.singleton_append, ← trail_cons] at this
    exact this
  · rw [if_neg h]
    refine Ev.bind hc (Ev.neg ?_ (Ev.now _))
    rw [Bool.and_eq_true, decide_eq_true_eq]
    exact h
end Go.Proofs.YtiooiefjcbooeaaDoor.Net

/- The law FnExactLoopOf, as a plain statement: the program's LoopOf answers what the reference's answers. Conditions: those of the row's own reading. -/
namespace Go.Proofs.YtiooiefjcbooeaaDoor.Pure
open Go.RowKit Go.Proofs.YtiooiefjcbooeaaDoorW.PrintWords Go.Proofs.YtiooiefjcbooeaaDoor.Plain Go.Proofs.YtiooiefjcbooeaaDoor.A Go.Proofs.YtiooiefjcbooeaaDoor.Legs
set_option linter.unusedVariables false
set_option linter.unusedSimpArgs false
theorem FnExactLoopOf (l0 : List (S58)) (a1 : Int) (hb : l0.length * 40 ≤ 140737488351232) (_ : ∀ x ∈ l0, (Lit.int .i64 x.f0).wf = true ∧ (Lit.int .i64 x.f1).wf = true ∧ (Lit.int .i64 x.f2).wf = true ∧ (Lit.int .i64 x.f3).wf = true ∧ (Lit.int .i64 x.f4).wf = true) (_ : (Lit.int .i64 a1).wf = true) : ∃ k, laws_FnExactLoopOf.f k l0 a1 = some true := by
  refine Ev.rounds ?_
  have hl : (l0.map cv).length = l0.length := by simp
  have hsz := szLegs_eq l0 (by omega)
  by_cases c : l0.length ≤ 1048576
  · rw [if_pos c] at hsz
    obtain ⟨B, hB⟩ : ∃ B : List Int × Bool, B = if Net.legsB (l0.map cv) = true ∧ a1 ∈ Net.closeL (l0.map cv) then (Net.loopS (l0.map cv) a1, true) else ([], false) := ⟨_, rfl⟩
    have hBl : B.1.length ≤ 100 := by
      rw [hB]
      split
      · rename_i h
        have := Net.loopS_len (Net.legsB_iff.mp h.1).1 a1
        simp only
        omega
      · simp
    have hi : impl_LoopOf.f (l0.map cv) a1 = some (B.1, B.2) := by unfold impl_LoopOf.f; rw [if_pos (by omega), hB]
    have hs : Ev (fun k => spec_LoopOf.f k (l0.map cv) a1) B := by rw [hB]; exact Net.specLoopOf_ev _ a1 (by omega)
    clear hB
    have heq := Ints.eqInt_ev B.1 (by omega)
    obtain ⟨q, hq⟩ := markLegs_ev (l0.map cv) 1 (by omega) (by omega) (by omega)
    have hm := Ints.mark_ev B.1 1 (by omega) (by omega) (by omega)
    have hh := Ints.held_ev B.1.length 1 (by omega) (by omega) (by omega)
    have hlegs := toLegs_ev l0 (by omega)
    refine Ev.bindc hsz (Ev.neg (by omega) ?_)
    refine Ev.bind hlegs (Ev.bind hs (Ev.bind hlegs (Ev.bindc hi (Ev.bind heq (Ev.pos rfl ?_)))))
    refine Ev.step (f := fun k => (laws_toLegS.f k l0).bind fun t766 => ((laws_eqLegS.f k (l0.map cv) t766).bind fun t769 => (if t769 = true then ((laws_markLegS.f k (l0.map cv) 1).bind fun bt770 => (if bt770.1 < 0 then (laws_FnExactLoopOf.j1 k l0 a1 B.1 B.2 B.1 true) else ((laws_eqIntS.f k B.1 B.1).bind fun t772 => (if t772 = true then (laws_FnExactLoopOf.j1 k l0 a1 B.1 B.2 B.1 false) else (laws_FnExactLoopOf.j1 k l0 a1 B.1 B.2 B.1 true))))) else (some false)))) (fun k => by simp only [laws_FnExactLoopOf.j0, bne_self_eq_false, Bool.false_eq_true, if_false]) ?_
    refine Ev.bind hlegs (Ev.bind (eqLegs_ev _ (by omega)) (Ev.pos rfl (Ev.bind hq (Ev.neg (by simp only; omega) (Ev.bind heq (Ev.pos rfl ?_))))))
    refine Ev.step (f := fun k => (laws_markIntS.f k B.1 1).bind fun bt773 => ((laws_heldIntS.f k bt773.2 1).bind fun t775 => (if t775 < 0 then (some false) else (if t775 = bt773.1 then ((laws_toLegS.f k l0).bind fun t776 => ((impl_LoopOf.f t776 a1).bind fun bt779 => ((laws_eqIntS.f k bt779.1 B.1).bind fun t783 => (if t783 = true then (laws_FnExactLoopOf.j2 k bt773.2 bt773.1 (bt779.2 != B.2)) else (laws_FnExactLoopOf.j2 k bt773.2 bt773.1 true))))) else (some false))))) (fun k => by simp only [laws_FnExactLoopOf.j1, Bool.false_eq_true, if_false]) ?_
    refine Ev.bind hm (Ev.bind hh (Ev.neg (by omega) (Ev.pos rfl (Ev.bind hlegs (Ev.bindc hi (Ev.bind heq (Ev.pos rfl ?_)))))))
    refine Ev.step (f := fun k => (laws_heldIntS.f k (Ints.from_ 1 B.1.length) 1).bind fun t784 => (if t784 < 0 then (some false) else (if t784 = 1 + (B.1.length : Int) then (some true) else (some false)))) (fun k => by simp only [laws_FnExactLoopOf.j2, bne_self_eq_false, Bool.false_eq_true, if_false]) ?_
    exact Ev.bind hh (Ev.neg (by omega) (Ev.pos rfl (Ev.now _)))
  · rw [if_neg c] at hsz
    exact Ev.bindc hsz (Ev.pos (by decide) (Ev.now _))
end Go.Proofs.YtiooiefjcbooeaaDoor.Pure

/- General laws by which a law's arguments are opened: a slice of structs whose fields are integers or bools, as a row of the print's kinds; a struct by value. No conditions. -/
namespace Go.Proofs.YtiooiefjcbooeaaDoor.Opens
open Go.ChangeShapes Go.WideShapes Go.Deep Go.RowKit Go.Proofs.YtiooiefjcbooeaaDoorW.PrintWords

theorem list_of {α : Type} {P : Nat → α → Prop} : ∀ (n : Nat), (∀ i, i < n → ∃ x, P i x) → ∃ xs : List α, xs.length = n ∧ ∀ i x, xs[i]? = some x → P i x
  | 0, _ => ⟨[], rfl, fun i x h => by simp at h⟩
  | n + 1, h => by
    obtain ⟨xs, hl, hx⟩ := list_of n (fun i hi => h i (Nat.lt_succ_of_lt hi))
    obtain ⟨y, hy⟩ := h n (Nat.lt_succ_self n)
    refine ⟨xs ++ [y], by simp [hl], fun i x hi => ?_⟩
    by_cases hlt : i < xs.length
    · rw [List.getElem?_append_left hlt] at hi
      exact hx i x hi
    · rw [List.getElem?_append_right (by omega)] at hi
      have h0 : i - xs.length = 0 := by
        have := (List.getElem?_eq_some_iff.1 hi).1
        simp at this
        omega
      rw [h0] at hi
      simp at hi
      subst hi
      have : i = n := by omega
      subst this
      exact hy

section
variable {H : Type} {enc : TypeId × Value → H} {P : Program} {w : World} {base : Nat} {spare : Nat → Bool} {held : Bool}
/-- A slice of structs, opened: the list of what its elements are, each by the kind's own reading. -/
theorem open_row {α : Type} (d : Kd α) {Q : α → Prop} {t e : TypeId} {a : Option Addr} {len cap : Nat} {dd : DataW H} {ps : List MemPlace} (ht : P.underlying t = some (.slice e)) (hC : P.cellsOf e = d.sz)
    (hd : ∀ n cs y, DataW.trod enc P w base spare held n e cs = some y → ∃ x, d.K w x cs ∧ Q x)
    (h : DataW.Trod enc P w base spare held t (.slice a len cap) dd ps) : ∃ xs : List α, xs.length = len ∧ len ≤ cap ∧ d.C w a len xs ∧ ∀ x ∈ xs, Q x := by
  obtain ⟨fuel, hf⟩ := h
  rcases open_slice ht hf with ⟨hcs, _⟩ | ⟨x, l, c, m, n, D, Pl, hcs, _, hl, hm, hmm, _, hi⟩
  · simp [Value.cells] at hcs
    obtain ⟨rfl, rfl, rfl⟩ := hcs
    exact ⟨[], rfl, Nat.le_refl _, ⟨rfl, by omega, fun h => by omega⟩, fun x hx => by simp at hx⟩
  · simp [Value.cells] at hcs
    obtain ⟨rfl, rfl, rfl⟩ := hcs
    have hle : len ≤ m := by subst hmm; split <;> omega
    obtain ⟨xs, hxl, hx⟩ := list_of (P := fun i (z : α) => Q z ∧ ∃ cs, d.K w z cs ∧ w.cells? base (x.add (i * d.sz)) d.sz = some cs) len (fun i hil => by
      obtain ⟨cs, h1, h2⟩ := hi i (by omega)
      rw [hC] at h1
      obtain ⟨z, h3, h4⟩ := hd _ _ _ h2
      exact ⟨z, h4, cs, h3, h1⟩)
    refine ⟨xs, hxl, hl, ⟨hxl, by unfold maxLen at hm; omega, fun _ => ⟨x, rfl, fun j p hp => ?_⟩⟩, fun z hz => ?_⟩
    · obtain ⟨_, cs, h1, h2⟩ := hx j p hp
      obtain ⟨_, hlen, hat⟩ := World.cells?_some h2
      refine ⟨cs, hlen, h1, fun i u hu => ?_⟩
      have hil : i < d.sz := by have := (List.getElem?_eq_some_iff.1 hu).1; omega
      rw [← Go.Deep.add_add, hat i hil, hu]
    · obtain ⟨j, hj⟩ := List.getElem?_of_mem hz
      exact (hx j z hj).1

theorem sized_row {t e : TypeId} {a : Option Addr} {len cap : Nat} {d : DataW H} {ps : List MemPlace} {ts : List TypeId} {ds : List (DataW H)} {j : Nat}
    (hsz : (DataW.weightsEach P ts ds).all (· ≤ reachBytes) = true) (ht : ts[j]? = some t) (hd : ds[j]? = some d) (hu : P.underlying t = some (.slice e)) {B : Nat} (hB : P.bytesOf e = B)
    (h : DataW.Trod enc P w base spare held t (.slice a len cap) d ps) : len * B ≤ 140737488351232 := by
  obtain ⟨fuel, hf⟩ := h
  rcases open_slice hu hf with ⟨hcs, _⟩ | ⟨x, l, c, m, n, D, Pl, hcs, _, hl, hm, hmm, hx, hi⟩
  · simp [Value.cells] at hcs
    obtain ⟨rfl, rfl, rfl⟩ := hcs
    simp
  · simp [Value.cells] at hcs
    obtain ⟨rfl, rfl, rfl⟩ := hcs
    obtain ⟨hx, _⟩ := Prod.mk.inj hx
    subst hx
    have z := sized_slice hsz ht hd hu
    rw [hB] at z
    simp only [List.length_map, List.length_range] at z
    have hle : len ≤ m := by subst hmm; split <;> omega
    rw [show len + (m - len) = m by omega] at z
    exact Nat.le_trans (Nat.mul_le_mul_right _ hle) z

theorem one_field {f : Field} {cs : List Value} {o c : Nat} (ho : f.offset = o) (hc : P.cellsOf f.type = c) {n : Nat} {y : Option (DataW H × List MemPlace)} (h : DataW.trod enc P w base spare held n f.type ((cs.drop f.offset).take (P.cellsOf f.type)) = y) : DataW.trod enc P w base spare held n f.type ((cs.drop o).take c) = y := by rw [← ho, ← hc]; exact h
end
theorem len5 {α : Type} : ∀ {l : List α}, l.length = 5 → ∃ x0 x1 x2 x3 x4, l = [x0, x1, x2, x3, x4]
  | [x0, x1, x2, x3, x4], _ => ⟨x0, x1, x2, x3, x4, rfl⟩
end Go.Proofs.YtiooiefjcbooeaaDoor.Opens

namespace Go.Proofs.YtiooiefjcbooeaaDoor.fnExactLoopOf
open Go.ChangeShapes Go.WideShapes Go.ChangeAt Go.RowKit
open Go.ChangeMaps (open_string shut_string)
open Go.Proofs.YtiooiefjcbooeaaDoor.A Go.Proofs.YtiooiefjcbooeaaDoorW.PrintWords Go.Proofs.YtiooiefjcbooeaaDoor.Opens
set_option linter.unusedVariables false
theorem own : ownKnob Tryd.prog.godebug = none := by kernel_rfl
theorem laidOut : laidOutB Tryd.prog = true := by kernel_rfl
theorem open_58 {H : Type} {enc : TypeId × Value → H} {w : World} {base : Nat} {spare : Nat → Bool} {held : Bool} {n : Nat} {cs : List Value} {y : DataW H × List MemPlace} (h : DataW.trod enc Tryd.prog w base spare held n 58 cs = some y) : ∃ (x0 : Int) (x1 : Int) (x2 : Int) (x3 : Int) (x4 : Int), cs = [.int .i64 x0, .int .i64 x1, .int .i64 x2, .int .i64 x3, .int .i64 x4] ∧ (Lit.int .i64 x0).wf = true ∧ (Lit.int .i64 x1).wf = true ∧ (Lit.int .i64 x2).wf = true ∧ (Lit.int .i64 x3).wf = true ∧ (Lit.int .i64 x4).wf = true := by
  obtain ⟨ys, n', _, _, hlen, hys, hf⟩ := DataW.trod_struct Tryd.underlying58 h
  replace hlen : cs.length = 5 := hlen.trans (by kernel_rfl)
  replace hys : ys.length = 5 := hys.trans (by kernel_rfl)
  clear h
  obtain ⟨c0, c1, c2, c3, c4, rfl⟩ := len5 hlen
  obtain ⟨y0, y1, y2, y3, y4, rfl⟩ := len5 hys
  have h0 : DataW.trod enc Tryd.prog w base spare held n' 3 [c0] = some y0 := one_field (c := 1) (o := 0) rfl (by kernel_rfl) (hf 0 _ rfl)
  obtain ⟨x0, e0, _, w0⟩ := DataW.trod_int Tryd.underlying3 h0
  obtain rfl : c0 = _ := (List.cons.inj e0).1
  have h1 : DataW.trod enc Tryd.prog w base spare held n' 3 [c1] = some y1 := one_field (c := 1) (o := 1) rfl (by kernel_rfl) (hf 1 _ rfl)
  obtain ⟨x1, e1, _, w1⟩ := DataW.trod_int Tryd.underlying3 h1
  obtain rfl : c1 = _ := (List.cons.inj e1).1
  have h2 : DataW.trod enc Tryd.prog w base spare held n' 3 [c2] = some y2 := one_field (c := 1) (o := 2) rfl (by kernel_rfl) (hf 2 _ rfl)
  obtain ⟨x2, e2, _, w2⟩ := DataW.trod_int Tryd.underlying3 h2
  obtain rfl : c2 = _ := (List.cons.inj e2).1
  have h3 : DataW.trod enc Tryd.prog w base spare held n' 3 [c3] = some y3 := one_field (c := 1) (o := 3) rfl (by kernel_rfl) (hf 3 _ rfl)
  obtain ⟨x3, e3, _, w3⟩ := DataW.trod_int Tryd.underlying3 h3
  obtain rfl : c3 = _ := (List.cons.inj e3).1
  have h4 : DataW.trod enc Tryd.prog w base spare held n' 3 [c4] = some y4 := one_field (c := 1) (o := 4) rfl (by kernel_rfl) (hf 4 _ rfl)
  obtain ⟨x4, e4, _, w4⟩ := DataW.trod_int Tryd.underlying3 h4
  obtain rfl : c4 = _ := (List.cons.inj e4).1
  exact ⟨x0, x1, x2, x3, x4, rfl, w0, w1, w2, w3, w4⟩
set_option maxRecDepth 100000 in
theorem lifted (os : Os) (started : os.Started) (H : Type) (enc : TypeId × Value → H) :
    ReturnsInHanded {} Tryd.checked os 13 .any (fun w args => (Rows.fnExactLoopOfSpec.pre enc Tryd.prog Tryd.f13 [] false w args ∧ laidMetH Tryd.prog LaidT.list w) ∧ sizedMet enc Tryd.prog Tryd.f13 (OpenSpec.ofChange Rows.fnExactLoopOfSpec) false w args) (Rows.fnExactLoopOfSpec.post enc Tryd.prog Tryd.f13 false true false false) := by
  refine returnsInHanded_of_change_and (C := Tryd.checked) (X := fun w _ => laidMetH Tryd.prog LaidT.list w) (fun _ _ _ hh h => h.of_heap hh) own started (by kernel_rfl) Tryd.func13
    (ChangeSpec.witness_shaped (enc := enc) (C := Tryd.checked) (os := os) (X := fun w _ => laidMetH Tryd.prog LaidT.list w) false (World.doorLaid Tryd.prog 400 os) #[.slice none 0 0, .int .i64 0] 8 rfl (World.shaped_of_RefB (by kernel_rfl) (by kernel_rfl)) (by kernel_rfl) (by kernel_rfl) (by kernel_rfl) (LaidT.door_met os _)) ?_
  intro W base args ds gs before hval0 hW hcnd hsz0 hL _
  have hsz : (DataW.weightsEach Tryd.prog (Tryd.f13.params.toList ++ Rows.fnExactLoopOfSpec.plain.varTypes Tryd.prog) (ds ++ gs)).all (· ≤ reachBytes) = true := hsz0
  have hval : ∀ (j : Nat) t v, Tryd.f13.params[j]? = some t → args[j]? = some v → Value.okWide Tryd.prog W .any base t v := hval0
  have hW' := hW
  obtain ⟨p, q, hA0, hV, rfl, hfz, hnd⟩ := hW
  have hA : DataW.TrodAll enc Tryd.prog W 0 (fun _ => true) true Tryd.f13.params.toList args.toList ds p := hA0
  rw [Tryd.params13] at hA hval hsz
  obtain ⟨v0, vs0, d0, ds0, p0, q0, hargs, rfl, rfl, h0, r0⟩ := trodAll_cons hA
  obtain ⟨v1, vs1, d1, ds1, p1, q1, rfl, rfl, rfl, h1, r1⟩ := trodAll_cons r0
  obtain ⟨rfl, rfl, rfl⟩ := trodAll_nil r1
  obtain rfl : args = #[v0, v1] := by cases args; simp_all
  have hV2 := hV
  obtain ⟨_, _, _, _, gd, _, rfl, _, _, _, _, _⟩ := trodVars_one hV
  have k0 := h0
  have lt0 : ∀ x ∈ p0, x.block < W.heap.size := by obtain ⟨m, hm⟩ := k0; exact DataW.trod_lt m _ _ _ hm
  obtain ⟨a0, len0, cap0, rfl⟩ := okWide_slice Tryd.underlying22 (hval 0 22 v0 rfl rfl)
  obtain ⟨l0, hl0, hc0, hr0, hw0⟩ := Opens.open_row k58 (Q := fun x => (Lit.int .i64 x.f0).wf = true ∧ (Lit.int .i64 x.f1).wf = true ∧ (Lit.int .i64 x.f2).wf = true ∧ (Lit.int .i64 x.f3).wf = true ∧ (Lit.int .i64 x.f4).wf = true) (e := 58) Tryd.underlying22 (by kernel_rfl) (fun _ _ _ h => by obtain ⟨x0, x1, x2, x3, x4, rfl, hw⟩ := open_58 h; exact ⟨⟨x0, x1, x2, x3, x4⟩, k58_mk _ _, hw⟩) h0
  have y0 : len0 * 40 ≤ 140737488351232 := Opens.sized_row hsz (j := 0) (t := 22) rfl rfl Tryd.underlying22 (by kernel_rfl) h0
  subst hl0
  obtain ⟨a1, rfl, rfl, rfl, w1⟩ := open_int Tryd.underlying3 (hval 1 3 v1 rfl rfl) h1
  clear hA0 hval0 hsz0 hsz
  obtain ⟨k, hk⟩ := Pure.FnExactLoopOf l0 a1 y0 hw0 w1
  refine (laws_FnExactLoopOf.calls k _ _ l0 a1 true W hr0 hc0 hk (LaidT.of_laid hL)).mono fun e W' ⟨he, hb⟩ => ?_
  have bel : Below W.heap.size W W' := hb
  subst he
  exact ⟨_, rfl, _, _, _, [], _, _, hW', trodAll_mk1 (shut_bool Tryd.underlying4 _), (trodAll_cons_mk (Below.trod laidOut (by kernel_rfl) (of_decide_eq_true (by kernel_rfl)) k0 bel lt0) (trodAll_cons_mk (shut_int Tryd.underlying3 w1) trodAll_mk0)), Below.trodVars laidOut bel (by kernel_rfl) hV2, bel.frame _, fun h => by cases h⟩
theorem over : Rows.fnExactLoopOfRow.holds Tryd.pinned (OpenSpec.ofChange Rows.fnExactLoopOfSpec) :=
  OpenClaim.holds_of_wide 13 Tryd.f13 rfl rfl rfl rfl rfl rfl rfl ⟨rfl, rfl, rfl, rfl, rfl⟩ rfl rfl rfl rfl rfl (by kernel_rfl) Tryd.func13 (by kernel_rfl)
    (of_decide_eq_true (by kernel_rfl)) (by unfold Func.isWrapper; first | (rw [if_pos (by decide +kernel)]; kernel_rfl) | (rw [if_neg (by decide +kernel)]; exact ⟨rfl, rfl⟩))
    (fun os started H enc _ => lifted os started H enc)
theorem proved : Rows.FnExactLoopOfSaid := over
theorem card_holds : Rows.FnExactLoopOfCardSaid :=
  Claim7.holds_tied_plain_at .later [] [.data] true (true, "f7459f8bb7d25b8a76c6a5470673fe8532312535b90f7e9f3582109fee47265b") false
    over (fun _ h => by cases h) (by kernel_rfl) (fun _ h => by cases h) fnExactLoopOf_row_tie rfl ⟨rfl, rfl⟩ (by kernel_rfl) rfl
    (fun f fn hf hfn => by
      obtain rfl : f = 13 := Option.some.inj ((show Tryd.prog.funcNamed "loop.example/g00933/laws.FnExactLoopOf" = some 13 by kernel_rfl).symm.trans hf) |>.symm
      obtain rfl : fn = Tryd.f13 := (Option.some.inj (Tryd.func13.symm.trans hfn)).symm
      exact ⟨by kernel_rfl, fun j t ht => by
        rw [Tryd.params13] at ht
        have hm : t ∈ [22, 3] := by simpa using Array.mem_of_getElem? ht
        have hall : ([22, 3].all fun u => !Tryd.prog.wantsStandIn u) = true := by kernel_rfl
        exact (show Tryd.prog.wantsStandIn t = false by simpa using List.all_eq_true.1 hall t hm)⟩)
    (by kernel_rfl)
#print axioms card_holds
end Go.Proofs.YtiooiefjcbooeaaDoor.fnExactLoopOf
namespace Go.Proofs.YtiooiefjcbooeaaDoor
/-- The row, under a short name, for the claim. -/
theorem fnExactLoopOf_holds : Rows.FnExactLoopOfCardSaid := fnExactLoopOf.card_holds
end Go.Proofs.YtiooiefjcbooeaaDoor
