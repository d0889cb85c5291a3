/- The row of the law FnExactLargestResidual: whatever the input, it returns true; its arguments read as they did. No conditions. -/
import Derived.Deep.Slices
import Derived.Deep.Fields
import Derived.ChangeSame
import Derived.SizedLaws
import Derived.Test.YthplhbcafihacaaDoorKFnExactLargestResidualVMore
import Derived.Test.YthplhbcafihacaaDoorCards
import Derived.Test.YthplhbcafihacaaDoorTie
import Derived.OpenVars
import Derived.ChangeVars
import Derived.SevenTiedAt
import Derived.Stop.Joined
import Derived.LaidMore
import Derived.Test.YthplhbcafihacaaDoorRows
import Derived.WalkKit
import Derived.ProofKit
import Derived.OpenShut
import Derived.ShutString
import Derived.ChangeOld
import Derived.Below
import Derived.Test.YthplhbcafihacaaDoorKFnExactLargestResidual0
import Derived.Test.YthplhbcafihacaaDoorKFnExactLargestResidual1
import Derived.Test.YthplhbcafihacaaDoorKFnExactLargestResidual2
import Derived.Test.YthplhbcafihacaaDoorKFnExactLargestResidual3
import Derived.Test.YthplhbcafihacaaDoorKFnExactLargestResidualU1
import Derived.Test.YthplhbcafihacaaDoorKFnExactLargestResidualU4
import Derived.Test.YthplhbcafihacaaDoorKFnExactLargestResidualU5
import Derived.Test.YthplhbcafihacaaDoorKFnExactLargestResidualU6
/- One Lean function and its proof for each Go function, written by a program out of the translation. No conditions. -/
namespace Go.Proofs.YthplhbcafihacaaDoor.A
open Go.Proofs.YthplhbcafihacaaDoor Go.RowKit Go.Proofs.YthplhbcafihacaaDoorW.PrintWords Go.Proofs.YthplhbcafihacaaDoorW.PrintLast Go.Proofs.YthplhbcafihacaaDoorW.PrintMore
attribute [local go_sem] max2_int min2_int max_two min_two max_three min_three max_four min_four   -- for this text's walks alone
set_option linter.unusedVariables false
set_option linter.unusedSimpArgs false

/-! ### laws_FnExactLargestResidual: function 5 -/
def laws_FnExactLargestResidual.j0 : Nat → List (S53) → List (S50) → Bool → Option (Bool)
 | 0, _, _, _ => none
 | k + 1, x0, x8, x38 => if x38 = true then (some false) else ((laws_toLegS.f k x0).bind fun t371 => ((laws_eqLegS.f k x8 t371).bind fun t374 => (if t374 = true then (some true) else (some false))))
def laws_FnExactLargestResidual.f (k : Nat) (l0 : List (S53)) (a1 : Int) : Option (Bool) := (laws_szLegS.f l0 1048576).bind fun t360 => (if t360 < 0 then (some true) else ((laws_toLegS.f k l0).bind fun t361 => ((spec_LargestResidual.f k t361 a1).bind fun bt364 => ((laws_toLegS.f k l0).bind fun t366 => ((impl_LargestResidual.f t366 a1).bind fun bt369 => (if bt369.1 = bt364.1 then (laws_FnExactLargestResidual.j0 k l0 t366 (bt369.2 != bt364.2)) else (laws_FnExactLargestResidual.j0 k l0 t366 true)))))))
theorem laws_FnExactLargestResidual.mono_l : ∀ k, (∀ y0 y1 y2, LeO (laws_FnExactLargestResidual.j0 k y0 y1 y2) (laws_FnExactLargestResidual.j0 (k + 1) y0 y1 y2))
 | 0 => fun _ _ _ r h => by simp [laws_FnExactLargestResidual.j0] at h
 | k + 1 => by
  have ih0 := laws_FnExactLargestResidual.mono_l k
  ·
   intro y0 y1 y2
   unfold laws_FnExactLargestResidual.j0
   repeat' first
   | (with_reducible exact ih0 _ _ _)
   | (with_reducible exact laws_eqLegS.mono _ _ _)
   | (with_reducible exact laws_toLegS.mono _ _)
   | (with_reducible exact spec_LargestResidual.mono _ _ _)
   | (with_reducible exact LeO.refl _)
   | (with_reducible exact LeO.none _)
   | (with_reducible refine LeO.ite ?_ ?_)
   | (with_reducible refine LeO.bind ?_ (fun _ => ?_))
   | exact ih0 _ _ _
   | exact laws_eqLegS.mono _ _ _
   | exact laws_toLegS.mono _ _
   | exact spec_LargestResidual.mono _ _ _
   | exact LeO.none _
   | refine LeO.ite ?_ ?_
   | refine LeO.bind ?_ (fun _ => ?_)
theorem laws_FnExactLargestResidual.mono : ∀ a0 a1 k, LeO (laws_FnExactLargestResidual.f k a0 a1) (laws_FnExactLargestResidual.f (k + 1) a0 a1) := by
 intro a0 a1 k
 have ih0 := laws_FnExactLargestResidual.mono_l k
 unfold laws_FnExactLargestResidual.f
 repeat' first
   | (with_reducible exact ih0 _ _ _)
   | (with_reducible exact laws_eqLegS.mono _ _ _)
   | (with_reducible exact laws_toLegS.mono _ _)
   | (with_reducible exact spec_LargestResidual.mono _ _ _)
   | (with_reducible exact LeO.refl _)
   | (with_reducible exact LeO.none _)
   | (with_reducible refine LeO.ite ?_ ?_)
   | (with_reducible refine LeO.bind ?_ (fun _ => ?_))
   | exact ih0 _ _ _
   | exact laws_eqLegS.mono _ _ _
   | exact laws_toLegS.mono _ _
   | exact spec_LargestResidual.mono _ _ _
   | exact LeO.none _
   | refine LeO.ite ?_ ?_
   | refine LeO.bind ?_ (fun _ => ?_)
set_option maxHeartbeats 8000000 in
set_option maxRecDepth 100000 in
theorem laws_FnExactLargestResidual.calls (k : Nat) (A0 : Option Addr) (c0 : Nat) (l0 : List (S53)) (a1 : Int) (r : Bool) (w : World) (hr0 : Kd.C k53 w A0 l0.length l0) (hc0 : l0.length ≤ c0) (h : laws_FnExactLargestResidual.f k l0 a1 = some r) (hL : Net.Sine.Laid w) :
  Calls Tryd.prog 5 #[.slice A0 l0.length c0, .int .i64 a1] w fun e w' => e = .returned (.bool r) ∧ Below w.heap.size w w' := by
 have HL := Aside0.mk hL
 clear hL
 have HR0 := Aside0.mk hr0
 have HC0 := Aside0.mk hc0
 clear hr0 hc0
 have HB := Aside0.mk (Below.refl w.heap.size w)
 have H : ((laws_szLegS.f l0 1048576).bind fun t360 => (if t360 < 0 then (some true) else ((laws_toLegS.f k l0).bind fun t361 => ((spec_LargestResidual.f k t361 a1).bind fun bt364 => ((laws_toLegS.f k l0).bind fun t366 => ((impl_LargestResidual.f t366 a1).bind fun bt369 => (if bt369.1 = bt364.1 then (laws_FnExactLargestResidual.j0 k l0 t366 (bt369.2 != bt364.2)) else (laws_FnExactLargestResidual.j0 k l0 t366 true)))))))) = some r := h
 clear h
 replace H := Option.bind_eq_some_iff.mp H
 obtain ⟨t360, A30, H⟩ := H
 replace H : (if t360 < 0 then (some true) else ((laws_toLegS.f k l0).bind fun t361 => ((spec_LargestResidual.f k t361 a1).bind fun bt364 => ((laws_toLegS.f k l0).bind fun t366 => ((impl_LargestResidual.f t366 a1).bind fun bt369 => (if bt369.1 = bt364.1 then (laws_FnExactLargestResidual.j0 k l0 t366 (bt369.2 != bt364.2)) else (laws_FnExactLargestResidual.j0 k l0 t366 true))))))) = some r := H
 have A3 := Aside0.mk A30
 clear A30
 by_cases c4 : t360 < 0
 ·
  rw [if_pos c4] at H
  have c4b0 : decide (t360 < 0) = true := decide_eq_true c4
  clear c4
  obtain rfl := Option.some.inj H
  go_enter Tryd.func5, Tryd.ntmps5
  go_wp2_with (first | ((with_reducible refine gate_callee (f := 8) rfl ?_); refine goesL_ (some 13) rfl rfl Tryd.func8 (by kernel_rfl) rfl #[.slice A0 l0.length c0, .int .i64 1048576] rfl (by (try simp only [List.map_toArray, List.map_cons, List.map_nil]); first | done | rfl | (simp only [List.length_drop, List.length_take]; rfl)) ?_; (with_reducible refine (laws_szLegS.calls _ _ l0 1048576 t360 _ ?side1 ?side2 A3.out).mono ?_); (case side1 => repeat (first | exact HR0.out | (with_reducible refine Kd.C_alloc ?_ _) | (with_reducible refine Kd.C_drewN ?_ _) | (with_reducible refine Kd.C_drew ?_))); (case side2 => exact HC0.out); rintro e w' ⟨rfl, ⟨nd, rfl⟩⟩; refine ⟨_, rfl, ?_⟩))
  go_ret
  exact ⟨by first | rfl | (simp [errW_none, errW_some] <;> rfl) | (simp [*, errW_none, errW_some] <;> rfl), by repeat (first | (with_reducible first | exact HB.out | apply below_alloc | apply pw_below_drewN | apply below_drew1) | exact HB.out)⟩
 ·
  rw [if_neg c4] at H
  have c4b0 : decide (t360 < 0) = false := decide_eq_false c4
  clear c4
  replace H := Option.bind_eq_some_iff.mp H
  obtain ⟨t361, A50, H⟩ := H
  replace H : ((spec_LargestResidual.f k t361 a1).bind fun bt364 => ((laws_toLegS.f k l0).bind fun t366 => ((impl_LargestResidual.f t366 a1).bind fun bt369 => (if bt369.1 = bt364.1 then (laws_FnExactLargestResidual.j0 k l0 t366 (bt369.2 != bt364.2)) else (laws_FnExactLargestResidual.j0 k l0 t366 true))))) = some r := H
  have A5 := Aside0.mk A50
  clear A50
  replace H := Option.bind_eq_some_iff.mp H
  obtain ⟨⟨t364, t365⟩, A60, H⟩ := H
  replace H : ((laws_toLegS.f k l0).bind fun t366 => ((impl_LargestResidual.f t366 a1).bind fun bt369 => (if bt369.1 = t364 then (laws_FnExactLargestResidual.j0 k l0 t366 (bt369.2 != t365)) else (laws_FnExactLargestResidual.j0 k l0 t366 true)))) = some r := H
  have A6 := Aside0.mk A60
  clear A60
  replace H := Option.bind_eq_some_iff.mp H
  obtain ⟨t366, A70, H⟩ := H
  replace H : ((impl_LargestResidual.f t366 a1).bind fun bt369 => (if bt369.1 = t364 then (laws_FnExactLargestResidual.j0 k l0 t366 (bt369.2 != t365)) else (laws_FnExactLargestResidual.j0 k l0 t366 true))) = some r := H
  have A7 := Aside0.mk A70
  clear A70
  replace H := Option.bind_eq_some_iff.mp H
  obtain ⟨⟨t369, t370⟩, A80, H⟩ := H
  replace H : (if t369 = t364 then (laws_FnExactLargestResidual.j0 k l0 t366 (t370 != t365)) else (laws_FnExactLargestResidual.j0 k l0 t366 true)) = some r := H
  have A8 := Aside0.mk A80
  clear A80
  have HC9 := Aside0.mk H
  clear H
  go_enter Tryd.func5, Tryd.ntmps5
  go_upto_region 8 with (first | ((with_reducible refine gate_callee (f := 8) rfl ?_); refine goesL_ (some 13) rfl rfl Tryd.func8 (by kernel_rfl) rfl #[.slice A0 l0.length c0, .int .i64 1048576] rfl (by (try simp only [List.map_toArray, List.map_cons, List.map_nil]); first | done | rfl | (simp only [List.length_drop, List.length_take]; rfl)) ?_; (with_reducible refine (laws_szLegS.calls _ _ l0 1048576 t360 _ ?side1 ?side2 A3.out).mono ?_); (case side1 => repeat (first | exact HR0.out | (with_reducible refine Kd.C_alloc ?_ _) | (with_reducible refine Kd.C_drewN ?_ _) | (with_reducible refine Kd.C_drew ?_))); (case side2 => exact HC0.out); rintro e w' ⟨rfl, ⟨nd, rfl⟩⟩; refine ⟨_, rfl, ?_⟩) | ((with_reducible refine gate_callee (f := 10) rfl ?_); refine goesL_ (some 18) rfl rfl Tryd.func10 (by kernel_rfl) rfl #[.slice A0 l0.length c0] rfl (by (try simp only [List.map_toArray, List.map_cons, List.map_nil]); first | done | rfl | (simp only [List.length_drop, List.length_take]; rfl)) ?_; (with_reducible refine (laws_toLegS.calls k _ _ l0 t361 _ ?side1 ?side2 A5.out).mono ?_); (case side1 => repeat (first | exact HR0.out | (with_reducible refine Kd.C_alloc ?_ _) | (with_reducible refine Kd.C_drewN ?_ _) | (with_reducible refine Kd.C_drew ?_))); (case side2 => exact HC0.out); rintro e w10 ⟨v362, rfl, ho0, hb⟩; refine ⟨_, rfl, ?_⟩; have n0_ := Aside0.mk (Kd.R_lower ho0 (below_size (by repeat (first | (with_reducible first | exact HB.out | apply below_alloc | apply pw_below_drewN | apply below_drew1) | exact HB.out)))); have n1_ := Aside0.mk (below_step (by repeat (first | (with_reducible first | exact HB.out | apply below_alloc | apply pw_below_drewN | apply below_drew1) | exact HB.out)) hb); clear HB; have HO363 := n0_; have HB := n1_; clear n0_ n1_; (try clear hb); (try clear hb2); (try clear hk); (try clear hi); (try clear ho0); obtain ⟨Ao11, co11, eo11⟩ := Kd.R_slice HO363.out; subst eo11) | ((with_reducible refine gate_callee (f := 15) rfl ?_); refine goesL_ (some 20) rfl rfl Tryd.func15 (by kernel_rfl) rfl #[.slice Ao11 t361.length co11, .int .i64 a1] rfl (by (try simp only [List.map_toArray, List.map_cons, List.map_nil]); first | done | rfl | (simp only [List.length_drop, List.length_take]; rfl)) ?_; (with_reducible refine (spec_LargestResidual.calls k _ _ t361 a1 t364 t365 _ ?side1 ?side2 A6.out ?sideL).mono ?_); (case sideL => exact HL.out.keep (by repeat (first | (with_reducible first | exact HB.out | apply below_alloc | apply pw_below_drewN | apply below_drew1) | exact HB.out))); (case side1 => repeat (first | exact (Kd.R_reads' HO363.out).2.2 | (with_reducible refine Kd.C_alloc ?_ _) | (with_reducible refine Kd.C_drewN ?_ _) | (with_reducible refine Kd.C_drew ?_))); (case side2 => exact (Kd.R_reads' HO363.out).2.1); rintro e w12 ⟨rfl, hb⟩; refine ⟨_, rfl, ?_⟩; have n0_ := Aside0.mk (Kd.R_below (by (with_reducible repeat (first | apply Kd.R_alloc | apply Kd.R_drewN | apply Kd.R_drew)); exact HO363.out) hb); have n1_ := Aside0.mk (below_step (by repeat (first | (with_reducible first | exact HB.out | apply below_alloc | apply pw_below_drewN | apply below_drew1) | exact HB.out)) hb); clear HO363; clear HB; have HO363 := n0_; have HB := n1_; clear n0_ n1_; (try clear hb); (try clear hb2); (try clear hk); (try clear hi)) | ((with_reducible refine gate_callee (f := 10) rfl ?_); refine goesL_ (some 24) rfl rfl Tryd.func10 (by kernel_rfl) rfl #[.slice A0 l0.length c0] rfl (by (try simp only [List.map_toArray, List.map_cons, List.map_nil]); first | done | rfl | (simp only [List.length_drop, List.length_take]; rfl)) ?_; (with_reducible refine (laws_toLegS.calls k _ _ l0 t366 _ ?side1 ?side2 A7.out).mono ?_); (case side1 => repeat (first | exact (Kd.C_below HR0.out HB.out) | (with_reducible refine Kd.C_alloc ?_ _) | (with_reducible refine Kd.C_drewN ?_ _) | (with_reducible refine Kd.C_drew ?_))); (case side2 => exact HC0.out); rintro e w13 ⟨v367, rfl, ho0, hb⟩; refine ⟨_, rfl, ?_⟩; have n0_ := Aside0.mk (Kd.R_elder' (by (with_reducible repeat (first | apply Kd.R_alloc | apply Kd.R_drewN | apply Kd.R_drew)); exact HO363.out) (Kd.R_base ho0) hb); have n1_ := Aside0.mk (Kd.R_lower (Kd.R_new' ho0 (Kd.R_lt (by (with_reducible repeat (first | apply Kd.R_alloc | apply Kd.R_drewN | apply Kd.R_drew)); exact HO363.out))) (below_size (by repeat (first | (with_reducible first | exact HB.out | apply below_alloc | apply pw_below_drewN | apply below_drew1) | exact HB.out)))); have n2_ := Aside0.mk (below_step (by repeat (first | (with_reducible first | exact HB.out | apply below_alloc | apply pw_below_drewN | apply below_drew1) | exact HB.out)) hb); clear HO363; clear HB; have HO363 := n0_; have HO368 := n1_; have HB := n2_; clear n0_ n1_ n2_; (try clear hb); (try clear hb2); (try clear hk); (try clear hi); (try clear ho0); obtain ⟨Ao14, co14, eo14⟩ := Kd.R_slice HO368.out; subst eo14) | ((with_reducible refine gate_callee (f := 16) rfl ?_); refine goesL_ (some 28) rfl rfl Tryd.func16 (by kernel_rfl) rfl #[.slice Ao14 t366.length co14, .int .i64 a1] rfl (by (try simp only [List.map_toArray, List.map_cons, List.map_nil]); first | done | rfl | (simp only [List.length_drop, List.length_take]; rfl)) ?_; (with_reducible refine (impl_LargestResidual.calls _ _ t366 a1 t369 t370 _ ?side1 ?side2 A8.out ?sideL).mono ?_); (case sideL => exact HL.out.keep (by repeat (first | (with_reducible first | exact HB.out | apply below_alloc | apply pw_below_drewN | apply below_drew1) | exact HB.out))); (case side1 => repeat (first | exact (Kd.R_reads' HO368.out).2.2 | (with_reducible refine Kd.C_alloc ?_ _) | (with_reducible refine Kd.C_drewN ?_ _) | (with_reducible refine Kd.C_drew ?_))); (case side2 => exact (Kd.R_reads' HO368.out).2.1); rintro e w15 ⟨rfl, hb⟩; refine ⟨_, rfl, ?_⟩; have n0_ := Aside0.mk (Kd.R_below (by (with_reducible repeat (first | apply Kd.R_alloc | apply Kd.R_drewN | apply Kd.R_drew)); exact HO363.out) hb); have n1_ := Aside0.mk (Kd.R_below (by (with_reducible repeat (first | apply Kd.R_alloc | apply Kd.R_drewN | apply Kd.R_drew)); exact HO368.out) hb); have n2_ := Aside0.mk (below_step (by repeat (first | (with_reducible first | exact HB.out | apply below_alloc | apply pw_below_drewN | apply below_drew1) | exact HB.out)) hb); clear HO363; clear HO368; clear HB; have HO363 := n0_; have HO368 := n1_; have HB := n2_; clear n0_ n1_ n2_; (try clear hb); (try clear hb2); (try clear hk); (try clear hi)))
  (try simp only [Act.put, List.setIfInBounds_toArray, List.set_cons_zero, List.set_cons_succ])
  go_cut [38] (fun v38 wc => ∃ (kq : Nat) (x38_8 : Bool), v38 = .bool x38_8 ∧ Aside0 (laws_FnExactLargestResidual.j0 kq l0 t366 x38_8 = some r) ∧ Aside0 (kq ≤ k) ∧ Aside0 (Kd.R k50 50 wc w.heap.size (fun _ => True) (.slice Ao14 t366.length co14) t366) ∧ Aside0 (Below w.heap.size w wc))
  case first =>
   have H := HC9.out
   clear HC9
   by_cases c16 : t369 = t364
   ·
    rw [if_pos c16] at H
    have c16b0 : (t369 == t364) = true := beq_iff_eq.mpr c16
    have c16b1 : (t369 != t364) = false := bne_eq_false_iff_eq.mpr c16
    clear c16
    (first | rw [c16b0] | (simp only [i64_w, i32_w]; rw [c16b0]) | skip)
    have H' := Aside0.mk H
    clear H
    go_wp2
    go_meet
    case rel => exact ⟨_, ((t370 != t365)), (by first | rfl | (simp; done) | (simp [*]; done)), H', ⟨by first | omega | exact Nat.le_refl _⟩, ⟨by (with_reducible repeat (first | apply Kd.R_alloc | apply Kd.R_drewN | apply Kd.R_drew)); exact Kd.R_mono HO368.out (fun _ hk => trivial)⟩, ⟨by repeat (first | (with_reducible first | exact HB.out | apply below_alloc | apply pw_below_drewN | apply below_drew1) | exact HB.out)⟩⟩
   ·
    rw [if_neg c16] at H
    have c16b0 : (t369 == t364) = false := beq_eq_false_iff_ne.mpr c16
    have c16b1 : (t369 != t364) = true := bne_iff_ne.mpr c16
    (first | rw [c16b0] | (simp only [i64_w, i32_w]; rw [c16b0]) | skip)
    have H' := Aside0.mk H
    clear H
    go_wp2
    go_meet
    case rel => exact ⟨_, (true), (by first | rfl | (simp; done) | (simp [*]; done)), H', ⟨by first | omega | exact Nat.le_refl _⟩, ⟨by (with_reducible repeat (first | apply Kd.R_alloc | apply Kd.R_drewN | apply Kd.R_drew)); exact Kd.R_mono HO368.out (fun _ hk => trivial)⟩, ⟨by repeat (first | (with_reducible first | exact HB.out | apply below_alloc | apply pw_below_drewN | apply below_drew1) | exact HB.out)⟩⟩
  case rest =>
   clear HC9
   try clear c1
   try clear p2
   try clear c4
   try clear c4b0
   try clear c5
   try clear c8
   try clear c10
   try clear c15
   try clear c16
   try clear c16b0
   try clear c16b1
   obtain ⟨kq, x38_8, rfl, HA, HJ8, HO_8, HB⟩ := hcut
   cases kq with
   | zero => exact absurd HA.out (by simp [laws_FnExactLargestResidual.j0])
   | succ kj8 =>
    have H := HA.out
    clear HA
    simp only [laws_FnExactLargestResidual.j0] at H
    by_cases c17 : x38_8 = true
    ·
     subst c17
     have H1 : (some false) = some r := by rw [if_pos rfl] at H; exact H
     clear H
     have H := H1
     clear H1
     obtain rfl := Option.some.inj H
     go_wp2
     go_ret
     exact ⟨by first | rfl | (simp [errW_none, errW_some] <;> rfl) | (simp [*, errW_none, errW_some] <;> rfl), by repeat (first | (with_reducible first | exact HB.out | apply below_alloc | apply pw_below_drewN | apply below_drew1) | exact HB.out)⟩
    ·
     replace c17 := Bool.eq_false_iff.mpr c17
     subst c17
     have H1 : ((laws_toLegS.f kj8 l0).bind fun t371 => ((laws_eqLegS.f kj8 t366 t371).bind fun t374 => (if t374 = true then (some true) else (some false)))) = some r := by rw [if_neg (show ¬ (false = true) by decide)] at H; exact H
     clear H
     have H := H1
     clear H1
     replace H := Option.bind_eq_some_iff.mp H
     obtain ⟨t371, A180, H⟩ := H
     replace H : ((laws_eqLegS.f kj8 t366 t371).bind fun t374 => (if t374 = true then (some true) else (some false))) = some r := H
     have A18 := Aside0.mk A180
     clear A180
     replace H := Option.bind_eq_some_iff.mp H
     obtain ⟨t374, A190, H⟩ := H
     replace H : (if t374 = true then (some true) else (some false)) = some r := H
     have A19 := Aside0.mk A190
     clear A190
     by_cases c20 : t374 = true
     ·
      subst c20
      have H1 : (some true) = some r := by rw [if_pos rfl] at H; exact H
      clear H
      have H := H1
      clear H1
      obtain rfl := Option.some.inj H
      go_wp2_with (first | ((with_reducible refine gate_callee (f := 10) rfl ?_); refine goesL_ (some 41) rfl rfl Tryd.func10 (by kernel_rfl) rfl #[.slice A0 l0.length c0] rfl (by (try simp only [List.map_toArray, List.map_cons, List.map_nil]); first | done | rfl | (simp only [List.length_drop, List.length_take]; rfl)) ?_; (with_reducible refine (laws_toLegS.calls kj8 _ _ l0 t371 _ ?side1 ?side2 A18.out).mono ?_); (case side1 => repeat (first | exact (Kd.C_below HR0.out HB.out) | (with_reducible refine Kd.C_alloc ?_ _) | (with_reducible refine Kd.C_drewN ?_ _) | (with_reducible refine Kd.C_drew ?_))); (case side2 => exact HC0.out); rintro e w21 ⟨v372, rfl, ho0, hb⟩; refine ⟨_, rfl, ?_⟩; have n0_ := Aside0.mk (Kd.R_elder' (by (with_reducible repeat (first | apply Kd.R_alloc | apply Kd.R_drewN | apply Kd.R_drew)); exact HO_8.out) (Kd.R_base ho0) hb); have n1_ := Aside0.mk (Kd.R_lower (Kd.R_new' ho0 (Kd.R_lt (by (with_reducible repeat (first | apply Kd.R_alloc | apply Kd.R_drewN | apply Kd.R_drew)); exact HO_8.out))) (below_size (by repeat (first | (with_reducible first | exact HB.out | apply below_alloc | apply pw_below_drewN | apply below_drew1) | exact HB.out)))); have n2_ := Aside0.mk (below_step (by repeat (first | (with_reducible first | exact HB.out | apply below_alloc | apply pw_below_drewN | apply below_drew1) | exact HB.out)) hb); clear HO_8; clear HB; have HO_8 := n0_; have HO373 := n1_; have HB := n2_; clear n0_ n1_ n2_; (try clear hb); (try clear hb2); (try clear hk); (try clear hi); (try clear ho0); obtain ⟨Ao22, co22, eo22⟩ := Kd.R_slice HO373.out; subst eo22) | ((with_reducible refine gate_callee (f := 12) rfl ?_); refine goesL_ (some 42) rfl rfl Tryd.func12 (by kernel_rfl) rfl #[.slice Ao14 t366.length co14, .slice Ao22 t371.length co22] rfl (by (try simp only [List.map_toArray, List.map_cons, List.map_nil]); first | done | rfl | (simp only [List.length_drop, List.length_take]; rfl)) ?_; (with_reducible refine (laws_eqLegS.calls kj8 _ _ t366 _ _ t371 true _ ?side1 ?side2 ?side3 ?side4 A19.out).mono ?_); (case side1 => repeat (first | exact (Kd.R_reads' HO_8.out).2.2 | (with_reducible refine Kd.C_alloc ?_ _) | (with_reducible refine Kd.C_drewN ?_ _) | (with_reducible refine Kd.C_drew ?_))); (case side2 => exact (Kd.R_reads' HO_8.out).2.1); (case side3 => repeat (first | exact (Kd.R_reads' HO373.out).2.2 | (with_reducible refine Kd.C_alloc ?_ _) | (with_reducible refine Kd.C_drewN ?_ _) | (with_reducible refine Kd.C_drew ?_))); (case side4 => exact (Kd.R_reads' HO373.out).2.1); rintro e w23 ⟨rfl, hb⟩; refine ⟨_, rfl, ?_⟩; have n0_ := Aside0.mk (Kd.R_below (by (with_reducible repeat (first | apply Kd.R_alloc | apply Kd.R_drewN | apply Kd.R_drew)); exact HO_8.out) hb); have n1_ := Aside0.mk (Kd.R_below (by (with_reducible repeat (first | apply Kd.R_alloc | apply Kd.R_drewN | apply Kd.R_drew)); exact HO373.out) hb); have n2_ := Aside0.mk (below_step (by repeat (first | (with_reducible first | exact HB.out | apply below_alloc | apply pw_below_drewN | apply below_drew1) | exact HB.out)) hb); clear HO_8; clear HO373; clear HB; have HO_8 := n0_; have HO373 := n1_; have HB := n2_; clear n0_ n1_ n2_; (try clear hb); (try clear hb2); (try clear hk); (try clear hi)))
      go_ret
      exact ⟨by first | rfl | (simp [errW_none, errW_some] <;> rfl) | (simp [*, errW_none, errW_some] <;> rfl), by repeat (first | (with_reducible first | exact HB.out | apply below_alloc | apply pw_below_drewN | apply below_drew1) | exact HB.out)⟩
     ·
      replace c20 := Bool.eq_false_iff.mpr c20
      subst c20
      have H1 : (some false) = some r := by rw [if_neg (show ¬ (false = true) by decide)] at H; exact H
      clear H
      have H := H1
      clear H1
      obtain rfl := Option.some.inj H
      go_wp2_with (first | ((with_reducible refine gate_callee (f := 10) rfl ?_); refine goesL_ (some 41) rfl rfl Tryd.func10 (by kernel_rfl) rfl #[.slice A0 l0.length c0] rfl (by (try simp only [List.map_toArray, List.map_cons, List.map_nil]); first | done | rfl | (simp only [List.length_drop, List.length_take]; rfl)) ?_; (with_reducible refine (laws_toLegS.calls kj8 _ _ l0 t371 _ ?side1 ?side2 A18.out).mono ?_); (case side1 => repeat (first | exact (Kd.C_below HR0.out HB.out) | (with_reducible refine Kd.C_alloc ?_ _) | (with_reducible refine Kd.C_drewN ?_ _) | (with_reducible refine Kd.C_drew ?_))); (case side2 => exact HC0.out); rintro e w24 ⟨v372, rfl, ho0, hb⟩; refine ⟨_, rfl, ?_⟩; have n0_ := Aside0.mk (Kd.R_elder' (by (with_reducible repeat (first | apply Kd.R_alloc | apply Kd.R_drewN | apply Kd.R_drew)); exact HO_8.out) (Kd.R_base ho0) hb); have n1_ := Aside0.mk (Kd.R_lower (Kd.R_new' ho0 (Kd.R_lt (by (with_reducible repeat (first | apply Kd.R_alloc | apply Kd.R_drewN | apply Kd.R_drew)); exact HO_8.out))) (below_size (by repeat (first | (with_reducible first | exact HB.out | apply below_alloc | apply pw_below_drewN | apply below_drew1) | exact HB.out)))); have n2_ := Aside0.mk (below_step (by repeat (first | (with_reducible first | exact HB.out | apply below_alloc | apply pw_below_drewN | apply below_drew1) | exact HB.out)) hb); clear HO_8; clear HB; have HO_8 := n0_; have HO373 := n1_; have HB := n2_; clear n0_ n1_ n2_; (try clear hb); (try clear hb2); (try clear hk); (try clear hi); (try clear ho0); obtain ⟨Ao25, co25, eo25⟩ := Kd.R_slice HO373.out; subst eo25) | ((with_reducible refine gate_callee (f := 12) rfl ?_); refine goesL_ (some 42) rfl rfl Tryd.func12 (by kernel_rfl) rfl #[.slice Ao14 t366.length co14, .slice Ao25 t371.length co25] rfl (by (try simp only [List.map_toArray, List.map_cons, List.map_nil]); first | done | rfl | (simp only [List.length_drop, List.length_take]; rfl)) ?_; (with_reducible refine (laws_eqLegS.calls kj8 _ _ t366 _ _ t371 false _ ?side1 ?side2 ?side3 ?side4 A19.out).mono ?_); (case side1 => repeat (first | exact (Kd.R_reads' HO_8.out).2.2 | (with_reducible refine Kd.C_alloc ?_ _) | (with_reducible refine Kd.C_drewN ?_ _) | (with_reducible refine Kd.C_drew ?_))); (case side2 => exact (Kd.R_reads' HO_8.out).2.1); (case side3 => repeat (first | exact (Kd.R_reads' HO373.out).2.2 | (with_reducible refine Kd.C_alloc ?_ _) | (with_reducible refine Kd.C_drewN ?_ _) | (with_reducible refine Kd.C_drew ?_))); (case side4 => exact (Kd.R_reads' HO373.out).2.1); rintro e w26 ⟨rfl, hb⟩; refine ⟨_, rfl, ?_⟩; have n0_ := Aside0.mk (Kd.R_below (by (with_reducible repeat (first | apply Kd.R_alloc | apply Kd.R_drewN | apply Kd.R_drew)); exact HO_8.out) hb); have n1_ := Aside0.mk (Kd.R_below (by (with_reducible repeat (first | apply Kd.R_alloc | apply Kd.R_drewN | apply Kd.R_drew)); exact HO373.out) hb); have n2_ := Aside0.mk (below_step (by repeat (first | (with_reducible first | exact HB.out | apply below_alloc | apply pw_below_drewN | apply below_drew1) | exact HB.out)) hb); clear HO_8; clear HO373; clear HB; have HO_8 := n0_; have HO373 := n1_; have HB := n2_; clear n0_ n1_ n2_; (try clear hb); (try clear hb2); (try clear hk); (try clear hi)))
      go_ret
      exact ⟨by first | rfl | (simp [errW_none, errW_some] <;> rfl) | (simp [*, errW_none, errW_some] <;> rfl), by repeat (first | (with_reducible first | exact HB.out | apply below_alloc | apply pw_below_drewN | apply below_drew1) | exact HB.out)⟩

end Go.Proofs.YthplhbcafihacaaDoor.A

/- Slices of legs that a law copies and compares. No conditions. -/
namespace Go.Proofs.YthplhbcafihacaaDoor.Legs
open Go.RowKit Go.Proofs.YthplhbcafihacaaDoorW.PrintWords Go.Proofs.YthplhbcafihacaaDoor.Plain Go.Proofs.YthplhbcafihacaaDoor.A
set_option linter.unusedVariables false
set_option linter.unusedSimpArgs false
def cv (x : S53) : S50 := ⟨x.f0, x.f1, x.f2, x.f3, x.f4⟩
theorem toLegs_ev (l : List (S53)) (hb : l.length ≤ 7036874417766) : Ev (fun k => laws_toLegS.f k l) (l.map cv) := by
  unfold laws_toLegS.f
  refine Ev.pos (by omega) ?_
  refine Ev.pos (by omega) ?_
  exact copy_all laws_toLegS.l0 cv z53 _ (fun k x0 x3 x4 => by simp only [laws_toLegS.l0, laws_toLeg.f, Option.bind_some]; rfl) l (by omega)
theorem eqLegs_ev (l : List (S50)) (hb : l.length ≤ 140737488351232) : Ev (fun k => laws_eqLegS.f k l l) true := by
  unfold laws_eqLegS.f
  refine Ev.pos rfl ?_
  exact eq_all laws_eqLegS.l0 (fun k x0 x4 h0 => by
    simp only [laws_eqLegS.l0, laws_eqLeg.f, if_true, Option.bind_some]
    by_cases h : x4 < (x0.length : Int)
    · rw [if_pos h, if_pos h0, if_pos h, if_pos h]
    · rw [if_neg h, if_neg h]) l hb
theorem szLegs_eq (l : List (S53)) (hb : l.length ≤ 140737488351232) : laws_szLegS.f l 1048576 = some (if l.length ≤ 1048576 then 1048576 - (l.length : Int) else -1) := by
  unfold laws_szLegS.f
  rw [w64 (by omega) (by omega)]
  by_cases h : l.length ≤ 1048576
  · rw [if_neg (by omega), if_pos h]
  · rw [if_pos (by omega), if_neg h]
end Go.Proofs.YthplhbcafihacaaDoor.Legs

/- The printed reductions (the program's and the reference's) are the lowest terms. -/
namespace Go.Proofs.YthplhbcafihacaaDoor.Net
open Go.RowKit Go.Proofs.YthplhbcafihacaaDoorW.PrintWords Go.Proofs.YthplhbcafihacaaDoor.Plain Go.Proofs.YthplhbcafihacaaDoor.A Go.Proofs.YthplhbcafihacaaDoor.Frac
set_option linter.unusedVariables false
set_option linter.unusedSimpArgs false
end Go.Proofs.YthplhbcafihacaaDoor.Net

/- The reference's residual of a leg, in plain. -/
namespace Go.Proofs.YthplhbcafihacaaDoor.Net
open Go.RowKit Go.Proofs.YthplhbcafihacaaDoorW.PrintWords Go.Proofs.YthplhbcafihacaaDoor.Plain Go.Proofs.YthplhbcafihacaaDoor.A
set_option linter.unusedVariables false
set_option linter.unusedSimpArgs false
theorem l9Axis_ev (ls : L) (ax : Int) (hb : ls.length ≤ 140737488351232) : Ev (fun k => spec_l9Axis.f k ls ax) (decide (legsB ls = true ∧ (0 ≤ ax ∧ ax ≤ 2))) := by
  refine Ev.bind (l4Legs_ev ls hb) ?_
  by_cases hv : legsB ls = true
  · refine Ev.pos hv ?_
    rw [show spec_l1In.f ax 0 2 = some (decide (0 ≤ ax ∧ ax ≤ 2)) from within_eq ax 0 2, Option.bind_some, show decide (legsB ls = true ∧ (0 ≤ ax ∧ ax ≤ 2)) = decide (0 ≤ ax ∧ ax ≤ 2) from by simp [hv]]
    exact Ev.now _
  · rw [decide_eq_false (fun e => hv e.1)]
    exact Ev.neg hv (Ev.now _)
theorem specRest_eq (x : S50) (h : Good x) (axis : Int) (h0 : 0 ≤ axis) (h2 : axis ≤ 2) (cs : List Int) (h8 : cs.length = 8) (den : Int) : spec_l9Rest.f x.f0 x.f1 x.f2 x.f3 x.f4 axis cs den = some (resM x axis cs den) := by
  unfold spec_l9Rest.f
  rw [measure_eq x h axis h0 h2, Option.bind_some]
  obtain ⟨⟨a0, a8⟩, ⟨d0, d8⟩, _⟩ := h
  rw [if_pos (by omega), if_pos (by omega), if_pos (by omega), if_pos (by omega)]
  rfl
theorem specRest {ls : L} (hn : ls.length ≤ 12) (hg : ∀ x ∈ ls, Good x) (ax : Int) (h0 : 0 ≤ ax) (h2 : ax ≤ 2) {i : Int} (hi : i ∈ usedL ls) : spec_l9Rest.f (rd_T50 ls i).f0 (rd_T50 ls i).f1 (rd_T50 ls i).f2 (rd_T50 ls i).f3 (rd_T50 ls i).f4 ax (coL ls ax) (treesM ls) = some (nT ls ax i) := by
  have hr := usedL_range ls i hi
  obtain ⟨m, rfl⟩ := Int.eq_ofNat_of_zero_le hr.1
  have hx : Good (leg ls (m : Int)) := hg _ (leg_mem (by omega))
  have h := specRest_eq (leg ls (m : Int)) hx ax h0 h2 (coL ls ax) (coL_len ls ax) (treesM ls)
  rw [res_all hn hg ax hi] at h
  exact h
end Go.Proofs.YthplhbcafihacaaDoor.Net

/- The law FnExactLargestResidual, as a plain statement: the program's LargestResidual answers what the reference's answers. Conditions: those of the row's own reading. -/
namespace Go.Proofs.YthplhbcafihacaaDoor.Pure
open Go.RowKit Go.Proofs.YthplhbcafihacaaDoorW.PrintWords Go.Proofs.YthplhbcafihacaaDoor.Plain Go.Proofs.YthplhbcafihacaaDoor.A Go.Proofs.YthplhbcafihacaaDoor.Legs
set_option linter.unusedVariables false
set_option linter.unusedSimpArgs false
theorem large_loop {ls : Net.L} (hn : ls.length ≤ 12) (hg : ∀ x ∈ ls, Net.Good x) (ax : Int) (h0 : 0 ≤ ax) (h2 : ax ≤ 2) : ∀ (d j : Nat), j + d = (Net.usedL ls).length →
    Ev (fun k => spec_LargestResidual.l0 k ls ax (Net.usedL ls) (Net.treesM ls) (Net.coL ls ax) (bigTo ls ax j).1 (bigTo ls ax j).2 (j : Int)) ((bigTo ls ax (Net.usedL ls).length).1, true) := by
  have hul := Net.usedL_len ls
  intro d
  induction d with
  | zero =>
    intro j hj
    obtain rfl : j = (Net.usedL ls).length := by omega
    refine Ev.step (f := fun _ => some ((bigTo ls ax (Net.usedL ls).length).1, true)) (fun k => ?_) (Ev.now _)
    simp only [spec_LargestResidual.l0]
    rw [if_neg (by omega)]
  | succ d ih =>
    intro j hj
    have hlt : j < (Net.usedL ls).length := by omega
    have h := ih (j + 1) (by omega)
    have hm : rd (Net.usedL ls) (j : Int) ∈ Net.usedL ls := by rw [Net.rd_get _ j hlt]; exact List.getElem_mem hlt
    have hr := Net.usedL_range ls _ hm
    have hs := Net.specRest hn hg ax h0 h2 hm
    have ha := absI_spec (Net.nT_bound hn hg ax hm)
    refine Ev.step (fun k => ?_) h
    simp only [spec_LargestResidual.l0]
    rw [if_pos (by omega), if_pos (by omega), if_pos hr.1, if_pos hr.2, hs, Option.bind_some, ha, Option.bind_some, w64 (x := (j : Int) + 1) (by omega) (by omega)]
    by_cases hgt : absI (Net.nT ls ax (rd (Net.usedL ls) (j : Int))) > (bigTo ls ax j).2
    · rw [if_pos hgt, show bigTo ls ax (j + 1) = (rd (Net.usedL ls) (j : Int), absI (Net.nT ls ax (rd (Net.usedL ls) (j : Int)))) from by conv => lhs; unfold bigTo; rw [if_pos hgt]]
      rfl
    · rw [if_neg hgt, show bigTo ls ax (j + 1) = bigTo ls ax j from by conv => lhs; unfold bigTo; rw [if_neg hgt]]
      rfl
theorem largest_ev (ls : Net.L) (ax : Int) (hb : ls.length ≤ 140737488351232) : Ev (fun k => spec_LargestResidual.f k ls ax) (bigM ls ax) := by
  have hstop : Ev (fun k => spec_LargestResidual.j0 k ls ax true) (0, false) :=
    Ev.step (f := fun _ => some (0, false)) (fun k => by simp only [spec_LargestResidual.j0, if_true]) (Ev.now _)
  refine Ev.bind (Net.l9Axis_ev ls ax hb) ?_
  unfold bigM
  by_cases hv : Net.legsB ls = true ∧ (0 ≤ ax ∧ ax ≤ 2)
  case neg =>
    rw [if_neg hv]
    exact Ev.neg (by rw [decide_eq_false hv]; decide) hstop
  rw [if_pos hv]
  have h' := Net.legsB_iff.mp hv.1
  have hlegs : Ev (fun k => spec_l9Legs.f k ls) (Net.usedL ls) := Net.l9Legs_ev h'.2 h'.1
  refine Ev.pos (decide_eq_true hv) (Ev.bind hlegs ?_)
  have ht : spec_l9Trees.f ls = some (Net.treesM ls) := by unfold spec_l9Trees.f; rw [if_pos hv.1]
  have ha : spec_l9Adjust.f ls ax = some (Net.coL ls ax) := by unfold spec_l9Adjust.f; rw [if_pos hv]
  by_cases he : (Net.usedL ls).length = 0
  · rw [he, show ((((0 : Nat) : Int)) == 0) = true from rfl]
    exact hstop
  · obtain ⟨m, hm⟩ : ∃ m, (Net.usedL ls).length = m + 1 := ⟨(Net.usedL ls).length - 1, by omega⟩
    have hl := large_loop h'.2 h'.1 ax hv.2.1 hv.2.2 (Net.usedL ls).length 0 (by omega)
    have hsz := bigTo_size ls ax m
    rw [← hm] at hsz
    rw [decide_eq_true hsz, show (((Net.usedL ls).length : Int) == 0) = false from by rw [beq_eq_false_iff_ne]; omega]
    refine Ev.step (f := fun k => (spec_l9Legs.f k ls).bind fun t => (spec_l9Trees.f ls).bind fun t' => (spec_l9Adjust.f ls ax).bind fun t'' => spec_LargestResidual.l0 k ls ax t t' t'' 0 (-1) 0) (fun k => ?_) (Ev.bind hlegs (Ev.bindc ht (Ev.bindc ha hl)))
    simp only [spec_LargestResidual.j0, Bool.false_eq_true, if_false]
theorem FnExactLargestResidual (l0 : List (S53)) (a1 : Int) (hb : l0.length * 40 ≤ 140737488351232) (_ : ∀ x ∈ l0, (Lit.int .i64 x.f0).wf = true ∧ (Lit.int .i64 x.f1).wf = true ∧ (Lit.int .i64 x.f2).wf = true ∧ (Lit.int .i64 x.f3).wf = true ∧ (Lit.int .i64 x.f4).wf = true) (_ : (Lit.int .i64 a1).wf = true) : ∃ k, laws_FnExactLargestResidual.f k l0 a1 = some true := by
  refine Ev.rounds ?_
  have hl : (l0.map cv).length = l0.length := by simp
  have hsz := szLegs_eq l0 (by omega)
  by_cases c : l0.length ≤ 1048576
  · rw [if_pos c] at hsz
    have hs := largest_ev (l0.map cv) a1 (by omega)
    have hi : impl_LargestResidual.f (l0.map cv) a1 = some (bigM (l0.map cv) a1) := by unfold impl_LargestResidual.f; rw [if_pos (by omega)]
    generalize bigM (l0.map cv) a1 = B at *
    obtain ⟨b1, b2⟩ := B
    have hlegs := toLegs_ev l0 (by omega)
    refine Ev.bindc hsz (Ev.neg (by omega) ?_)
    refine Ev.bind hlegs (Ev.bind hs (Ev.bind hlegs (Ev.bindc hi (Ev.pos rfl ?_))))
    refine Ev.step (f := fun k => (laws_toLegS.f k l0).bind fun t => (laws_eqLegS.f k (l0.map cv) t).bind fun t' => if t' = true then some true else some false) (fun k => ?_) ?_
    · simp only [laws_FnExactLargestResidual.j0, bne_self_eq_false, Bool.false_eq_true, if_false]
    · exact Ev.bind hlegs (Ev.bind (eqLegs_ev _ (by omega)) (Ev.pos rfl (Ev.now _)))
  · rw [if_neg c] at hsz
    exact Ev.bindc hsz (Ev.pos (by decide) (Ev.now _))
end Go.Proofs.YthplhbcafihacaaDoor.Pure

/- General laws by which a law's arguments are opened: a slice of structs whose fields are integers or bools, as a row of the print's kinds; a struct by value. No conditions. -/
namespace Go.Proofs.YthplhbcafihacaaDoor.Opens
open Go.ChangeShapes Go.WideShapes Go.Deep Go.RowKit Go.Proofs.YthplhbcafihacaaDoorW.PrintWords

theorem list_of {α : Type} {P : Nat → α → Prop} : ∀ (n : Nat), (∀ i, i < n → ∃ x, P i x) → ∃ xs : List α, xs.length = n ∧ ∀ i x, xs[i]? = some x → P i x
  | 0, _ => ⟨[], rfl, fun i x h => by simp at h⟩
  | n + 1, h => by
    obtain ⟨xs, hl, hx⟩ := list_of n (fun i hi => h i (Nat.lt_succ_of_lt hi))
    obtain ⟨y, hy⟩ := h n (Nat.lt_succ_self n)
    refine ⟨xs ++ [y], by simp [hl], fun i x hi => ?_⟩
    by_cases hlt : i < xs.length
    · rw [List.getElem?_append_left hlt] at hi
      exact hx i x hi
    · rw [List.getElem?_append_right (by omega)] at hi
      have h0 : i - xs.length = 0 := by
        have := (List.getElem?_eq_some_iff.1 hi).1
        simp at this
        omega
      rw [h0] at hi
      simp at hi
      subst hi
      have : i = n := by omega
      subst this
      exact hy

section
variable {H : Type} {enc : TypeId × Value → H} {P : Program} {w : World} {base : Nat} {spare : Nat → Bool} {held : Bool}
/-- A slice of structs, opened: the list of what its elements are, each by the kind's own reading. -/
theorem open_row {α : Type} (d : Kd α) {Q : α → Prop} {t e : TypeId} {a : Option Addr} {len cap : Nat} {dd : DataW H} {ps : List MemPlace} (ht : P.underlying t = some (.slice e)) (hC : P.cellsOf e = d.sz)
    (hd : ∀ n cs y, DataW.trod enc P w base spare held n e cs = some y → ∃ x, d.K w x cs ∧ Q x)
    (h : DataW.Trod enc P w base spare held t (.slice a len cap) dd ps) : ∃ xs : List α, xs.length = len ∧ len ≤ cap ∧ d.C w a len xs ∧ ∀ x ∈ xs, Q x := by
  obtain ⟨fuel, hf⟩ := h
  rcases open_slice ht hf with ⟨hcs, _⟩ | ⟨x, l, c, m, n, D, Pl, hcs, _, hl, hm, hmm, _, hi⟩
  · simp [Value.cells] at hcs
    obtain ⟨rfl, rfl, rfl⟩ := hcs
    exact ⟨[], rfl, Nat.le_refl _, ⟨rfl, by omega, fun h => by omega⟩, fun x hx => by simp at hx⟩
  · simp [Value.cells] at hcs
    obtain ⟨rfl, rfl, rfl⟩ := hcs
    have hle : len ≤ m := by subst hmm; split <;> omega
    obtain ⟨xs, hxl, hx⟩ := list_of (P := fun i (z : α) => Q z ∧ ∃ cs, d.K w z cs ∧ w.cells? base (x.add (i * d.sz)) d.sz = some cs) len (fun i hil => by
      obtain ⟨cs, h1, h2⟩ := hi i (by omega)
      rw [hC] at h1
      obtain ⟨z, h3, h4⟩ := hd _ _ _ h2
      exact ⟨z, h4, cs, h3, h1⟩)
    refine ⟨xs, hxl, hl, ⟨hxl, by unfold maxLen at hm; omega, fun _ => ⟨x, rfl, fun j p hp => ?_⟩⟩, fun z hz => ?_⟩
    · obtain ⟨_, cs, h1, h2⟩ := hx j p hp
      obtain ⟨_, hlen, hat⟩ := World.cells?_some h2
      refine ⟨cs, hlen, h1, fun i u hu => ?_⟩
      have hil : i < d.sz := by have := (List.getElem?_eq_some_iff.1 hu).1; omega
      rw [← Go.Deep.add_add, hat i hil, hu]
    · obtain ⟨j, hj⟩ := List.getElem?_of_mem hz
      exact (hx j z hj).1

theorem sized_row {t e : TypeId} {a : Option Addr} {len cap : Nat} {d : DataW H} {ps : List MemPlace} {ts : List TypeId} {ds : List (DataW H)} {j : Nat}
    (hsz : (DataW.weightsEach P ts ds).all (· ≤ reachBytes) = true) (ht : ts[j]? = some t) (hd : ds[j]? = some d) (hu : P.underlying t = some (.slice e)) {B : Nat} (hB : P.bytesOf e = B)
    (h : DataW.Trod enc P w base spare held t (.slice a len cap) d ps) : len * B ≤ 140737488351232 := by
  obtain ⟨fuel, hf⟩ := h
  rcases open_slice hu hf with ⟨hcs, _⟩ | ⟨x, l, c, m, n, D, Pl, hcs, _, hl, hm, hmm, hx, hi⟩
  · simp [Value.cells] at hcs
    obtain ⟨rfl, rfl, rfl⟩ := hcs
    simp
  · simp [Value.cells] at hcs
    obtain ⟨rfl, rfl, rfl⟩ := hcs
    obtain ⟨hx, _⟩ := Prod.mk.inj hx
    subst hx
    have z := sized_slice hsz ht hd hu
    rw [hB] at z
    simp only [List.length_map, List.length_range] at z
    have hle : len ≤ m := by subst hmm; split <;> omega
    rw [show len + (m - len) = m by omega] at z
    exact Nat.le_trans (Nat.mul_le_mul_right _ hle) z

theorem one_field {f : Field} {cs : List Value} {o c : Nat} (ho : f.offset = o) (hc : P.cellsOf f.type = c) {n : Nat} {y : Option (DataW H × List MemPlace)} (h : DataW.trod enc P w base spare held n f.type ((cs.drop f.offset).take (P.cellsOf f.type)) = y) : DataW.trod enc P w base spare held n f.type ((cs.drop o).take c) = y := by rw [← ho, ← hc]; exact h
end
theorem len5 {α : Type} : ∀ {l : List α}, l.length = 5 → ∃ x0 x1 x2 x3 x4, l = [x0, x1, x2, x3, x4]
  | [x0, x1, x2, x3, x4], _ => ⟨x0, x1, x2, x3, x4, rfl⟩
end Go.Proofs.YthplhbcafihacaaDoor.Opens

namespace Go.Proofs.YthplhbcafihacaaDoor.fnExactLargestResidual
open Go.ChangeShapes Go.WideShapes Go.ChangeAt Go.RowKit
open Go.ChangeMaps (open_string shut_string)
open Go.Proofs.YthplhbcafihacaaDoor.A Go.Proofs.YthplhbcafihacaaDoorW.PrintWords Go.Proofs.YthplhbcafihacaaDoor.Opens
set_option linter.unusedVariables false
theorem own : ownKnob Tryd.prog.godebug = none := by kernel_rfl
theorem laidOut : laidOutB Tryd.prog = true := by kernel_rfl
theorem open_53 {H : Type} {enc : TypeId × Value → H} {w : World} {base : Nat} {spare : Nat → Bool} {held : Bool} {n : Nat} {cs : List Value} {y : DataW H × List MemPlace} (h : DataW.trod enc Tryd.prog w base spare held n 53 cs = some y) : ∃ (x0 : Int) (x1 : Int) (x2 : Int) (x3 : Int) (x4 : Int), cs = [.int .i64 x0, .int .i64 x1, .int .i64 x2, .int .i64 x3, .int .i64 x4] ∧ (Lit.int .i64 x0).wf = true ∧ (Lit.int .i64 x1).wf = true ∧ (Lit.int .i64 x2).wf = true ∧ (Lit.int .i64 x3).wf = true ∧ (Lit.int .i64 x4).wf = true := by
  obtain ⟨ys, n', _, _, hlen, hys, hf⟩ := DataW.trod_struct Tryd.underlying53 h
  replace hlen : cs.length = 5 := hlen.trans (by kernel_rfl)
  replace hys : ys.length = 5 := hys.trans (by kernel_rfl)
  clear h
  obtain ⟨c0, c1, c2, c3, c4, rfl⟩ := len5 hlen
  obtain ⟨y0, y1, y2, y3, y4, rfl⟩ := len5 hys
  have h0 : DataW.trod enc Tryd.prog w base spare held n' 3 [c0] = some y0 := one_field (c := 1) (o := 0) rfl (by kernel_rfl) (hf 0 _ rfl)
  obtain ⟨x0, e0, _, w0⟩ := DataW.trod_int Tryd.underlying3 h0
  obtain rfl : c0 = _ := (List.cons.inj e0).1
  have h1 : DataW.trod enc Tryd.prog w base spare held n' 3 [c1] = some y1 := one_field (c := 1) (o := 1) rfl (by kernel_rfl) (hf 1 _ rfl)
  obtain ⟨x1, e1, _, w1⟩ := DataW.trod_int Tryd.underlying3 h1
  obtain rfl : c1 = _ := (List.cons.inj e1).1
  have h2 : DataW.trod enc Tryd.prog w base spare held n' 3 [c2] = some y2 := one_field (c := 1) (o := 2) rfl (by kernel_rfl) (hf 2 _ rfl)
  obtain ⟨x2, e2, _, w2⟩ := DataW.trod_int Tryd.underlying3 h2
  obtain rfl : c2 = _ := (List.cons.inj e2).1
  have h3 : DataW.trod enc Tryd.prog w base spare held n' 3 [c3] = some y3 := one_field (c := 1) (o := 3) rfl (by kernel_rfl) (hf 3 _ rfl)
  obtain ⟨x3, e3, _, w3⟩ := DataW.trod_int Tryd.underlying3 h3
  obtain rfl : c3 = _ := (List.cons.inj e3).1
  have h4 : DataW.trod enc Tryd.prog w base spare held n' 3 [c4] = some y4 := one_field (c := 1) (o := 4) rfl (by kernel_rfl) (hf 4 _ rfl)
  obtain ⟨x4, e4, _, w4⟩ := DataW.trod_int Tryd.underlying3 h4
  obtain rfl : c4 = _ := (List.cons.inj e4).1
  exact ⟨x0, x1, x2, x3, x4, rfl, w0, w1, w2, w3, w4⟩
set_option maxRecDepth 100000 in
theorem lifted (os : Os) (started : os.Started) (H : Type) (enc : TypeId × Value → H) :
    ReturnsInHanded {} Tryd.checked os 5 .any (fun w args => (Rows.fnExactLargestResidualSpec.pre enc Tryd.prog Tryd.f5 [] false w args ∧ laidMetH Tryd.prog LaidT.list w) ∧ sizedMet enc Tryd.prog Tryd.f5 (OpenSpec.ofChange Rows.fnExactLargestResidualSpec) false w args) (Rows.fnExactLargestResidualSpec.post enc Tryd.prog Tryd.f5 false true false false) := by
  refine returnsInHanded_of_change_and (C := Tryd.checked) (X := fun w _ => laidMetH Tryd.prog LaidT.list w) (fun _ _ _ hh h => h.of_heap hh) own started (by kernel_rfl) Tryd.func5
    (ChangeSpec.witness_shaped (enc := enc) (C := Tryd.checked) (os := os) (X := fun w _ => laidMetH Tryd.prog LaidT.list w) false (World.doorLaid Tryd.prog 400 os) #[.slice none 0 0, .int .i64 0] 8 rfl (World.shaped_of_RefB (by kernel_rfl) (by kernel_rfl)) (by kernel_rfl) (by kernel_rfl) (by kernel_rfl) (LaidT.door_met os _)) ?_
  intro W base args ds gs before hval0 hW hcnd hsz0 hL _
  have hsz : (DataW.weightsEach Tryd.prog (Tryd.f5.params.toList ++ Rows.fnExactLargestResidualSpec.plain.varTypes Tryd.prog) (ds ++ gs)).all (· ≤ reachBytes) = true := hsz0
  have hval : ∀ (j : Nat) t v, Tryd.f5.params[j]? = some t → args[j]? = some v → Value.okWide Tryd.prog W .any base t v := hval0
  have hW' := hW
  obtain ⟨p, q, hA0, hV, rfl, hfz, hnd⟩ := hW
  have hA : DataW.TrodAll enc Tryd.prog W 0 (fun _ => true) true Tryd.f5.params.toList args.toList ds p := hA0
  rw [Tryd.params5] at hA hval hsz
  obtain ⟨v0, vs0, d0, ds0, p0, q0, hargs, rfl, rfl, h0, r0⟩ := trodAll_cons hA
  obtain ⟨v1, vs1, d1, ds1, p1, q1, rfl, rfl, rfl, h1, r1⟩ := trodAll_cons r0
  obtain ⟨rfl, rfl, rfl⟩ := trodAll_nil r1
  obtain rfl : args = #[v0, v1] := by cases args; simp_all
  have hV2 := hV
  obtain ⟨_, _, _, _, gd, _, rfl, _, _, _, _, _⟩ := trodVars_one hV
  have k0 := h0
  have lt0 : ∀ x ∈ p0, x.block < W.heap.size := by obtain ⟨m, hm⟩ := k0; exact DataW.trod_lt m _ _ _ hm
  obtain ⟨a0, len0, cap0, rfl⟩ := okWide_slice Tryd.underlying22 (hval 0 22 v0 rfl rfl)
  obtain ⟨l0, hl0, hc0, hr0, hw0⟩ := Opens.open_row k53 (Q := fun x => (Lit.int .i64 x.f0).wf = true ∧ (Lit.int .i64 x.f1).wf = true ∧ (Lit.int .i64 x.f2).wf = true ∧ (Lit.int .i64 x.f3).wf = true ∧ (Lit.int .i64 x.f4).wf = true) (e := 53) Tryd.underlying22 (by kernel_rfl) (fun _ _ _ h => by obtain ⟨x0, x1, x2, x3, x4, rfl, hw⟩ := open_53 h; exact ⟨⟨x0, x1, x2, x3, x4⟩, k53_mk _ _, hw⟩) h0
  have y0 : len0 * 40 ≤ 140737488351232 := Opens.sized_row hsz (j := 0) (t := 22) rfl rfl Tryd.underlying22 (by kernel_rfl) h0
  subst hl0
  obtain ⟨a1, rfl, rfl, rfl, w1⟩ := open_int Tryd.underlying3 (hval 1 3 v1 rfl rfl) h1
  clear hA0 hval0 hsz0 hsz
  obtain ⟨k, hk⟩ := Pure.FnExactLargestResidual l0 a1 y0 hw0 w1
  refine (laws_FnExactLargestResidual.calls k _ _ l0 a1 true W hr0 hc0 hk (LaidT.of_laid hL)).mono fun e W' ⟨he, hb⟩ => ?_
  have bel : Below W.heap.size W W' := hb
  subst he
  exact ⟨_, rfl, _, _, _, [], _, _, hW', trodAll_mk1 (shut_bool Tryd.underlying4 _), (trodAll_cons_mk (Below.trod laidOut (by kernel_rfl) (of_decide_eq_true (by kernel_rfl)) k0 bel lt0) (trodAll_cons_mk (shut_int Tryd.underlying3 w1) trodAll_mk0)), Below.trodVars laidOut bel (by kernel_rfl) hV2, bel.frame _, fun h => by cases h⟩
theorem over : Rows.fnExactLargestResidualRow.holds Tryd.pinned (OpenSpec.ofChange Rows.fnExactLargestResidualSpec) :=
  OpenClaim.holds_of_wide 5 Tryd.f5 rfl rfl rfl rfl rfl rfl rfl ⟨rfl, rfl, rfl, rfl, rfl⟩ rfl rfl rfl rfl rfl (by kernel_rfl) Tryd.func5 (by kernel_rfl)
    (of_decide_eq_true (by kernel_rfl)) (by unfold Func.isWrapper; first | (rw [if_pos (by decide +kernel)]; kernel_rfl) | (rw [if_neg (by decide +kernel)]; exact ⟨rfl, rfl⟩))
    (fun os started H enc _ => lifted os started H enc)
theorem proved : Rows.FnExactLargestResidualSaid := over
theorem card_holds : Rows.FnExactLargestResidualCardSaid :=
  Claim7.holds_tied_plain_at .later [] [.data] true (true, "57e2faa9e92f11a4cdee4d549bcbf1debfde8c84ca67e4d671151bf42375cc4d") false
    over (fun _ h => by cases h) (by kernel_rfl) (fun _ h => by cases h) fnExactLargestResidual_row_tie rfl ⟨rfl, rfl⟩ (by kernel_rfl) rfl
    (fun f fn hf hfn => by
      obtain rfl : f = 5 := Option.some.inj ((show Tryd.prog.funcNamed "loop.example/g00933/laws.FnExactLargestResidual" = some 5 by kernel_rfl).symm.trans hf) |>.symm
      obtain rfl : fn = Tryd.f5 := (Option.some.inj (Tryd.func5.symm.trans hfn)).symm
      exact ⟨by kernel_rfl, fun j t ht => by
        rw [Tryd.params5] at ht
        have hm : t ∈ [22, 3] := by simpa using Array.mem_of_getElem? ht
        have hall : ([22, 3].all fun u => !Tryd.prog.wantsStandIn u) = true := by kernel_rfl
        exact (show Tryd.prog.wantsStandIn t = false by simpa using List.all_eq_true.1 hall t hm)⟩)
    (by kernel_rfl)
#print axioms card_holds
end Go.Proofs.YthplhbcafihacaaDoor.fnExactLargestResidual
namespace Go.Proofs.YthplhbcafihacaaDoor
/-- The row, under a short name, for the claim. -/
theorem fnExactLargestResidual_holds : Rows.FnExactLargestResidualCardSaid := fnExactLargestResidual.card_holds
end Go.Proofs.YthplhbcafihacaaDoor
