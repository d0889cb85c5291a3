/- The row of the law FnExactStrainWithout: whatever the input, it returns true; its arguments read as they did. No conditions. -/
import Derived.Deep.Slices
import Derived.Deep.Fields
import Derived.ChangeSame
import Derived.SizedLaws
import Derived.Test.YtpojnobgijoddaaDoorCards
import Derived.Test.YtpojnobgijoddaaDoorTie
import Derived.OpenVars
import Derived.ChangeVars
import Derived.SevenTiedAt
import Derived.ShutString
import Derived.ChangeOld
import Derived.Test.YtpojnobgijoddaaDoorKFnExactStrainWithoutU7
set_option maxHeartbeats 8000000
set_option maxRecDepth 100000
set_option linter.unusedSimpArgs false
set_option linter.unusedVariables false
namespace Go.Proofs.YtpojnobgijoddaaDoor.A
open Go.Proofs.YtpojnobgijoddaaDoor Go.RowKit YtpojnobgijoddaaDoorW.PrintWords YtpojnobgijoddaaDoorW.PrintLast YtpojnobgijoddaaDoorW.PrintMore
attribute [local go_sem] max2_int min2_int max_two min_two max_three min_three max_four min_four
def laws_FnExactStrainWithout.j0 : Nat → List (S47) → List (S45) → Bool → Option (Bool)
 | 0, _, _, _ => none
 | k + 1, x0, x9, x47 => if x47 = true then (some false) else ((laws_toLegS.f k x0).bind fun t474 => ((laws_eqLegS.f k x9 t474).bind fun t477 => (if t477 = true then (some true) else (some false))))
def laws_FnExactStrainWithout.f (k : Nat) (l0 : List (S47)) (a1 : Int) : Option (Bool) := (laws_szLegS.f l0 1048576).bind fun t461 => (if t461 < 0 then (some true) else ((laws_toLegS.f k l0).bind fun t462 => ((spec_StrainWithout.f k t462 a1).bind fun bt465 => ((laws_toLegS.f k l0).bind fun t468 => ((impl_StrainWithout.f t468 a1).bind fun bt471 => (if bt471.1 = bt465.1 then (if bt471.2.1 = bt465.2.1 then (laws_FnExactStrainWithout.j0 k l0 t468 (bt471.2.2 != bt465.2.2)) else (laws_FnExactStrainWithout.j0 k l0 t468 true)) else (laws_FnExactStrainWithout.j0 k l0 t468 true)))))))
theorem laws_FnExactStrainWithout.mono_l : ∀ k, (∀ y0 y1 y2, LeO (laws_FnExactStrainWithout.j0 k y0 y1 y2) (laws_FnExactStrainWithout.j0 (k + 1) y0 y1 y2))
 | 0 => fun _ _ _ r h => by simp [laws_FnExactStrainWithout.j0] at h
 | k + 1 => by
  have ih0 := laws_FnExactStrainWithout.mono_l k
  ·
   intro y0 y1 y2
   unfold laws_FnExactStrainWithout.j0
   repeat' first
   | (with_reducible exact ih0 _ _ _)
   | (with_reducible exact laws_eqLegS.mono _ _ _)
   | (with_reducible exact laws_toLegS.mono _ _)
   | (with_reducible exact spec_StrainWithout.mono _ _ _)
   | (with_reducible exact LeO.refl _)
   | (with_reducible exact LeO.none _)
   | (with_reducible refine LeO.ite ?_ ?_)
   | (with_reducible refine LeO.bind ?_ (fun _ => ?_))
   | exact ih0 _ _ _
   | exact laws_eqLegS.mono _ _ _
   | exact laws_toLegS.mono _ _
   | exact spec_StrainWithout.mono _ _ _
   | exact LeO.none _
   | refine LeO.ite ?_ ?_
   | refine LeO.bind ?_ (fun _ => ?_)
theorem laws_FnExactStrainWithout.mono : ∀ a0 a1 k, LeO (laws_FnExactStrainWithout.f k a0 a1) (laws_FnExactStrainWithout.f (k + 1) a0 a1) := by
 intro a0 a1 k
 have ih0 := laws_FnExactStrainWithout.mono_l k
 unfold laws_FnExactStrainWithout.f
 repeat' first
   | (with_reducible exact ih0 _ _ _)
   | (with_reducible exact laws_eqLegS.mono _ _ _)
   | (with_reducible exact laws_toLegS.mono _ _)
   | (with_reducible exact spec_StrainWithout.mono _ _ _)
   | (with_reducible exact LeO.refl _)
   | (with_reducible exact LeO.none _)
   | (with_reducible refine LeO.ite ?_ ?_)
   | (with_reducible refine LeO.bind ?_ (fun _ => ?_))
   | exact ih0 _ _ _
   | exact laws_eqLegS.mono _ _ _
   | exact laws_toLegS.mono _ _
   | exact spec_StrainWithout.mono _ _ _
   | exact LeO.none _
   | refine LeO.ite ?_ ?_
   | refine LeO.bind ?_ (fun _ => ?_)
theorem laws_FnExactStrainWithout.calls (k : Nat) (A0 : Option Addr) (c0 : Nat) (l0 : List (S47)) (a1 : Int) (r : Bool) (w : World) (hr0 : Kd.C k47 w A0 l0.length l0) (hc0 : l0.length ≤ c0) (h : laws_FnExactStrainWithout.f k l0 a1 = some true) (hL : Net.Sine.Laid w) :
  Calls Tryd.prog 6 #[.slice A0 l0.length c0, .int .i64 a1] w fun e w' => e = .returned (.bool true) ∧ Below w.heap.size w w' := by
 have HL := Aside0.mk hL
 clear hL
 have HR0 := Aside0.mk hr0
 have HC0 := Aside0.mk hc0
 clear hr0 hc0
 have HB := Aside0.mk (Below.refl w.heap.size w)
 have H : ((laws_szLegS.f l0 1048576).bind fun t461 => (if t461 < 0 then (some true) else ((laws_toLegS.f k l0).bind fun t462 => ((spec_StrainWithout.f k t462 a1).bind fun bt465 => ((laws_toLegS.f k l0).bind fun t468 => ((impl_StrainWithout.f t468 a1).bind fun bt471 => (if bt471.1 = bt465.1 then (if bt471.2.1 = bt465.2.1 then (laws_FnExactStrainWithout.j0 k l0 t468 (bt471.2.2 != bt465.2.2)) else (laws_FnExactStrainWithout.j0 k l0 t468 true)) else (laws_FnExactStrainWithout.j0 k l0 t468 true)))))))) = some true := h
 clear h
 replace H := Option.bind_eq_some_iff.mp H
 obtain ⟨t461, A30, H⟩ := H
 replace H : (if t461 < 0 then (some true) else ((laws_toLegS.f k l0).bind fun t462 => ((spec_StrainWithout.f k t462 a1).bind fun bt465 => ((laws_toLegS.f k l0).bind fun t468 => ((impl_StrainWithout.f t468 a1).bind fun bt471 => (if bt471.1 = bt465.1 then (if bt471.2.1 = bt465.2.1 then (laws_FnExactStrainWithout.j0 k l0 t468 (bt471.2.2 != bt465.2.2)) else (laws_FnExactStrainWithout.j0 k l0 t468 true)) else (laws_FnExactStrainWithout.j0 k l0 t468 true))))))) = some true := H
 have A3 := Aside0.mk A30
 clear A30
 by_cases c4 : t461 < 0
 ·
  rw [if_pos c4] at H
  have c4b0 : decide (t461 < 0) = true := decide_eq_true c4
  clear c4
  go_enter Tryd.func6, Tryd.ntmps6
  go_wp2_with (first | ((with_reducible refine gate_callee (f := 10) rfl ?_); refine goesL_ (some 15) rfl rfl Tryd.func10 qz5 rfl #[.slice A0 l0.length c0, .int .i64 1048576] rfl qz1 ?_; (with_reducible refine (laws_szLegS.calls _ _ l0 1048576 t461 _ ?side1 ?side2 A3.out).mono ?_); (case side1 => repeat (first | exact HR0.out | (with_reducible refine Kd.C_alloc ?_ _) | (with_reducible refine Kd.C_drewN ?_ _) | (with_reducible refine Kd.C_drew ?_))); (case side2 => exact HC0.out); rintro e w' ⟨rfl, ⟨nd, rfl⟩⟩; refine ⟨_, rfl, ?_⟩))
  go_ret
  exact ⟨by first | rfl | (simp [errW_none, errW_some] <;> rfl) | (simp [*, errW_none, errW_some] <;> rfl), by repeat (first | (with_reducible first | exact HB.out | apply below_alloc | apply pw_below_drewN | apply below_drew1) | exact HB.out)⟩
 ·
  rw [if_neg c4] at H
  have c4b0 : decide (t461 < 0) = false := decide_eq_false c4
  clear c4
  replace H := Option.bind_eq_some_iff.mp H
  obtain ⟨t462, A50, H⟩ := H
  replace H : ((spec_StrainWithout.f k t462 a1).bind fun bt465 => ((laws_toLegS.f k l0).bind fun t468 => ((impl_StrainWithout.f t468 a1).bind fun bt471 => (if bt471.1 = bt465.1 then (if bt471.2.1 = bt465.2.1 then (laws_FnExactStrainWithout.j0 k l0 t468 (bt471.2.2 != bt465.2.2)) else (laws_FnExactStrainWithout.j0 k l0 t468 true)) else (laws_FnExactStrainWithout.j0 k l0 t468 true))))) = some true := H
  have A5 := Aside0.mk A50
  clear A50
  replace H := Option.bind_eq_some_iff.mp H
  obtain ⟨⟨t465, t466, t467⟩, A60, H⟩ := H
  replace H : ((laws_toLegS.f k l0).bind fun t468 => ((impl_StrainWithout.f t468 a1).bind fun bt471 => (if bt471.1 = t465 then (if bt471.2.1 = t466 then (laws_FnExactStrainWithout.j0 k l0 t468 (bt471.2.2 != t467)) else (laws_FnExactStrainWithout.j0 k l0 t468 true)) else (laws_FnExactStrainWithout.j0 k l0 t468 true)))) = some true := H
  have A6 := Aside0.mk A60
  clear A60
  replace H := Option.bind_eq_some_iff.mp H
  obtain ⟨t468, A70, H⟩ := H
  replace H : ((impl_StrainWithout.f t468 a1).bind fun bt471 => (if bt471.1 = t465 then (if bt471.2.1 = t466 then (laws_FnExactStrainWithout.j0 k l0 t468 (bt471.2.2 != t467)) else (laws_FnExactStrainWithout.j0 k l0 t468 true)) else (laws_FnExactStrainWithout.j0 k l0 t468 true))) = some true := H
  have A7 := Aside0.mk A70
  clear A70
  replace H := Option.bind_eq_some_iff.mp H
  obtain ⟨⟨t471, t472, t473⟩, A80, H⟩ := H
  replace H : (if t471 = t465 then (if t472 = t466 then (laws_FnExactStrainWithout.j0 k l0 t468 (t473 != t467)) else (laws_FnExactStrainWithout.j0 k l0 t468 true)) else (laws_FnExactStrainWithout.j0 k l0 t468 true)) = some true := H
  have A8 := Aside0.mk A80
  clear A80
  have HC9 := Aside0.mk H
  clear H
  go_enter Tryd.func6, Tryd.ntmps6
  go_upto_region 8 with (first | ((with_reducible refine gate_callee (f := 10) rfl ?_); refine goesL_ (some 15) rfl rfl Tryd.func10 qz5 rfl #[.slice A0 l0.length c0, .int .i64 1048576] rfl qz1 ?_; (with_reducible refine (laws_szLegS.calls _ _ l0 1048576 t461 _ ?side1 ?side2 A3.out).mono ?_); (case side1 => repeat (first | exact HR0.out | (with_reducible refine Kd.C_alloc ?_ _) | (with_reducible refine Kd.C_drewN ?_ _) | (with_reducible refine Kd.C_drew ?_))); (case side2 => exact HC0.out); rintro e w' ⟨rfl, ⟨nd, rfl⟩⟩; refine ⟨_, rfl, ?_⟩) | ((with_reducible refine gate_callee (f := 12) rfl ?_); refine goesL_ (some 20) rfl rfl Tryd.func12 qz5 rfl #[.slice A0 l0.length c0] rfl qz1 ?_; (with_reducible refine (laws_toLegS.calls k _ _ l0 t462 _ ?side1 ?side2 A5.out).mono ?_); (case side1 => repeat (first | exact HR0.out | (with_reducible refine Kd.C_alloc ?_ _) | (with_reducible refine Kd.C_drewN ?_ _) | (with_reducible refine Kd.C_drew ?_))); (case side2 => exact HC0.out); rintro e w10 ⟨v463, rfl, ho0, hb⟩; refine ⟨_, rfl, ?_⟩; have n0_ := Aside0.mk (Kd.R_lower ho0 (below_size qz0)); have n1_ := Aside0.mk (below_step qz0 hb); clear HB; have HO464 := n0_; have HB := n1_; clear n0_ n1_; (try clear hb); (try clear hb2); (try clear hk); (try clear hi); (try clear ho0); obtain ⟨Ao11, co11, eo11⟩ := Kd.R_slice HO464.out; subst eo11) | ((with_reducible refine gate_callee (f := 19) rfl ?_); refine goesL_ (some 22) rfl rfl Tryd.func19 qz5 rfl #[.slice Ao11 t462.length co11, .int .i64 a1] rfl qz1 ?_; (with_reducible refine (spec_StrainWithout.calls k _ _ t462 a1 t465 t466 t467 _ ?side1 ?side2 A6.out ?sideL).mono ?_); (case sideL => exact HL.out.keep qz0); (case side1 => repeat (first | exact (Kd.R_reads' HO464.out).2.2 | (with_reducible refine Kd.C_alloc ?_ _) | (with_reducible refine Kd.C_drewN ?_ _) | (with_reducible refine Kd.C_drew ?_))); (case side2 => exact (Kd.R_reads' HO464.out).2.1); rintro e w12 ⟨rfl, hb⟩; refine ⟨_, rfl, ?_⟩; have n0_ := Aside0.mk (Kd.R_below qz37 hb); have n1_ := Aside0.mk (below_step qz0 hb); clear HO464; clear HB; have HO464 := n0_; have HB := n1_; clear n0_ n1_; (try clear hb); (try clear hb2); (try clear hk); (try clear hi)) | ((with_reducible refine gate_callee (f := 12) rfl ?_); refine goesL_ (some 27) rfl rfl Tryd.func12 qz5 rfl #[.slice A0 l0.length c0] rfl qz1 ?_; (with_reducible refine (laws_toLegS.calls k _ _ l0 t468 _ ?side1 ?side2 A7.out).mono ?_); (case side1 => repeat (first | exact (Kd.C_below HR0.out HB.out) | (with_reducible refine Kd.C_alloc ?_ _) | (with_reducible refine Kd.C_drewN ?_ _) | (with_reducible refine Kd.C_drew ?_))); (case side2 => exact HC0.out); rintro e w13 ⟨v469, rfl, ho0, hb⟩; refine ⟨_, rfl, ?_⟩; have n0_ := Aside0.mk (Kd.R_elder' qz37 (Kd.R_base ho0) hb); have n1_ := Aside0.mk (Kd.R_lower (Kd.R_new' ho0 (Kd.R_lt qz37)) (below_size qz0)); have n2_ := Aside0.mk (below_step qz0 hb); clear HO464; clear HB; have HO464 := n0_; have HO470 := n1_; have HB := n2_; clear n0_ n1_ n2_; (try clear hb); (try clear hb2); (try clear hk); (try clear hi); (try clear ho0); obtain ⟨Ao14, co14, eo14⟩ := Kd.R_slice HO470.out; subst eo14) | ((with_reducible refine gate_callee (f := 20) rfl ?_); refine goesL_ (some 31) rfl rfl Tryd.func20 qz5 rfl #[.slice Ao14 t468.length co14, .int .i64 a1] rfl qz1 ?_; (with_reducible refine (impl_StrainWithout.calls _ _ t468 a1 t471 t472 t473 _ ?side1 ?side2 A8.out ?sideL).mono ?_); (case sideL => exact HL.out.keep qz0); (case side1 => repeat (first | exact (Kd.R_reads' HO470.out).2.2 | (with_reducible refine Kd.C_alloc ?_ _) | (with_reducible refine Kd.C_drewN ?_ _) | (with_reducible refine Kd.C_drew ?_))); (case side2 => exact (Kd.R_reads' HO470.out).2.1); rintro e w15 ⟨rfl, hb⟩; refine ⟨_, rfl, ?_⟩; have n0_ := Aside0.mk (Kd.R_below qz37 hb); have n1_ := Aside0.mk (Kd.R_below (by (with_reducible repeat (first | apply Kd.R_alloc | apply Kd.R_drewN | apply Kd.R_drew)); exact HO470.out) hb); have n2_ := Aside0.mk (below_step qz0 hb); clear HO464; clear HO470; clear HB; have HO464 := n0_; have HO470 := n1_; have HB := n2_; clear n0_ n1_ n2_; (try clear hb); (try clear hb2); (try clear hk); (try clear hi)))
  (try simp only [Act.put, List.setIfInBounds_toArray, List.set_cons_zero, List.set_cons_succ])
  go_cut [47] (fun v47 wc => ∃ (kq : Nat) (x47_8 : Bool), v47 = .bool x47_8 ∧ Aside0 (laws_FnExactStrainWithout.j0 kq l0 t468 x47_8 = some true) ∧ Aside0 (kq ≤ k) ∧ Aside0 (Kd.R k45 45 wc w.heap.size (fun _ => True) (.slice Ao14 t468.length co14) t468) ∧ Aside0 (Below w.heap.size w wc))
  case first =>
   have H := HC9.out
   clear HC9
   by_cases c16 : t471 = t465
   ·
    rw [if_pos c16] at H
    have c16b0 : (t471 == t465) = true := beq_iff_eq.mpr c16
    have c16b1 : (t471 != t465) = false := bne_eq_false_iff_eq.mpr c16
    clear c16
    (first | rw [c16b0] | (simp only [i64_w, i32_w]; rw [c16b0]) | skip)
    by_cases c17 : t472 = t466
    ·
     rw [if_pos c17] at H
     have c17b0 : (t472 == t466) = true := beq_iff_eq.mpr c17
     have c17b1 : (t472 != t466) = false := bne_eq_false_iff_eq.mpr c17
     clear c17
     have H' := Aside0.mk H
     clear H
     go_wp2
     go_meet
     case rel => exact ⟨_, ((t473 != t467)), qz4, H', ⟨by first | omega | exact Nat.le_refl _⟩, ⟨by (with_reducible repeat (first | apply Kd.R_alloc | apply Kd.R_drewN | apply Kd.R_drew)); exact Kd.R_mono HO470.out (fun _ hk => trivial)⟩, ⟨by repeat (first | (with_reducible first | exact HB.out | apply below_alloc | apply pw_below_drewN | apply below_drew1) | exact HB.out)⟩⟩
    ·
     rw [if_neg c17] at H
     have c17b0 : (t472 == t466) = false := beq_eq_false_iff_ne.mpr c17
     have c17b1 : (t472 != t466) = true := bne_iff_ne.mpr c17
     exact absurd H (by cases k <;> simp [laws_FnExactStrainWithout.j0])
   ·
    rw [if_neg c16] at H
    have c16b0 : (t471 == t465) = false := beq_eq_false_iff_ne.mpr c16
    have c16b1 : (t471 != t465) = true := bne_iff_ne.mpr c16
    (first | rw [c16b0] | (simp only [i64_w, i32_w]; rw [c16b0]) | skip)
    exact absurd H (by cases k <;> simp [laws_FnExactStrainWithout.j0])
  case rest =>
   clear HC9
   try clear c1
   try clear c2
   try clear p2
   try clear c4
   try clear c4b0
   try clear c6
   try clear c10
   try clear c12
   try clear c16
   try clear c16b0
   try clear c16b1
   try clear c17
   try clear c17b0
   try clear c17b1
   obtain ⟨kq, x47_8, rfl, HA, HJ8, HO_9, HB⟩ := hcut
   cases kq with
   | zero => exact absurd HA.out (by simp [laws_FnExactStrainWithout.j0])
   | succ kj8 =>
    have H := HA.out
    clear HA
    simp only [laws_FnExactStrainWithout.j0] at H
    by_cases c18 : x47_8 = true
    ·
     subst c18
     have H1 : (some false) = some true := by rw [if_pos rfl] at H; exact H
     clear H
     have H := H1
     clear H1
     exact absurd (Option.some.inj H) (by decide)
    ·
     replace c18 := Bool.eq_false_iff.mpr c18
     subst c18
     have H1 : ((laws_toLegS.f kj8 l0).bind fun t474 => ((laws_eqLegS.f kj8 t468 t474).bind fun t477 => (if t477 = true then (some true) else (some false)))) = some true := by rw [if_neg (show ¬ (false = true) by decide)] at H; exact H
     clear H
     have H := H1
     clear H1
     replace H := Option.bind_eq_some_iff.mp H
     obtain ⟨t474, A190, H⟩ := H
     replace H : ((laws_eqLegS.f kj8 t468 t474).bind fun t477 => (if t477 = true then (some true) else (some false))) = some true := H
     have A19 := Aside0.mk A190
     clear A190
     replace H := Option.bind_eq_some_iff.mp H
     obtain ⟨t477, A200, H⟩ := H
     replace H : (if t477 = true then (some true) else (some false)) = some true := H
     have A20 := Aside0.mk A200
     clear A200
     by_cases c21 : t477 = true
     ·
      subst c21
      have H1 : (some true) = some true := rfl
      clear H
      have H := H1
      clear H1
      go_wp2_with (first | ((with_reducible refine gate_callee (f := 12) rfl ?_); refine goesL_ (some 50) rfl rfl Tryd.func12 qz5 rfl #[.slice A0 l0.length c0] rfl qz1 ?_; (with_reducible refine (laws_toLegS.calls kj8 _ _ l0 t474 _ ?side1 ?side2 A19.out).mono ?_); (case side1 => repeat (first | exact (Kd.C_below HR0.out HB.out) | (with_reducible refine Kd.C_alloc ?_ _) | (with_reducible refine Kd.C_drewN ?_ _) | (with_reducible refine Kd.C_drew ?_))); (case side2 => exact HC0.out); rintro e w22 ⟨v475, rfl, ho0, hb⟩; refine ⟨_, rfl, ?_⟩; have n0_ := Aside0.mk (Kd.R_elder' qz38 (Kd.R_base ho0) hb); have n1_ := Aside0.mk (Kd.R_lower (Kd.R_new' ho0 (Kd.R_lt qz38)) (below_size qz0)); have n2_ := Aside0.mk (below_step qz0 hb); clear HO_9; clear HB; have HO_9 := n0_; have HO476 := n1_; have HB := n2_; clear n0_ n1_ n2_; (try clear hb); (try clear hb2); (try clear hk); (try clear hi); (try clear ho0); obtain ⟨Ao23, co23, eo23⟩ := Kd.R_slice HO476.out; subst eo23) | ((with_reducible refine gate_callee (f := 14) rfl ?_); refine goesL_ (some 51) rfl rfl Tryd.func14 qz5 rfl #[.slice Ao14 t468.length co14, .slice Ao23 t474.length co23] rfl qz1 ?_; (with_reducible refine (laws_eqLegS.calls kj8 _ _ t468 _ _ t474 true _ ?side1 ?side2 ?side3 ?side4 A20.out).mono ?_); (case side1 => repeat (first | exact (Kd.R_reads' HO_9.out).2.2 | (with_reducible refine Kd.C_alloc ?_ _) | (with_reducible refine Kd.C_drewN ?_ _) | (with_reducible refine Kd.C_drew ?_))); (case side2 => exact (Kd.R_reads' HO_9.out).2.1); (case side3 => repeat (first | exact (Kd.R_reads' HO476.out).2.2 | (with_reducible refine Kd.C_alloc ?_ _) | (with_reducible refine Kd.C_drewN ?_ _) | (with_reducible refine Kd.C_drew ?_))); (case side4 => exact (Kd.R_reads' HO476.out).2.1); rintro e w24 ⟨rfl, hb⟩; refine ⟨_, rfl, ?_⟩; have n0_ := Aside0.mk (Kd.R_below qz38 hb); have n1_ := Aside0.mk (Kd.R_below (by (with_reducible repeat (first | apply Kd.R_alloc | apply Kd.R_drewN | apply Kd.R_drew)); exact HO476.out) hb); have n2_ := Aside0.mk (below_step qz0 hb); clear HO_9; clear HO476; clear HB; have HO_9 := n0_; have HO476 := n1_; have HB := n2_; clear n0_ n1_ n2_; (try clear hb); (try clear hb2); (try clear hk); (try clear hi)))
      go_ret
      exact ⟨by first | rfl | (simp [errW_none, errW_some] <;> rfl) | (simp [*, errW_none, errW_some] <;> rfl), by repeat (first | (with_reducible first | exact HB.out | apply below_alloc | apply pw_below_drewN | apply below_drew1) | exact HB.out)⟩
     ·
      replace c21 := Bool.eq_false_iff.mpr c21
      subst c21
      have H1 : (some false) = some true := by rw [if_neg (show ¬ (false = true) by decide)] at H; exact H
      clear H
      have H := H1
      clear H1
      exact absurd (Option.some.inj H) (by decide)
end Go.Proofs.YtpojnobgijoddaaDoor.A
namespace Go.Proofs.YtpojnobgijoddaaDoor.Legs
open Go.RowKit YtpojnobgijoddaaDoorW.PrintWords Plain A
def cv (x : S47) : S45 := ⟨x.f0, x.f1, x.f2, x.f3, x.f4⟩
theorem toLegs_ev (l : List (S47)) (hb : l.length ≤ 7036874417766) : Ev (fun k => laws_toLegS.f k l) (l.map cv) := by
  unfold laws_toLegS.f
  refine Ev.pos (by omega) ?_
  refine Ev.pos (by omega) ?_
  exact copy_all laws_toLegS.l0 cv z47 _ (fun k x0 x3 x4 => by simp only [laws_toLegS.l0, laws_toLeg.f, Option.bind_some]; rfl) l (by omega)
theorem eqLegs_ev (l : List (S45)) (hb : l.length ≤ 140737488351232) : Ev (fun k => laws_eqLegS.f k l l) true := by
  unfold laws_eqLegS.f
  refine Ev.pos rfl ?_
  exact eq_all laws_eqLegS.l0 (fun k x0 x4 h0 => by
    simp only [laws_eqLegS.l0, laws_eqLeg.f, if_true, Option.bind_some]
    by_cases h : x4 < (x0.length : Int)
    · rw [if_pos h, if_pos h0, if_pos h, if_pos h]
    · rw [if_neg h, if_neg h]) l hb
theorem szLegs_eq (l : List (S47)) (hb : l.length ≤ 140737488351232) : laws_szLegS.f l 1048576 = some (if l.length ≤ 1048576 then 1048576 - (l.length : Int) else -1) := by
  unfold laws_szLegS.f
  rw [w64 (by omega) (by omega)]
  by_cases h : l.length ≤ 1048576
  · rw [if_neg (by omega), if_pos h]
  · rw [if_pos (by omega), if_neg h]
end Go.Proofs.YtpojnobgijoddaaDoor.Legs
namespace Go.Proofs.YtpojnobgijoddaaDoor.Net
open Go.RowKit YtpojnobgijoddaaDoorW.PrintWords Plain A
theorem specRest_eq (x : S45) (h : Good x) (axis : Int) (h0 : 0 ≤ axis) (h2 : axis ≤ 2) (cs : List Int) (h8 : cs.length = 8) (den : Int) : spec_l9Rest.f x.f0 x.f1 x.f2 x.f3 x.f4 axis cs den = some (resM x axis cs den) := by
  unfold spec_l9Rest.f
  rw [measure_eq x h axis h0 h2, Option.bind_some]
  obtain ⟨⟨a0, a8⟩, ⟨d0, d8⟩, _⟩ := h
  rw [if_pos (by omega), if_pos (by omega), if_pos (by omega), if_pos (by omega)]
  rfl
theorem specRest {ls : L} (hn : ls.length ≤ 12) (hg : ∀ x ∈ ls, Good x) (ax : Int) (h0 : 0 ≤ ax) (h2 : ax ≤ 2) {i : Int} (hi : i ∈ usedL ls) : spec_l9Rest.f (rd_T45 ls i).f0 (rd_T45 ls i).f1 (rd_T45 ls i).f2 (rd_T45 ls i).f3 (rd_T45 ls i).f4 ax (coL ls ax) (treesM ls) = some (nT ls ax i) := by
  have hr := usedL_range ls i hi
  obtain ⟨m, rfl⟩ := Int.eq_ofNat_of_zero_le hr.1
  have hx : Good (leg ls (m : Int)) := hg _ (leg_mem (by omega))
  have h := specRest_eq (leg ls (m : Int)) hx ax h0 h2 (coL ls ax) (coL_len ls ax) (treesM ls)
  rw [res_all hn hg ax hi] at h
  exact h
theorem squares_loop {ls : L} (hn : ls.length ≤ 12) (hg : ∀ x ∈ ls, Good x) (ax : Int) (h0 : 0 ≤ ax) (h2 : ax ≤ 2) : ∀ (d j : Nat), j + d = (usedL ls).length →
    Ev (fun k => spec_l9Squares.l0 k ls ax (coL ls ax) (treesM ls) (sqTo (resL ls ax) j) (usedL ls) (j : Int)) (redN (SA ls ax) (treesM ls * treesM ls), redD (SA ls ax) (treesM ls * treesM ls)) := by
  have hul := usedL_len ls
  have hrl : (resL ls ax).length = (usedL ls).length := by unfold resL; rw [List.length_map]
  intro d
  induction d with
  | zero =>
    intro j hj
    have ht1 := trees_pos hn hg
    have ht2 := trees_le hn hg
    have hs := SA_bound hn hg ax
    have hsq : treesM ls * treesM ls ≤ 6561 * 6561 := Int.mul_le_mul ht2 ht2 (by omega) (by omega)
    have hsp : 0 < treesM ls * treesM ls := Int.mul_pos (by omega) (by omega)
    have e : sqTo (resL ls ax) j = SA ls ax := by rw [← sqTo_all hn hg ax, hrl, show j = (usedL ls).length by omega]
    rw [e]
    refine Ev.step (f := fun k => (spec_l9Reduce.f k (SA ls ax) (wrap64 (treesM ls * treesM ls))).bind fun bt => some (bt.1, bt.2)) (fun k => ?_) ?_
    · simp only [spec_l9Squares.l0]
      rw [if_neg (by omega)]
    · rw [w64 (by omega) (by omega)]
      exact Ev.bind (l9Reduce_ev (SA ls ax) (treesM ls * treesM ls) hsp (by omega) (by omega) (by omega)) (Ev.now _)
  | succ d ih =>
    intro j hj
    have hlt : j < (usedL ls).length := by omega
    have h := ih (j + 1) (by omega)
    have hm : rd (usedL ls) (j : Int) ∈ usedL ls := by rw [rd_get _ j hlt]; exact List.getElem_mem hlt
    have hr := usedL_range ls _ hm
    have hs := specRest hn hg ax h0 h2 hm
    have e : sqTo (resL ls ax) (j + 1) = wrap64 (sqTo (resL ls ax) j + wrap64 (nT ls ax (rd (usedL ls) (j : Int)) * nT ls ax (rd (usedL ls) (j : Int)))) := by
      rw [sqTo_step _ j (by omega)]
      have e2 : rd (resL ls ax) (j : Int) = nT ls ax (rd (usedL ls) (j : Int)) := by
        rw [rd_get _ j (by omega), rd_get _ j hlt]
        unfold resL
        rw [List.getElem_map]
      rw [e2]
    refine Ev.step (fun k => ?_) h
    simp only [spec_l9Squares.l0]
    rw [if_pos (by omega), if_pos (by omega), if_pos hr.1, if_pos hr.2, hs, Option.bind_some, e, w64 (x := (j : Int) + 1) (by omega) (by omega)]
    rfl
theorem l9Squares_ev {ls : L} (hv : legsB ls = true) (ax : Int) (h0 : 0 ≤ ax) (h2 : ax ≤ 2) : Ev (fun k => spec_l9Squares.f k ls ax) (redN (SA ls ax) (treesM ls * treesM ls), redD (SA ls ax) (treesM ls * treesM ls)) := by
  have h' := legsB_iff.mp hv
  have ht : spec_l9Trees.f ls = some (treesM ls) := by unfold spec_l9Trees.f; rw [if_pos hv]
  have ha : spec_l9Adjust.f ls ax = some (coL ls ax) := by unfold spec_l9Adjust.f; rw [if_pos ⟨hv, h0, h2⟩]
  exact Ev.bindc ha (Ev.bindc ht (Ev.bind (l9Legs_ev h'.2 h'.1) (squares_loop h'.2 h'.1 ax h0 h2 (usedL ls).length 0 (by omega))))
end Go.Proofs.YtpojnobgijoddaaDoor.Net
namespace Go.Proofs.YtpojnobgijoddaaDoor.Net
open Go.RowKit YtpojnobgijoddaaDoorW.PrintWords Plain A Frac
theorem common_ev (a b : Int) (ha : 0 ≤ a) (hb : 0 < b) : Ev (fun k => spec_l10Common.f k a b) (Int.gcd a b : Int) := by
  obtain ⟨z, hz, hs, K, hK⟩ := gcd_loop (g := spec_l10Common.l0) (fin := fun a => a) (fun k a => by
    unfold spec_l10Common.l0; rw [if_pos rfl]) (fun k a b hb => by
    conv => lhs; unfold spec_l10Common.l0
    rw [if_neg hb]) (b.natAbs + 1) a b (by omega)
  have h0 := hs ha (by omega)
  rw [show ((Int.gcd a b : Nat) : Int) = z by omega]
  exact ⟨K, fun k hk => hK k hk⟩
theorem strain_step {ls : L} (hv : legsB ls = true) (ax : Int) (h0 : 0 ≤ ax) (h2 : ax ≤ 2) {num den N : Int} (hR : Red num den N (treesM ls)) (hN : 0 ≤ N) (hN2 : N ≤ 59049000000) :
    ∃ num' den', Red num' den' (N + AM ls ax) (treesM ls) ∧ ∀ v, Ev (fun k => spec_l10Strain.l0 k ls num' den' (ax + 1)) v → Ev (fun k => spec_l10Strain.l0 k ls num den ax) v := by
  have h' := legsB_iff.mp hv
  have ht := trees_pos h'.2 h'.1
  have ht2 := trees_le h'.2 h'.1
  have hsp : 0 < treesM ls * treesM ls := Int.mul_pos (by omega) (by omega)
  have hq := squares_red h'.2 h'.1 (red_red (n := SA ls ax) hsp)
  have hsq := l9Squares_ev hv ax h0 h2
  generalize redN (SA ls ax) (treesM ls * treesM ls) = a at *
  generalize redD (SA ls ax) (treesM ls * treesM ls) = b at *
  have hA := AM_bound h'.2 h'.1 ax
  have hb1 := Red.le (by omega) hA.1 hq
  have hd1 := Red.le (by omega) hN hR
  have hd := hR.1
  have hb := hq.1
  have hg := gcd_small (n := den) hb (by omega)
  have hcm := common_ev den b (by omega) hb
  generalize hgg : Int.gcd den b = g at *
  have e1 : den.tdiv (g : Int) * (g : Int) = den := Int.tdiv_mul_cancel (by rw [← hgg]; exact Int.gcd_dvd_left ..)
  have e2 : b.tdiv (g : Int) * (g : Int) = b := Int.tdiv_mul_cancel (by rw [← hgg]; exact Int.gcd_dvd_right ..)
  have hsum := Red.sum hd hb (g := (g : Int)) (by omega) hR.2.2 hq.2.2 e1 e2
  have q1 := tdiv_small den g (B := 6561) (by omega) (by omega)
  have q2 := tdiv_small b g (B := 6561) (by omega) (by omega)
  have p1 : 0 ≤ den.tdiv (g : Int) := Int.tdiv_nonneg (by omega) (by omega)
  have p2 : 0 ≤ b.tdiv (g : Int) := Int.tdiv_nonneg (by omega) (by omega)
  have w1 := wtdiv den g (by omega) (by omega)
  have w2 := wtdiv b g (by omega) (by omega)
  have hdp : 0 < den.tdiv (g : Int) := by
    rcases Int.lt_or_le 0 (den.tdiv (g : Int)) with c | c
    · exact c
    · exfalso
      rw [show den.tdiv (g : Int) = 0 by omega] at e1
      omega
  generalize hu : den.tdiv (g : Int) = u at *
  generalize htt : b.tdiv (g : Int) = t at *
  have m1 : num * t ≤ 59049000000 * 6561 := Int.mul_le_mul (by omega) (by omega) (by omega) (by omega)
  have m2 : a * u ≤ 59049000000 * 6561 := Int.mul_le_mul (by omega) (by omega) (by omega) (by omega)
  have m3 : u * b ≤ 6561 * 6561 := Int.mul_le_mul (by omega) (by omega) (by omega) (by omega)
  have n1 : 0 ≤ num * t := Int.mul_nonneg (by omega) (by omega)
  have n2 : 0 ≤ a * u := Int.mul_nonneg (by omega) (by omega)
  have n3 : 0 < u * b := Int.mul_pos hdp hb
  have x1 : wrap64 (num * t) = num * t := w64 (by omega) (by omega)
  have x2 : wrap64 (a * u) = a * u := w64 (by omega) (by omega)
  have x3 : wrap64 (u * b) = u * b := w64 (by omega) (by omega)
  have x4 : wrap64 (num * t + a * u) = num * t + a * u := w64 (by omega) (by omega)
  have hred := l9Reduce_ev (num * t + a * u) (u * b) n3 (by omega) (by omega) (by omega)
  have hR2 := Red.change (T := treesM ls) (N := N + AM ls ax) n3 (red_red (n := num * t + a * u) n3) hsum
  refine ⟨_, _, hR2, fun v hv2 => ?_⟩
  have hax : wrap64 (ax + 1) = ax + 1 := w64 (by omega) (by omega)
  refine Ev.step (f := fun k => (spec_l9Squares.f k ls ax).bind fun bt250 => ((spec_l10Common.f k den bt250.2).bind fun t252 => (if t252 = 0 then (none) else ((spec_l10Common.f k den bt250.2).bind fun t253 => (if t253 = 0 then (none) else ((spec_l10Common.f k den bt250.2).bind fun t254 => (if t254 = 0 then (none) else ((spec_l9Reduce.f k (wrap64 ((wrap64 (num * (wrap64 (Int.tdiv bt250.2 t252)))) + (wrap64 (bt250.1 * (wrap64 (Int.tdiv den t253)))))) (wrap64 ((wrap64 (Int.tdiv den t254)) * bt250.2))).bind fun bt255 => (spec_l10Strain.l0 k ls bt255.1 bt255.2 (wrap64 (ax + 1))))))))))) (fun k => ?_) ?_
  · conv => lhs; unfold spec_l10Strain.l0
    rw [if_pos (by omega)]
  · refine Ev.bind hsq (Ev.bind hcm (Ev.neg (by omega) (Ev.bind hcm (Ev.neg (by omega) (Ev.bind hcm (Ev.neg (by omega) ?_))))))
    simp only [w1, w2, htt, hu, x1, x2, x3, x4, hax]
    exact Ev.bind hred hv2
theorem strain_ev {ls : L} (hv : legsB ls = true) : Ev (fun k => spec_l10Strain.f k ls) (sNum ls, sDen ls) := by
  have h' := legsB_iff.mp hv
  have ht := trees_pos h'.2 h'.1
  have a0 := AM_bound h'.2 h'.1 0
  have a1 := AM_bound h'.2 h'.1 1
  have a2 := AM_bound h'.2 h'.1 2
  obtain ⟨n1, d1, r1, s1⟩ := strain_step hv 0 (by decide) (by decide) (num := 0) (den := 1) (N := 0) ⟨by decide, by decide, by omega⟩ (by decide) (by decide)
  obtain ⟨n2, d2, r2, s2⟩ := strain_step hv 1 (by decide) (by decide) r1 (by omega) (by omega)
  obtain ⟨n3, d3, r3, s3⟩ := strain_step hv 2 (by decide) (by decide) r2 (by omega) (by omega)
  have hs := sRed h'.2 h'.1
  rw [show (0 : Int) + AM ls 0 + AM ls 1 + AM ls 2 = sN ls from by unfold sN; omega] at r3
  obtain ⟨e1, e2⟩ := Red.unique (by omega) r3 hs
  rw [← e1, ← e2]
  refine s1 _ (s2 _ (s3 _ ?_))
  refine Ev.step (f := fun _ => some (n3, d3)) (fun k => ?_) (Ev.now _)
  conv => lhs; unfold spec_l10Strain.l0
  rw [if_neg (by omega)]
end Go.Proofs.YtpojnobgijoddaaDoor.Net
namespace Go.Proofs.YtpojnobgijoddaaDoor.Pure
open Go.RowKit YtpojnobgijoddaaDoorW.PrintWords Plain A Legs
theorem less_eq (ls : Net.L) (k : Nat) (hk : k < ls.length) (hb : ls.length ≤ 2000000) : spec_l10Less.f ls (k : Int) = some (Net.less ls k) := by
  have h1 : (ls.take k).length = k := by rw [List.length_take]; omega
  have h2 : (ls.drop (k + 1)).length = ls.length - (k + 1) := List.length_drop
  have hw : wrap64 ((k : Int) + 1) = ((k + 1 : Nat) : Int) := by unfold wrap64; omega
  unfold spec_l10Less.f
  rw [Option.bind_some, if_pos (by omega), if_pos (by omega), Option.bind_some, Int.toNat_natCast, if_pos (by simp only [List.length_nil]; omega), Option.bind_some, List.nil_append, hw, if_pos (by omega), if_pos (by omega), Option.bind_some, Int.toNat_natCast, if_pos (by omega)]
  rfl
theorem strainWithout_ev (ls : Net.L) (i : Int) (hb : ls.length ≤ 2000000) : Ev (fun k => spec_StrainWithout.f k ls i) (witM ls i) := by
  have hstop : Ev (fun k => spec_StrainWithout.j0 k ls i true) (0, 0, false) :=
    Ev.step (f := fun _ => some (0, 0, false)) (fun k => by simp only [spec_StrainWithout.j0, if_true]) (Ev.now _)
  have hpl : Ev (fun k => spec_l10Placed.f k ls i) (Net.legsB ls && decide (i ∈ Net.usedL ls)) := by
    unfold spec_l10Placed.f
    refine Ev.bind (Net.l4Legs_ev ls (by omega)) ?_
    cases h : Net.legsB ls
    · exact Ev.neg (by decide) (Ev.now _)
    · have h' := Net.legsB_iff.mp h
      have hl := Net.usedL_len ls
      exact Ev.pos rfl (Ev.bind (Net.l9Legs_ev h'.2 h'.1) (Ev.bind (Net.has_ev (Net.usedL ls) i (by omega)) (Ev.now _)))
  refine Ev.bind hpl ?_
  unfold witM
  by_cases h : Net.legsB ls = true ∧ i ∈ Net.usedL ls
  · have h' := Net.legsB_iff.mp h.1
    have hr := Net.usedL_range ls i h.2
    refine Ev.pos (by rw [h.1, decide_eq_true h.2]; rfl) ?_
    obtain ⟨k, rfl⟩ := Int.eq_ofNat_of_zero_le hr.1
    have hk : k < ls.length := by omega
    have hp := ((Net.mem_plcL h'.1 (k : Int)).mp h.2).2
    refine Ev.bind (Net.l8Bridge_ev h'.2 h'.1 k hk hp) ?_
    cases hbr : Net.bridgeB ls (k : Int)
    · rw [if_pos ⟨h.1, h.2, rfl⟩, Int.toNat_natCast]
      have hv : Net.legsB (Net.less ls k) = true := Net.legsB_iff.mpr ⟨Net.less_good h'.1 k, by have := Net.less_len ls k hk; have := h'.2; omega⟩
      refine Ev.step (f := fun k' => (spec_l10Strain.f k' (Net.less ls k)).bind fun bt => some (bt.1, bt.2, true)) (fun k' => ?_) (Ev.bind (Net.strain_ev hv) (Ev.now _))
      simp only [spec_StrainWithout.j0, Bool.false_eq_true, if_false]
      rw [less_eq ls k hk hb, Option.bind_some]
    · rw [if_neg (fun e => absurd e.2.2 (by decide))]
      exact hstop
  · rw [if_neg (fun e => h ⟨e.1, e.2.1⟩)]
    refine Ev.neg ?_ hstop
    rw [Bool.and_eq_true, decide_eq_true_eq]
    exact h
theorem FnExactStrainWithout (l0 : List (S47)) (a1 : Int) (hb : l0.length * 40 ≤ 140737488351232) (_ : ∀ x ∈ l0, (Lit.int .i64 x.f0).wf = true ∧ (Lit.int .i64 x.f1).wf = true ∧ (Lit.int .i64 x.f2).wf = true ∧ (Lit.int .i64 x.f3).wf = true ∧ (Lit.int .i64 x.f4).wf = true) (_ : (Lit.int .i64 a1).wf = true) : ∃ k, laws_FnExactStrainWithout.f k l0 a1 = some true := by
  refine Ev.rounds ?_
  have hl : (l0.map cv).length = l0.length := by simp
  have hsz := szLegs_eq l0 (by omega)
  by_cases c : l0.length ≤ 1048576
  · rw [if_pos c] at hsz
    have hs := strainWithout_ev (l0.map cv) a1 (by omega)
    have hi : impl_StrainWithout.f (l0.map cv) a1 = some (witM (l0.map cv) a1) := by unfold impl_StrainWithout.f; rw [if_pos (by omega)]
    generalize witM (l0.map cv) a1 = B at *
    obtain ⟨b0, b1, b2⟩ := B
    have hlegs := toLegs_ev l0 (by omega)
    refine Ev.bindc hsz (Ev.neg (by omega) ?_)
    refine Ev.bind hlegs (Ev.bind hs (Ev.bind hlegs (Ev.bindc hi (Ev.pos rfl (Ev.pos rfl ?_)))))
    refine Ev.step (f := fun k => (laws_toLegS.f k l0).bind fun t => (laws_eqLegS.f k (l0.map cv) t).bind fun t' => if t' = true then some true else some false) (fun k => ?_) ?_
    · simp only [laws_FnExactStrainWithout.j0, bne_self_eq_false, Bool.false_eq_true, if_false]
    · exact Ev.bind hlegs (Ev.bind (eqLegs_ev _ (by omega)) (Ev.pos rfl (Ev.now _)))
  · rw [if_neg c] at hsz
    exact Ev.bindc hsz (Ev.pos (by decide) (Ev.now _))
end Go.Proofs.YtpojnobgijoddaaDoor.Pure
namespace Go.Proofs.YtpojnobgijoddaaDoor.Opens
open Go.ChangeShapes Go.WideShapes Go.Deep Go.RowKit YtpojnobgijoddaaDoorW.PrintWords
theorem list_of {α : Type} {P : Nat → α → Prop} : ∀ (n : Nat), (∀ i, i < n → ∃ x, P i x) → ∃ xs : List α, xs.length = n ∧ ∀ i x, xs[i]? = some x → P i x
  | 0, _ => ⟨[], rfl, fun i x h => by simp at h⟩
  | n + 1, h => by
    obtain ⟨xs, hl, hx⟩ := list_of n (fun i hi => h i (Nat.lt_succ_of_lt hi))
    obtain ⟨y, hy⟩ := h n (Nat.lt_succ_self n)
    refine ⟨xs ++ [y], by simp [hl], fun i x hi => ?_⟩
    by_cases hlt : i < xs.length
    · rw [List.getElem?_append_left hlt] at hi
      exact hx i x hi
    · rw [List.getElem?_append_right (by omega)] at hi
      have h0 : i - xs.length = 0 := by
        have := (List.getElem?_eq_some_iff.1 hi).1
        simp at this
        omega
      rw [h0] at hi
      simp at hi
      subst hi
      have : i = n := by omega
      subst this
      exact hy
section
variable {H : Type} {enc : TypeId × Value → H} {P : Program} {w : World} {base : Nat} {spare : Nat → Bool} {held : Bool}
theorem open_row {α : Type} (d : Kd α) {Q : α → Prop} {t e : TypeId} {a : Option Addr} {len cap : Nat} {dd : DataW H} {ps : List MemPlace} (ht : P.underlying t = some (.slice e)) (hC : P.cellsOf e = d.sz)
    (hd : ∀ n cs y, DataW.trod enc P w base spare held n e cs = some y → ∃ x, d.K w x cs ∧ Q x)
    (h : DataW.Trod enc P w base spare held t (.slice a len cap) dd ps) : ∃ xs : List α, xs.length = len ∧ len ≤ cap ∧ d.C w a len xs ∧ ∀ x ∈ xs, Q x := by
  obtain ⟨fuel, hf⟩ := h
  rcases open_slice ht hf with ⟨hcs, _⟩ | ⟨x, l, c, m, n, D, Pl, hcs, _, hl, hm, hmm, _, hi⟩
  · simp [Value.cells] at hcs
    obtain ⟨rfl, rfl, rfl⟩ := hcs
    exact ⟨[], rfl, Nat.le_refl _, ⟨rfl, by omega, fun h => by omega⟩, fun x hx => by simp at hx⟩
  · simp [Value.cells] at hcs
    obtain ⟨rfl, rfl, rfl⟩ := hcs
    have hle : len ≤ m := by subst hmm; split <;> omega
    obtain ⟨xs, hxl, hx⟩ := list_of (P := fun i (z : α) => Q z ∧ ∃ cs, d.K w z cs ∧ w.cells? base (x.add (i * d.sz)) d.sz = some cs) len (fun i hil => by
      obtain ⟨cs, h1, h2⟩ := hi i (by omega)
      rw [hC] at h1
      obtain ⟨z, h3, h4⟩ := hd _ _ _ h2
      exact ⟨z, h4, cs, h3, h1⟩)
    refine ⟨xs, hxl, hl, ⟨hxl, by unfold maxLen at hm; omega, fun _ => ⟨x, rfl, fun j p hp => ?_⟩⟩, fun z hz => ?_⟩
    · obtain ⟨_, cs, h1, h2⟩ := hx j p hp
      obtain ⟨_, hlen, hat⟩ := World.cells?_some h2
      refine ⟨cs, hlen, h1, fun i u hu => ?_⟩
      have hil : i < d.sz := by have := (List.getElem?_eq_some_iff.1 hu).1; omega
      rw [← Go.Deep.add_add, hat i hil, hu]
    · obtain ⟨j, hj⟩ := List.getElem?_of_mem hz
      exact (hx j z hj).1
theorem sized_row {t e : TypeId} {a : Option Addr} {len cap : Nat} {d : DataW H} {ps : List MemPlace} {ts : List TypeId} {ds : List (DataW H)} {j : Nat}
    (hsz : (DataW.weightsEach P ts ds).all (· ≤ reachBytes) = true) (ht : ts[j]? = some t) (hd : ds[j]? = some d) (hu : P.underlying t = some (.slice e)) {B : Nat} (hB : P.bytesOf e = B)
    (h : DataW.Trod enc P w base spare held t (.slice a len cap) d ps) : len * B ≤ 140737488351232 := by
  obtain ⟨fuel, hf⟩ := h
  rcases open_slice hu hf with ⟨hcs, _⟩ | ⟨x, l, c, m, n, D, Pl, hcs, _, hl, hm, hmm, hx, hi⟩
  · simp [Value.cells] at hcs
    obtain ⟨rfl, rfl, rfl⟩ := hcs
    simp
  · simp [Value.cells] at hcs
    obtain ⟨rfl, rfl, rfl⟩ := hcs
    obtain ⟨hx, _⟩ := Prod.mk.inj hx
    subst hx
    have z := sized_slice hsz ht hd hu
    rw [hB] at z
    simp only [List.length_map, List.length_range] at z
    have hle : len ≤ m := by subst hmm; split <;> omega
    rw [show len + (m - len) = m by omega] at z
    exact Nat.le_trans (Nat.mul_le_mul_right _ hle) z
theorem one_field {f : Field} {cs : List Value} {o c : Nat} (ho : f.offset = o) (hc : P.cellsOf f.type = c) {n : Nat} {y : Option (DataW H × List MemPlace)} (h : DataW.trod enc P w base spare held n f.type ((cs.drop f.offset).take (P.cellsOf f.type)) = y) : DataW.trod enc P w base spare held n f.type ((cs.drop o).take c) = y := by rw [← ho, ← hc]; exact h
end
theorem len5 {α : Type} : ∀ {l : List α}, l.length = 5 → ∃ x0 x1 x2 x3 x4, l = [x0, x1, x2, x3, x4]
  | [x0, x1, x2, x3, x4], _ => ⟨x0, x1, x2, x3, x4, rfl⟩
end Go.Proofs.YtpojnobgijoddaaDoor.Opens
namespace Go.Proofs.YtpojnobgijoddaaDoor.fnExactStrainWithout
open Go.ChangeShapes Go.WideShapes Go.ChangeAt Go.RowKit
open Go.ChangeMaps (open_string shut_string)
open A YtpojnobgijoddaaDoorW.PrintWords Opens
theorem own : ownKnob Tryd.prog.godebug = none := by kernel_rfl
theorem laidOut : laidOutB Tryd.prog = true := by kernel_rfl
theorem open_47 {H : Type} {enc : TypeId × Value → H} {w : World} {base : Nat} {spare : Nat → Bool} {held : Bool} {n : Nat} {cs : List Value} {y : DataW H × List MemPlace} (h : DataW.trod enc Tryd.prog w base spare held n 47 cs = some y) : ∃ (x0 : Int) (x1 : Int) (x2 : Int) (x3 : Int) (x4 : Int), cs = [.int .i64 x0, .int .i64 x1, .int .i64 x2, .int .i64 x3, .int .i64 x4] ∧ (Lit.int .i64 x0).wf = true ∧ (Lit.int .i64 x1).wf = true ∧ (Lit.int .i64 x2).wf = true ∧ (Lit.int .i64 x3).wf = true ∧ (Lit.int .i64 x4).wf = true := by
  obtain ⟨ys, n', _, _, hlen, hys, hf⟩ := DataW.trod_struct Tryd.underlying47 h
  replace hlen : cs.length = 5 := hlen.trans qz5
  replace hys : ys.length = 5 := hys.trans qz5
  clear h
  obtain ⟨c0, c1, c2, c3, c4, rfl⟩ := len5 hlen
  obtain ⟨y0, y1, y2, y3, y4, rfl⟩ := len5 hys
  have h0 : DataW.trod enc Tryd.prog w base spare held n' 3 [c0] = some y0 := one_field (c := 1) (o := 0) rfl qz5 (hf 0 _ rfl)
  obtain ⟨x0, e0, _, w0⟩ := DataW.trod_int Tryd.underlying3 h0
  obtain rfl : c0 = _ := (List.cons.inj e0).1
  have h1 : DataW.trod enc Tryd.prog w base spare held n' 3 [c1] = some y1 := one_field (c := 1) (o := 1) rfl qz5 (hf 1 _ rfl)
  obtain ⟨x1, e1, _, w1⟩ := DataW.trod_int Tryd.underlying3 h1
  obtain rfl : c1 = _ := (List.cons.inj e1).1
  have h2 : DataW.trod enc Tryd.prog w base spare held n' 3 [c2] = some y2 := one_field (c := 1) (o := 2) rfl qz5 (hf 2 _ rfl)
  obtain ⟨x2, e2, _, w2⟩ := DataW.trod_int Tryd.underlying3 h2
  obtain rfl : c2 = _ := (List.cons.inj e2).1
  have h3 : DataW.trod enc Tryd.prog w base spare held n' 3 [c3] = some y3 := one_field (c := 1) (o := 3) rfl qz5 (hf 3 _ rfl)
  obtain ⟨x3, e3, _, w3⟩ := DataW.trod_int Tryd.underlying3 h3
  obtain rfl : c3 = _ := (List.cons.inj e3).1
  have h4 : DataW.trod enc Tryd.prog w base spare held n' 3 [c4] = some y4 := one_field (c := 1) (o := 4) rfl qz5 (hf 4 _ rfl)
  obtain ⟨x4, e4, _, w4⟩ := DataW.trod_int Tryd.underlying3 h4
  obtain rfl : c4 = _ := (List.cons.inj e4).1
  exact ⟨x0, x1, x2, x3, x4, rfl, w0, w1, w2, w3, w4⟩
theorem lifted (os : Os) (started : os.Started) (H : Type) (enc : TypeId × Value → H) :
    ReturnsInHanded {} Tryd.checked os 6 .any (fun w args => (Rows.fnExactStrainWithoutSpec.pre enc Tryd.prog Tryd.f6 [] false w args ∧ laidMetH Tryd.prog LaidT.list w) ∧ sizedMet enc Tryd.prog Tryd.f6 (OpenSpec.ofChange Rows.fnExactStrainWithoutSpec) false w args) (Rows.fnExactStrainWithoutSpec.post enc Tryd.prog Tryd.f6 false true false false) := by
  refine returnsInHanded_of_change_and (C := Tryd.checked) (X := fun w _ => laidMetH Tryd.prog LaidT.list w) (fun _ _ _ hh h => h.of_heap hh) own started qz5 Tryd.func6
    (ChangeSpec.witness_shaped (enc := enc) (C := Tryd.checked) (os := os) (X := fun w _ => laidMetH Tryd.prog LaidT.list w) false (World.doorLaid Tryd.prog 400 os) #[.slice none 0 0, .int .i64 0] 8 rfl (World.shaped_of_RefB qz5 qz5) qz5 qz5 qz5 (LaidT.door_met os _)) ?_
  intro W base args ds gs before hval0 hW hcnd hsz0 hL _
  have hsz : (DataW.weightsEach Tryd.prog (Tryd.f6.params.toList ++ Rows.fnExactStrainWithoutSpec.plain.varTypes Tryd.prog) (ds ++ gs)).all (· ≤ reachBytes) = true := hsz0
  have hval : ∀ (j : Nat) t v, Tryd.f6.params[j]? = some t → args[j]? = some v → Value.okWide Tryd.prog W .any base t v := hval0
  have hW' := hW
  obtain ⟨p, q, hA0, hV, rfl, hfz, hnd⟩ := hW
  have hA : DataW.TrodAll enc Tryd.prog W 0 (fun _ => true) true Tryd.f6.params.toList args.toList ds p := hA0
  rw [Tryd.params6] at hA hval hsz
  obtain ⟨v0, vs0, d0, ds0, p0, q0, hargs, rfl, rfl, h0, r0⟩ := trodAll_cons hA
  obtain ⟨v1, vs1, d1, ds1, p1, q1, rfl, rfl, rfl, h1, r1⟩ := trodAll_cons r0
  obtain ⟨rfl, rfl, rfl⟩ := trodAll_nil r1
  obtain rfl : args = #[v0, v1] := by cases args; simp_all
  have hV2 := hV
  obtain ⟨_, _, _, _, gd, _, rfl, _, _, _, _, _⟩ := trodVars_one hV
  have k0 := h0
  have lt0 : ∀ x ∈ p0, x.block < W.heap.size := by obtain ⟨m, hm⟩ := k0; exact DataW.trod_lt m _ _ _ hm
  obtain ⟨a0, len0, cap0, rfl⟩ := okWide_slice Tryd.underlying22 (hval 0 22 v0 rfl rfl)
  obtain ⟨l0, hl0, hc0, hr0, hw0⟩ := Opens.open_row k47 (Q := fun x => (Lit.int .i64 x.f0).wf = true ∧ (Lit.int .i64 x.f1).wf = true ∧ (Lit.int .i64 x.f2).wf = true ∧ (Lit.int .i64 x.f3).wf = true ∧ (Lit.int .i64 x.f4).wf = true) (e := 47) Tryd.underlying22 qz5 (fun _ _ _ h => by obtain ⟨x0, x1, x2, x3, x4, rfl, hw⟩ := open_47 h; exact ⟨⟨x0, x1, x2, x3, x4⟩, k47_mk _ _, hw⟩) h0
  have y0 : len0 * 40 ≤ 140737488351232 := Opens.sized_row hsz (j := 0) (t := 22) rfl rfl Tryd.underlying22 qz5 h0
  subst hl0
  obtain ⟨a1, rfl, rfl, rfl, w1⟩ := open_int Tryd.underlying3 (hval 1 3 v1 rfl rfl) h1
  clear hA0 hval0 hsz0 hsz
  obtain ⟨k, hk⟩ := Pure.FnExactStrainWithout l0 a1 y0 hw0 w1
  refine (laws_FnExactStrainWithout.calls k _ _ l0 a1 true W hr0 hc0 hk (LaidT.of_laid hL)).mono fun e W' ⟨he, hb⟩ => ?_
  have bel : Below W.heap.size W W' := hb
  subst he
  exact ⟨_, rfl, _, _, _, [], _, _, hW', trodAll_mk1 (shut_bool Tryd.underlying4 _), (trodAll_cons_mk (Below.trod laidOut qz5 (of_decide_eq_true qz5) k0 bel lt0) (trodAll_cons_mk (shut_int Tryd.underlying3 w1) trodAll_mk0)), Below.trodVars laidOut bel qz5 hV2, bel.frame _, fun h => by cases h⟩
theorem over : Rows.fnExactStrainWithoutRow.holds Tryd.pinned (OpenSpec.ofChange Rows.fnExactStrainWithoutSpec) :=
  OpenClaim.holds_of_wide 6 Tryd.f6 rfl rfl rfl rfl rfl rfl rfl ⟨rfl, rfl, rfl, rfl, rfl⟩ rfl rfl rfl rfl rfl qz5 Tryd.func6 qz5
    (of_decide_eq_true qz5) (by unfold Func.isWrapper; first | (rw [if_pos (by decide +kernel)]; kernel_rfl) | (rw [if_neg (by decide +kernel)]; exact ⟨rfl, rfl⟩))
    (fun os started H enc _ => lifted os started H enc)
theorem proved : Rows.FnExactStrainWithoutSaid := over
theorem card_holds : Rows.FnExactStrainWithoutCardSaid :=
  Claim7.holds_tied_plain_at .later [] [.data] true (true, "f35521ca9b23a7300210d85882e5526660475bb4885cbb0315ff34c42be0a49d") false
    over (fun _ h => by cases h) qz5 (fun _ h => by cases h) fnExactStrainWithout_row_tie rfl ⟨rfl, rfl⟩ qz5 rfl
    (fun f fn hf hfn => by
      obtain rfl : f = 6 := Option.some.inj ((show Tryd.prog.funcNamed "loop.example/g00933/laws.FnExactStrainWithout" = some 6 by kernel_rfl).symm.trans hf) |>.symm
      obtain rfl : fn = Tryd.f6 := (Option.some.inj (Tryd.func6.symm.trans hfn)).symm
      exact ⟨by kernel_rfl, fun j t ht => by
        rw [Tryd.params6] at ht
        have hm : t ∈ [22, 3] := by simpa using Array.mem_of_getElem? ht
        have hall : ([22, 3].all fun u => !Tryd.prog.wantsStandIn u) = true := by kernel_rfl
        exact (show Tryd.prog.wantsStandIn t = false by simpa using List.all_eq_true.1 hall t hm)⟩)
    qz5
#print axioms card_holds
end Go.Proofs.YtpojnobgijoddaaDoor.fnExactStrainWithout
namespace Go.Proofs.YtpojnobgijoddaaDoor
theorem fnExactStrainWithout_holds : Rows.FnExactStrainWithoutCardSaid := fnExactStrainWithout.card_holds
end Go.Proofs.YtpojnobgijoddaaDoor
