/- One Lean function and its proof for each Go function, written by a program out of the translation. No conditions. -/
import Derived.Test.YtlipaiabjcaeiaaKFnPoints4
import Derived.Test.YtlipaiabjcaeiaaKFnPoints5
import Derived.Test.YtlipaiabjcaeiaaKFnPoints6
import Derived.Test.YtlipaiabjcaeiaaKFnPointsU2
set_option linter.unusedSimpArgs false
set_option linter.unusedVariables false
namespace Go.Proofs.Ytlipaiabjcaeiaa.A
open Go.Proofs.Ytlipaiabjcaeiaa Go.RowKit YtlipaiabjcaeiaaW.PrintWords YtlipaiabjcaeiaaW.PrintLast YtlipaiabjcaeiaaW.PrintMore
attribute [local go_sem] max2_int min2_int max_two min_two max_three min_three max_four min_four
mutual
def laws_FnPoints.j0 : Nat → List Int → List (S56) → Bool → Bool → Int → Int → Option (Bool)
 | 0, _, _, _, _, _, _ => none
 | k + 1, x0, x5, x6, x57, x622000, x622001 => if x57 = true then (some false) else (if x6 = true then ((impl_DeclinationOn.f k x5 x622000).bind fun bt631 => (if bt631.2 = true then (if bt631.1 = x622001 then ((impl_ArePoints.f k x5).bind fun t633 => (if t633 = true then (laws_FnPoints.j1 k x0) else (some false))) else (some false)) else (some false))) else (laws_FnPoints.j1 k x0))
def laws_FnPoints.j1 : Nat → List Int → Option (Bool)
 | 0, _ => none
 | k + 1, x0 => (spec_DrawNeedlessPoints.f k x0).bind fun t634 => ((impl_NeedlessPoints.f t634).bind fun bt637 => ((spec_NeedlessPoints.f k t634).bind fun bt641 => (if (bt637.2 != bt641.2) = true then (laws_FnPoints.j2 k x0 t634 bt637.1 true) else ((laws_rInts.f k bt637.1 bt641.1).bind fun t645 => (laws_FnPoints.j2 k x0 t634 bt637.1 (!t645))))))
def laws_FnPoints.j2 : Nat → List Int → List (S56) → List Int → Bool → Option (Bool)
 | 0, _, _, _, _ => none
 | k + 1, x0, x11, x12, x99 => if x99 = true then (some false) else (laws_FnPoints.l0 k x0 x11 x12 0)
def laws_FnPoints.l0 : Nat → List Int → List (S56) → List Int → Int → Option (Bool)
 | 0, _, _, _, _ => none
 | k + 1, x0, x11, x12, x16 => if x16 < (x12.length : Int) then (if 0 ≤ x16 then ((some (([] : List (S56)) : List (S56))).bind fun y655 => (if 0 ≤ (rd x12 x16) then (if (rd x12 x16) ≤ (x11.length : Int) then ((some (x11.take ((rd x12 x16) : Int).toNat : List (S56))).bind fun y658 => (if y655.length + y658.length < 8796093022208 then ((some (y655 ++ y658 : List (S56))).bind fun y662 => (if 0 ≤ (wrap64 ((rd x12 x16) + 1)) then (if (wrap64 ((rd x12 x16) + 1)) ≤ (x11.length : Int) then ((some (x11.drop ((wrap64 ((rd x12 x16) + 1)) : Int).toNat : List (S56))).bind fun y665 => (if y662.length + y665.length < 8796093022208 then (laws_FnPoints.l1 k x0 x11 x12 x16 (y662 ++ y665) 0) else (none))) else (none)) else (none))) else (none))) else (none)) else (none))) else (none)) else ((spec_DrawDeclinationOn.f k x0).bind fun bt646 => ((impl_DeclinationOn.f k bt646.1 bt646.2).bind fun bt650 => ((spec_DeclinationOn.f k bt646.1 bt646.2).bind fun bt652 => (if bt650.1 = bt652.1 then (some (bt650.2 == bt652.2)) else (some false)))))
def laws_FnPoints.l1 : Nat → List Int → List (S56) → List Int → Int → List (S56) → Int → Option (Bool)
 | 0, _, _, _, _, _, _ => none
 | k + 1, x0, x11, x12, x16, x18, x19 => if x19 ≤ 999 then ((impl_DeclinationOn.f k x11 x19).bind fun bt672 => ((impl_DeclinationOn.f k x18 x19).bind fun bt674 => (if bt672.2 = true then (if bt674.2 = true then (if bt672.1 = bt674.1 then (laws_FnPoints.l1 k x0 x11 x12 x16 x18 (wrap64 (x19 + 37))) else (some false)) else (some false)) else (some false)))) else (laws_FnPoints.l0 k x0 x11 x12 (wrap64 (x16 + 1)))
end
def laws_FnPoints.f (k : Nat) (l0 : List Int) : Option (Bool) := (laws_rBig.f l0).bind fun t615 => (if t615 = true then (some true) else ((spec_DrawAddPoint.f k l0).bind fun bt616 => ((impl_AddPoint.f bt616.1 bt616.2.1 bt616.2.2).bind fun bt622 => ((spec_AddPoint.f k bt616.1 bt616.2.1 bt616.2.2).bind fun bt626 => (if (bt622.2 != bt626.2) = true then (laws_FnPoints.j0 k l0 bt622.1 bt622.2 true bt616.2.1 bt616.2.2) else ((laws_rPoints.f k bt622.1 bt626.1).bind fun t630 => (laws_FnPoints.j0 k l0 bt622.1 bt622.2 (!t630) bt616.2.1 bt616.2.2)))))))
theorem laws_FnPoints.mono_l : ∀ k, (∀ y0 y1 y2 y3 y4 y5, LeO (laws_FnPoints.j0 k y0 y1 y2 y3 y4 y5) (laws_FnPoints.j0 (k + 1) y0 y1 y2 y3 y4 y5)) ∧ (∀ y0, LeO (laws_FnPoints.j1 k y0) (laws_FnPoints.j1 (k + 1) y0)) ∧ (∀ y0 y1 y2 y3, LeO (laws_FnPoints.j2 k y0 y1 y2 y3) (laws_FnPoints.j2 (k + 1) y0 y1 y2 y3)) ∧ (∀ y0 y1 y2 y3, LeO (laws_FnPoints.l0 k y0 y1 y2 y3) (laws_FnPoints.l0 (k + 1) y0 y1 y2 y3)) ∧ (∀ y0 y1 y2 y3 y4 y5, LeO (laws_FnPoints.l1 k y0 y1 y2 y3 y4 y5) (laws_FnPoints.l1 (k + 1) y0 y1 y2 y3 y4 y5))
 | 0 => ⟨fun _ _ _ _ _ _ r h => by simp [laws_FnPoints.j0] at h, fun _ r h => by simp [laws_FnPoints.j1] at h, fun _ _ _ _ r h => by simp [laws_FnPoints.j2] at h, fun _ _ _ _ r h => by simp [laws_FnPoints.l0] at h, fun _ _ _ _ _ _ r h => by simp [laws_FnPoints.l1] at h⟩
 | k + 1 => by
  obtain ⟨ih0, ih1, ih2, ih3, ih4⟩ := laws_FnPoints.mono_l k
  refine ⟨?_, ?_, ?_, ?_, ?_⟩
  ·
   intro y0 y1 y2 y3 y4 y5
   unfold laws_FnPoints.j0
   repeat' first
   | (with_reducible exact ih0 _ _ _ _ _ _)
   | (with_reducible exact ih1 _)
   | (with_reducible exact ih2 _ _ _ _)
   | (with_reducible exact ih3 _ _ _ _)
   | (with_reducible exact ih4 _ _ _ _ _ _)
   | (with_reducible exact impl_ArePoints.mono _ _)
   | (with_reducible exact impl_DeclinationOn.mono _ _ _)
   | (with_reducible exact laws_rInts.mono _ _ _)
   | (with_reducible exact laws_rPoints.mono _ _ _)
   | (with_reducible exact spec_AddPoint.mono _ _ _ _)
   | (with_reducible exact spec_DeclinationOn.mono _ _ _)
   | (with_reducible exact spec_DrawAddPoint.mono _ _)
   | (with_reducible exact spec_DrawDeclinationOn.mono _ _)
   | (with_reducible exact spec_DrawNeedlessPoints.mono _ _)
   | (with_reducible exact spec_NeedlessPoints.mono _ _)
   | (with_reducible exact LeO.refl _)
   | (with_reducible exact LeO.none _)
   | (with_reducible refine LeO.ite ?_ ?_)
   | (with_reducible refine LeO.bind ?_ (fun _ => ?_))
   | exact ih0 _ _ _ _ _ _
   | exact ih1 _
   | exact ih2 _ _ _ _
   | exact ih3 _ _ _ _
   | exact ih4 _ _ _ _ _ _
   | exact impl_ArePoints.mono _ _
   | exact impl_DeclinationOn.mono _ _ _
   | exact laws_rInts.mono _ _ _
   | exact laws_rPoints.mono _ _ _
   | exact spec_AddPoint.mono _ _ _ _
   | exact spec_DeclinationOn.mono _ _ _
   | exact spec_DrawAddPoint.mono _ _
   | exact spec_DrawDeclinationOn.mono _ _
   | exact spec_DrawNeedlessPoints.mono _ _
   | exact spec_NeedlessPoints.mono _ _
   | exact LeO.none _
   | refine LeO.ite ?_ ?_
   | refine LeO.bind ?_ (fun _ => ?_)
  ·
   intro y0
   unfold laws_FnPoints.j1
   repeat' first
   | (with_reducible exact ih0 _ _ _ _ _ _)
   | (with_reducible exact ih1 _)
   | (with_reducible exact ih2 _ _ _ _)
   | (with_reducible exact ih3 _ _ _ _)
   | (with_reducible exact ih4 _ _ _ _ _ _)
   | (with_reducible exact impl_ArePoints.mono _ _)
   | (with_reducible exact impl_DeclinationOn.mono _ _ _)
   | (with_reducible exact laws_rInts.mono _ _ _)
   | (with_reducible exact laws_rPoints.mono _ _ _)
   | (with_reducible exact spec_AddPoint.mono _ _ _ _)
   | (with_reducible exact spec_DeclinationOn.mono _ _ _)
   | (with_reducible exact spec_DrawAddPoint.mono _ _)
   | (with_reducible exact spec_DrawDeclinationOn.mono _ _)
   | (with_reducible exact spec_DrawNeedlessPoints.mono _ _)
   | (with_reducible exact spec_NeedlessPoints.mono _ _)
   | (with_reducible exact LeO.refl _)
   | (with_reducible exact LeO.none _)
   | (with_reducible refine LeO.ite ?_ ?_)
   | (with_reducible refine LeO.bind ?_ (fun _ => ?_))
   | exact ih0 _ _ _ _ _ _
   | exact ih1 _
   | exact ih2 _ _ _ _
   | exact ih3 _ _ _ _
   | exact ih4 _ _ _ _ _ _
   | exact impl_ArePoints.mono _ _
   | exact impl_DeclinationOn.mono _ _ _
   | exact laws_rInts.mono _ _ _
   | exact laws_rPoints.mono _ _ _
   | exact spec_AddPoint.mono _ _ _ _
   | exact spec_DeclinationOn.mono _ _ _
   | exact spec_DrawAddPoint.mono _ _
   | exact spec_DrawDeclinationOn.mono _ _
   | exact spec_DrawNeedlessPoints.mono _ _
   | exact spec_NeedlessPoints.mono _ _
   | exact LeO.none _
   | refine LeO.ite ?_ ?_
   | refine LeO.bind ?_ (fun _ => ?_)
  ·
   intro y0 y1 y2 y3
   unfold laws_FnPoints.j2
   repeat' first
   | (with_reducible exact ih0 _ _ _ _ _ _)
   | (with_reducible exact ih1 _)
   | (with_reducible exact ih2 _ _ _ _)
   | (with_reducible exact ih3 _ _ _ _)
   | (with_reducible exact ih4 _ _ _ _ _ _)
   | (with_reducible exact impl_ArePoints.mono _ _)
   | (with_reducible exact impl_DeclinationOn.mono _ _ _)
   | (with_reducible exact laws_rInts.mono _ _ _)
   | (with_reducible exact laws_rPoints.mono _ _ _)
   | (with_reducible exact spec_AddPoint.mono _ _ _ _)
   | (with_reducible exact spec_DeclinationOn.mono _ _ _)
   | (with_reducible exact spec_DrawAddPoint.mono _ _)
   | (with_reducible exact spec_DrawDeclinationOn.mono _ _)
   | (with_reducible exact spec_DrawNeedlessPoints.mono _ _)
   | (with_reducible exact spec_NeedlessPoints.mono _ _)
   | (with_reducible exact LeO.refl _)
   | (with_reducible exact LeO.none _)
   | (with_reducible refine LeO.ite ?_ ?_)
   | (with_reducible refine LeO.bind ?_ (fun _ => ?_))
   | exact ih0 _ _ _ _ _ _
   | exact ih1 _
   | exact ih2 _ _ _ _
   | exact ih3 _ _ _ _
   | exact ih4 _ _ _ _ _ _
   | exact impl_ArePoints.mono _ _
   | exact impl_DeclinationOn.mono _ _ _
   | exact laws_rInts.mono _ _ _
   | exact laws_rPoints.mono _ _ _
   | exact spec_AddPoint.mono _ _ _ _
   | exact spec_DeclinationOn.mono _ _ _
   | exact spec_DrawAddPoint.mono _ _
   | exact spec_DrawDeclinationOn.mono _ _
   | exact spec_DrawNeedlessPoints.mono _ _
   | exact spec_NeedlessPoints.mono _ _
   | exact LeO.none _
   | refine LeO.ite ?_ ?_
   | refine LeO.bind ?_ (fun _ => ?_)
  ·
   intro y0 y1 y2 y3
   unfold laws_FnPoints.l0
   repeat' first
   | (with_reducible exact ih0 _ _ _ _ _ _)
   | (with_reducible exact ih1 _)
   | (with_reducible exact ih2 _ _ _ _)
   | (with_reducible exact ih3 _ _ _ _)
   | (with_reducible exact ih4 _ _ _ _ _ _)
   | (with_reducible exact impl_ArePoints.mono _ _)
   | (with_reducible exact impl_DeclinationOn.mono _ _ _)
   | (with_reducible exact laws_rInts.mono _ _ _)
   | (with_reducible exact laws_rPoints.mono _ _ _)
   | (with_reducible exact spec_AddPoint.mono _ _ _ _)
   | (with_reducible exact spec_DeclinationOn.mono _ _ _)
   | (with_reducible exact spec_DrawAddPoint.mono _ _)
   | (with_reducible exact spec_DrawDeclinationOn.mono _ _)
   | (with_reducible exact spec_DrawNeedlessPoints.mono _ _)
   | (with_reducible exact spec_NeedlessPoints.mono _ _)
   | (with_reducible exact LeO.refl _)
   | (with_reducible exact LeO.none _)
   | (with_reducible refine LeO.ite ?_ ?_)
   | (with_reducible refine LeO.bind ?_ (fun _ => ?_))
   | exact ih0 _ _ _ _ _ _
   | exact ih1 _
   | exact ih2 _ _ _ _
   | exact ih3 _ _ _ _
   | exact ih4 _ _ _ _ _ _
   | exact impl_ArePoints.mono _ _
   | exact impl_DeclinationOn.mono _ _ _
   | exact laws_rInts.mono _ _ _
   | exact laws_rPoints.mono _ _ _
   | exact spec_AddPoint.mono _ _ _ _
   | exact spec_DeclinationOn.mono _ _ _
   | exact spec_DrawAddPoint.mono _ _
   | exact spec_DrawDeclinationOn.mono _ _
   | exact spec_DrawNeedlessPoints.mono _ _
   | exact spec_NeedlessPoints.mono _ _
   | exact LeO.none _
   | refine LeO.ite ?_ ?_
   | refine LeO.bind ?_ (fun _ => ?_)
  ·
   intro y0 y1 y2 y3 y4 y5
   unfold laws_FnPoints.l1
   repeat' first
   | (with_reducible exact ih0 _ _ _ _ _ _)
   | (with_reducible exact ih1 _)
   | (with_reducible exact ih2 _ _ _ _)
   | (with_reducible exact ih3 _ _ _ _)
   | (with_reducible exact ih4 _ _ _ _ _ _)
   | (with_reducible exact impl_ArePoints.mono _ _)
   | (with_reducible exact impl_DeclinationOn.mono _ _ _)
   | (with_reducible exact laws_rInts.mono _ _ _)
   | (with_reducible exact laws_rPoints.mono _ _ _)
   | (with_reducible exact spec_AddPoint.mono _ _ _ _)
   | (with_reducible exact spec_DeclinationOn.mono _ _ _)
   | (with_reducible exact spec_DrawAddPoint.mono _ _)
   | (with_reducible exact spec_DrawDeclinationOn.mono _ _)
   | (with_reducible exact spec_DrawNeedlessPoints.mono _ _)
   | (with_reducible exact spec_NeedlessPoints.mono _ _)
   | (with_reducible exact LeO.refl _)
   | (with_reducible exact LeO.none _)
   | (with_reducible refine LeO.ite ?_ ?_)
   | (with_reducible refine LeO.bind ?_ (fun _ => ?_))
   | exact ih0 _ _ _ _ _ _
   | exact ih1 _
   | exact ih2 _ _ _ _
   | exact ih3 _ _ _ _
   | exact ih4 _ _ _ _ _ _
   | exact impl_ArePoints.mono _ _
   | exact impl_DeclinationOn.mono _ _ _
   | exact laws_rInts.mono _ _ _
   | exact laws_rPoints.mono _ _ _
   | exact spec_AddPoint.mono _ _ _ _
   | exact spec_DeclinationOn.mono _ _ _
   | exact spec_DrawAddPoint.mono _ _
   | exact spec_DrawDeclinationOn.mono _ _
   | exact spec_DrawNeedlessPoints.mono _ _
   | exact spec_NeedlessPoints.mono _ _
   | exact LeO.none _
   | refine LeO.ite ?_ ?_
   | refine LeO.bind ?_ (fun _ => ?_)
theorem laws_FnPoints.mono : ∀ a0 k, LeO (laws_FnPoints.f k a0) (laws_FnPoints.f (k + 1) a0) := by
 intro a0 k
 obtain ⟨ih0, ih1, ih2, ih3, ih4⟩ := laws_FnPoints.mono_l k
 unfold laws_FnPoints.f
 repeat' first
   | (with_reducible exact ih0 _ _ _ _ _ _)
   | (with_reducible exact ih1 _)
   | (with_reducible exact ih2 _ _ _ _)
   | (with_reducible exact ih3 _ _ _ _)
   | (with_reducible exact ih4 _ _ _ _ _ _)
   | (with_reducible exact impl_ArePoints.mono _ _)
   | (with_reducible exact impl_DeclinationOn.mono _ _ _)
   | (with_reducible exact laws_rInts.mono _ _ _)
   | (with_reducible exact laws_rPoints.mono _ _ _)
   | (with_reducible exact spec_AddPoint.mono _ _ _ _)
   | (with_reducible exact spec_DeclinationOn.mono _ _ _)
   | (with_reducible exact spec_DrawAddPoint.mono _ _)
   | (with_reducible exact spec_DrawDeclinationOn.mono _ _)
   | (with_reducible exact spec_DrawNeedlessPoints.mono _ _)
   | (with_reducible exact spec_NeedlessPoints.mono _ _)
   | (with_reducible exact LeO.refl _)
   | (with_reducible exact LeO.none _)
   | (with_reducible refine LeO.ite ?_ ?_)
   | (with_reducible refine LeO.bind ?_ (fun _ => ?_))
   | exact ih0 _ _ _ _ _ _
   | exact ih1 _
   | exact ih2 _ _ _ _
   | exact ih3 _ _ _ _
   | exact ih4 _ _ _ _ _ _
   | exact impl_ArePoints.mono _ _
   | exact impl_DeclinationOn.mono _ _ _
   | exact laws_rInts.mono _ _ _
   | exact laws_rPoints.mono _ _ _
   | exact spec_AddPoint.mono _ _ _ _
   | exact spec_DeclinationOn.mono _ _ _
   | exact spec_DrawAddPoint.mono _ _
   | exact spec_DrawDeclinationOn.mono _ _
   | exact spec_DrawNeedlessPoints.mono _ _
   | exact spec_NeedlessPoints.mono _ _
   | exact LeO.none _
   | refine LeO.ite ?_ ?_
   | refine LeO.bind ?_ (fun _ => ?_)
def laws_FnPoints.T21 : Bool × List (List Nat × List Nat) := (true, [([], []), ([], []), ([], []), ([1, 2], [1, 2]), ([0, 3], [0, 3]), ([], []), ([], []), ([6], [6]), ([5, 7], [5, 7]), ([4, 8, 4], [4, 8]), ([9, 9, 0, 1, 2, 3, 4, 5, 6, 7, 8, 9], [9])])
def laws_FnPoints.B21 : List Nat := [0, 0, 0, 6, 15, 0, 0, 64, 224, 511, 1023]
theorem laws_FnPoints.tab21 : rtab .any (opsOf Try.f5 21) = laws_FnPoints.T21 := by kernel_rfl
theorem laws_FnPoints.bits21 : waitsOk laws_FnPoints.T21.2 laws_FnPoints.B21 = true := by kernel_rfl
set_option maxHeartbeats 8000000 in
set_option maxRecDepth 100000 in
theorem laws_FnPoints.calls (k : Nat) (A0 : Option Addr) (c0 : Nat) (l0 : List Int) (r : Bool) (w : World) (hr0 : Kd.C (Kd.int .u8) w A0 l0.length l0) (hc0 : l0.length ≤ c0) (h : laws_FnPoints.f k l0 = some true) (hL : Net.Sine.Laid w) :
  Calls Try.prog 5 #[.slice A0 l0.length c0] w fun e w' => e = .returned (.bool true) ∧ Below w.heap.size w w' := by
 have HL := Aside0.mk hL
 clear hL
 have hu56 := Try.underlying56
 have HR0 := Aside0.mk hr0
 have HC0 := Aside0.mk hc0
 clear hr0 hc0
 have HB := Aside0.mk (Below.refl w.heap.size w)
 have H : ((laws_rBig.f l0).bind fun t615 => (if t615 = true then (some true) else ((spec_DrawAddPoint.f k l0).bind fun bt616 => ((impl_AddPoint.f bt616.1 bt616.2.1 bt616.2.2).bind fun bt622 => ((spec_AddPoint.f k bt616.1 bt616.2.1 bt616.2.2).bind fun bt626 => (if (bt622.2 != bt626.2) = true then (laws_FnPoints.j0 k l0 bt622.1 bt622.2 true bt616.2.1 bt616.2.2) else ((laws_rPoints.f k bt622.1 bt626.1).bind fun t630 => (laws_FnPoints.j0 k l0 bt622.1 bt622.2 (!t630) bt616.2.1 bt616.2.2)))))))) = some true := h
 clear h
 replace H := Option.bind_eq_some_iff.mp H
 obtain ⟨t615, A20, H⟩ := H
 replace H : (if t615 = true then (some true) else ((spec_DrawAddPoint.f k l0).bind fun bt616 => ((impl_AddPoint.f bt616.1 bt616.2.1 bt616.2.2).bind fun bt622 => ((spec_AddPoint.f k bt616.1 bt616.2.1 bt616.2.2).bind fun bt626 => (if (bt622.2 != bt626.2) = true then (laws_FnPoints.j0 k l0 bt622.1 bt622.2 true bt616.2.1 bt616.2.2) else ((laws_rPoints.f k bt622.1 bt626.1).bind fun t630 => (laws_FnPoints.j0 k l0 bt622.1 bt622.2 (!t630) bt616.2.1 bt616.2.2))))))) = some true := H
 have A2 := Aside0.mk A20
 clear A20
 by_cases c3 : t615 = true
 ·
  subst c3
  have H1 : (some true) = some true := rfl
  clear H
  have H := H1
  clear H1
  go_enter Try.func5, Try.ntmps5
  go_wp2_with (first | ((with_reducible refine gate_callee (f := 6) rfl ?_); refine goesL_ (some 31) rfl rfl Try.func6 qz10 rfl #[.slice A0 l0.length c0] rfl qz2 ?_; (with_reducible refine (laws_rBig.calls _ _ l0 true _ ?side1 ?side2 A2.out).mono ?_); (case side1 => repeat (first | exact HR0.out | (with_reducible refine Kd.C_alloc ?_ _) | (with_reducible refine Kd.C_drewN ?_ _) | (with_reducible refine Kd.C_drew ?_))); (case side2 => exact HC0.out); rintro e w' ⟨rfl, ⟨nd, rfl⟩⟩; refine ⟨_, rfl, ?_⟩))
  go_ret
  exact ⟨by first | rfl | (simp [errW_none, errW_some] <;> rfl) | (simp [*, errW_none, errW_some] <;> rfl), by repeat (first | (with_reducible first | exact HB.out | apply below_alloc | apply pw_below_drewN | apply below_drew1) | exact HB.out)⟩
 ·
  replace c3 := Bool.eq_false_iff.mpr c3
  subst c3
  have H1 : ((spec_DrawAddPoint.f k l0).bind fun bt616 => ((impl_AddPoint.f bt616.1 bt616.2.1 bt616.2.2).bind fun bt622 => ((spec_AddPoint.f k bt616.1 bt616.2.1 bt616.2.2).bind fun bt626 => (if (bt622.2 != bt626.2) = true then (laws_FnPoints.j0 k l0 bt622.1 bt622.2 true bt616.2.1 bt616.2.2) else ((laws_rPoints.f k bt622.1 bt626.1).bind fun t630 => (laws_FnPoints.j0 k l0 bt622.1 bt622.2 (!t630) bt616.2.1 bt616.2.2)))))) = some true := by rw [if_neg (show ¬ (false = true) by decide)] at H; exact H
  clear H
  have H := H1
  clear H1
  replace H := Option.bind_eq_some_iff.mp H
  obtain ⟨⟨t616, t619, t620⟩, A40, H⟩ := H
  replace H : ((impl_AddPoint.f t616 t619 t620).bind fun bt622 => ((spec_AddPoint.f k t616 t619 t620).bind fun bt626 => (if (bt622.2 != bt626.2) = true then (laws_FnPoints.j0 k l0 bt622.1 bt622.2 true t619 t620) else ((laws_rPoints.f k bt622.1 bt626.1).bind fun t630 => (laws_FnPoints.j0 k l0 bt622.1 bt622.2 (!t630) t619 t620))))) = some true := H
  have A4 := Aside0.mk A40
  clear A40
  replace H := Option.bind_eq_some_iff.mp H
  obtain ⟨⟨t622, t625⟩, A50, H⟩ := H
  replace H : ((spec_AddPoint.f k t616 t619 t620).bind fun bt626 => (if (t625 != bt626.2) = true then (laws_FnPoints.j0 k l0 t622 t625 true t619 t620) else ((laws_rPoints.f k t622 bt626.1).bind fun t630 => (laws_FnPoints.j0 k l0 t622 t625 (!t630) t619 t620)))) = some true := H
  have A5 := Aside0.mk A50
  clear A50
  replace H := Option.bind_eq_some_iff.mp H
  obtain ⟨⟨t626, t629⟩, A60, H⟩ := H
  replace H : (if (t625 != t629) = true then (laws_FnPoints.j0 k l0 t622 t625 true t619 t620) else ((laws_rPoints.f k t622 t626).bind fun t630 => (laws_FnPoints.j0 k l0 t622 t625 (!t630) t619 t620))) = some true := H
  have A6 := Aside0.mk A60
  clear A60
  have HC7 := Aside0.mk H
  clear H
  go_enter Try.func5, Try.ntmps5
  go_upto_region 6 with (first | ((with_reducible refine gate_callee (f := 6) rfl ?_); refine goesL_ (some 31) rfl rfl Try.func6 qz10 rfl #[.slice A0 l0.length c0] rfl qz2 ?_; (with_reducible refine (laws_rBig.calls _ _ l0 false _ ?side1 ?side2 A2.out).mono ?_); (case side1 => repeat (first | exact HR0.out | (with_reducible refine Kd.C_alloc ?_ _) | (with_reducible refine Kd.C_drewN ?_ _) | (with_reducible refine Kd.C_drew ?_))); (case side2 => exact HC0.out); rintro e w' ⟨rfl, ⟨nd, rfl⟩⟩; refine ⟨_, rfl, ?_⟩) | ((with_reducible refine gate_callee (f := 38) rfl ?_); refine goesL_ (some 34) rfl rfl Try.func38 qz10 rfl #[.slice A0 l0.length c0] rfl qz2 ?_; (with_reducible refine (spec_DrawAddPoint.calls k _ _ l0 t616 t619 t620 _ ?side1 ?side2 A4.out).mono ?_); (case side1 => repeat (first | exact HR0.out | (with_reducible refine Kd.C_alloc ?_ _) | (with_reducible refine Kd.C_drewN ?_ _) | (with_reducible refine Kd.C_drew ?_))); (case side2 => exact HC0.out); rintro e w8 ⟨v617, rfl, ho0, hb⟩; refine ⟨_, rfl, ?_⟩; have n0_ := Aside0.mk (Kd.R_lower ho0 (below_size qz1)); have n1_ := Aside0.mk (below_step qz1 hb); clear HB; have HO618 := n0_; have HB := n1_; clear n0_ n1_; (try clear hb); (try clear hb2); (try clear hk); (try clear hi); (try clear ho0)) | ((with_reducible refine gate_dst (N := 4) rfl ?_); refine box_event ?hg (N := 4) ?hd (cs := #[.int .i64 0, .int .i64 0]) (t := 56) ?hr ?_; (case hd => rfl); (case hg => rfl); (case hr => first | (go_simp; done) | (go_simp; rfl)); intro gb621 hg w9 hbox hb; have n0_ := Aside0.mk (Kd.R_below (Kd.R_elderB qz74 gb621 (Nat.le_of_eq hg.symm)) hb); have n1_ := Aside0.mk (below_step qz1 hb); have n2_ := Aside0.mk (hbox); have n3_ := Aside0.mk ((by rw [hg]; exact (below_size qz1) : w.heap.size ≤ gb621)); have n4_ := Aside0.mk ((by rw [hg]; exact (below_size qz1) : w.heap.size ≤ gb621)); clear HO618; clear HB; have HO618 := n0_; have HB := n1_; have BK621 := n2_; have GW621 := n3_; have GE621 := n4_; clear n0_ n1_ n2_ n3_ n4_; clear hb hbox hg; have hcz10_0 : w9.cell? ⟨gb621, 0, none⟩ = some (.int .i64 0) := (blk_cell BK621.out 0).trans rfl; have hcz10_1 : w9.cell? ⟨gb621, 1, none⟩ = some (.int .i64 0) := (blk_cell BK621.out 1).trans rfl; have hfz10_0 := blk_frozen BK621.out 0; have hfz10_1 := blk_frozen BK621.out 1; obtain ⟨Ao11, co11, eo11⟩ := Kd.R_slice HO618.out; subst eo11) | ((with_reducible refine gate_callee (f := 39) rfl ?_); refine goesL_ (some 40) rfl rfl Try.func39 qz10 rfl #[.slice Ao11 t616.length co11, .agg #[.int .i64 t619, .int .i64 t620]] rfl qz2 ?_; (with_reducible refine (impl_AddPoint.calls _ _ t616 t619 t620 t622 t625 _ ?side1 ?side2 A5.out ?sideL).mono ?_); (case sideL => exact HL.out.keep (by repeat (first | (with_reducible first | exact HB.out | apply below_alloc | apply pw_below_drewN | apply below_drew1 | refine below_set ?_ (Aside0.out (by assumption))) | exact HB.out))); (case side1 => refine (Kd.R_reads' (e := 56) (base := w.heap.size) (ok := fun k_ => (True ∧ k_ ≠ gb621)) (n := t616.length) (c := co11) ?_).2.2; exact qz57); (case side2 => exact (Kd.R_reads' HO618.out).2.1); rintro e w12 ⟨v623, rfl, ho0, hb⟩; refine ⟨_, rfl, ?_⟩; have n0_ := Aside0.mk (Kd.R_elder' qz57 (Kd.R_base ho0) hb); have n1_ := Aside0.mk (Kd.R_lower (Kd.R_newB (Kd.R_new' ho0 (Kd.R_lt qz57)) (g := gb621) (o := .cells #[.int .i64 t619, .int .i64 t620] 56 (0, 0)) (by (with_reducible repeat (first | refine blk_drewN ?_ _ | refine blk_drew ?_ | refine blk_alloc ?_ _)); refine blk_put (cs := #[.int .i64 t619, .int .i64 0]) ?_ 1 _ rfl; (with_reducible repeat (first | refine blk_drewN ?_ _ | refine blk_drew ?_ | refine blk_alloc ?_ _)); refine blk_put (cs := #[.int .i64 0, .int .i64 0]) ?_ 0 _ rfl; (with_reducible repeat (first | refine blk_drewN ?_ _ | refine blk_drew ?_ | refine blk_alloc ?_ _)); exact BK621.out)) (below_size qz7)); have n2_ := Aside0.mk (blk_below (g := gb621) (o := .cells #[.int .i64 t619, .int .i64 t620] 56 (0, 0)) (by (with_reducible repeat (first | refine blk_drewN ?_ _ | refine blk_drew ?_ | refine blk_alloc ?_ _)); refine blk_put (cs := #[.int .i64 t619, .int .i64 0]) ?_ 1 _ rfl; (with_reducible repeat (first | refine blk_drewN ?_ _ | refine blk_drew ?_ | refine blk_alloc ?_ _)); refine blk_put (cs := #[.int .i64 0, .int .i64 0]) ?_ 0 _ rfl; (with_reducible repeat (first | refine blk_drewN ?_ _ | refine blk_drew ?_ | refine blk_alloc ?_ _)); exact BK621.out) hb); have n3_ := Aside0.mk (below_step qz7 hb); clear HO618; clear BK621; clear HB; have HO618 := n0_; have HO624 := n1_; have BK621 := n2_; have HB := n3_; clear n0_ n1_ n2_ n3_; (try clear hb); (try clear hb2); (try clear hk); (try clear hi); (try clear ho0); have hcz13_0 : w12.cell? ⟨gb621, 0, none⟩ = some (.int .i64 t619) := (blk_cell BK621.out 0).trans rfl; have hcz13_1 : w12.cell? ⟨gb621, 1, none⟩ = some (.int .i64 t620) := (blk_cell BK621.out 1).trans rfl; have hfz13_0 := blk_frozen BK621.out 0; have hfz13_1 := blk_frozen BK621.out 1) | ((with_reducible refine gate_callee (f := 40) rfl ?_); refine goesL_ (some 46) rfl rfl Try.func40 qz10 rfl #[.slice Ao11 t616.length co11, .agg #[.int .i64 t619, .int .i64 t620]] rfl qz2 ?_; (with_reducible refine (spec_AddPoint.calls k _ _ t616 t619 t620 t626 t629 _ ?side1 ?side2 A6.out).mono ?_); (case side1 => repeat (first | exact (Kd.R_reads' HO618.out).2.2 | (with_reducible refine Kd.C_alloc ?_ _) | (with_reducible refine Kd.C_drewN ?_ _) | (with_reducible refine Kd.C_drew ?_))); (case side2 => exact (Kd.R_reads' HO618.out).2.1); rintro e w14 ⟨v627, rfl, ho0, hb⟩; refine ⟨_, rfl, ?_⟩; have n0_ := Aside0.mk (Kd.R_elder' qz74 (Kd.R_base ho0) hb); have n1_ := Aside0.mk (Kd.R_elder' (by (with_reducible repeat (first | apply Kd.R_alloc | apply Kd.R_drewN | apply Kd.R_drew)); exact HO624.out) (Kd.R_base ho0) hb); have n2_ := Aside0.mk (Kd.R_lower (Kd.R_newB (Kd.R_new' (Kd.R_new' ho0 (Kd.R_lt qz74)) (Kd.R_lt (by (with_reducible repeat (first | apply Kd.R_alloc | apply Kd.R_drewN | apply Kd.R_drew)); exact HO624.out))) (g := gb621) (o := .cells #[.int .i64 t619, .int .i64 t620] 56 (0, 0)) qz16) (below_size qz7)); have n3_ := Aside0.mk (blk_below (g := gb621) (o := .cells #[.int .i64 t619, .int .i64 t620] 56 (0, 0)) qz16 hb); have n4_ := Aside0.mk (below_step qz7 hb); clear HO618; clear HO624; clear BK621; clear HB; have HO618 := n0_; have HO624 := n1_; have HO628 := n2_; have BK621 := n3_; have HB := n4_; clear n0_ n1_ n2_ n3_ n4_; (try clear hb); (try clear hb2); (try clear hk); (try clear hi); (try clear ho0)))
  (try simp only [Act.put, List.setIfInBounds_toArray, List.set_cons_zero, List.set_cons_succ])
  go_cut [57] (fun v57 wc => ∃ (kq : Nat) (x57_6 : Bool), v57 = .bool x57_6 ∧ Aside0 (laws_FnPoints.j0 kq l0 t622 t625 x57_6 t619 t620 = some true) ∧ Aside0 (kq ≤ k) ∧ Aside0 (Kd.R k56 56 wc w.heap.size (fun k_ => k_ ≠ gb621) v623 t622) ∧ Aside0 (wc.heap[gb621]? = some (.cells #[.int .i64 t619, .int .i64 t620] 56 (0, 0))) ∧ Aside0 (Below w.heap.size w wc))
  case first =>
   as_aux_lemma =>
    have H := HC7.out
    clear HC7
    by_cases c15 : (t625 != t629) = true
    ·
     rw [if_pos c15] at H
     have c15b0 : (t625 != t629) = true := c15
     (try (have c15b1 : decide (t625 = t629) = false := by simpa using c15))
     (try (have c15b2 : (t625 == t629) = false := by simpa using c15))
     (try (have c15b3 : ¬ (t625 = t629) := by simpa using c15))
     clear c15
     (first | rw [c15b0] | (simp only [i64_w, i32_w]; rw [c15b0]) | skip)
     have H' := Aside0.mk H
     clear H
     go_wp2
     go_meet
     case rel => exact ⟨_, (true), qz23, H', ⟨by first | omega | exact Nat.le_refl _⟩, ⟨by (with_reducible repeat (first | apply Kd.R_alloc | apply Kd.R_drewN | apply Kd.R_drew)); exact Kd.R_mono HO624.out (fun _ hk => hk.1.2)⟩, ⟨by (with_reducible repeat (first | refine blk_drewN ?_ _ | refine blk_drew ?_ | refine blk_alloc ?_ _)); exact BK621.out⟩, ⟨by repeat (first | (with_reducible first | exact HB.out | apply below_alloc | apply pw_below_drewN | apply below_drew1 | refine below_set ?_ GE621.out) | exact HB.out)⟩⟩
    ·
     rw [if_neg c15] at H
     have c15b0 : (t625 != t629) = false := by simpa using c15
     (try (have c15b1 : decide (t625 = t629) = true := by simpa using c15))
     (try (have c15b2 : (t625 == t629) = true := by simpa using c15))
     clear c15
     (first | rw [c15b0] | (simp only [i64_w, i32_w]; rw [c15b0]) | skip)
     replace H := Option.bind_eq_some_iff.mp H
     obtain ⟨t630, A160, H⟩ := H
     replace H : (laws_FnPoints.j0 k l0 t622 t625 (!t630) t619 t620) = some true := H
     have A16 := Aside0.mk A160
     clear A160
     have H' := Aside0.mk H
     clear H
     obtain ⟨Ao17, co17, eo17⟩ := Kd.R_slice HO624.out
     subst eo17
     obtain ⟨Ao18, co18, eo18⟩ := Kd.R_slice HO628.out
     subst eo18
     go_wp2_with (first | (go_at_call 41; (with_reducible refine (laws_rPoints.calls k _ _ t622 _ _ t626 t630 _ ?side1 ?side2 ?side3 ?side4 A16.out).mono ?_); (case side1 => repeat (first | exact (Kd.R_reads' HO624.out).2.2 | (with_reducible refine Kd.C_alloc ?_ _) | (with_reducible refine Kd.C_drewN ?_ _) | (with_reducible refine Kd.C_drew ?_))); (case side2 => exact (Kd.R_reads' HO624.out).2.1); (case side3 => repeat (first | exact (Kd.R_reads' HO628.out).2.2 | (with_reducible refine Kd.C_alloc ?_ _) | (with_reducible refine Kd.C_drewN ?_ _) | (with_reducible refine Kd.C_drew ?_))); (case side4 => exact (Kd.R_reads' HO628.out).2.1); rintro e w' ⟨rfl, ⟨nd, rfl⟩⟩))
     go_meet
     case rel => exact ⟨_, (!t630), qz23, H', ⟨by first | omega | exact Nat.le_refl _⟩, ⟨by (with_reducible repeat (first | apply Kd.R_alloc | apply Kd.R_drewN | apply Kd.R_drew)); exact Kd.R_mono HO624.out (fun _ hk => hk.1.2)⟩, ⟨by (with_reducible repeat (first | refine blk_drewN ?_ _ | refine blk_drew ?_ | refine blk_alloc ?_ _)); exact BK621.out⟩, ⟨by repeat (first | (with_reducible first | exact HB.out | apply below_alloc | apply pw_below_drewN | apply below_drew1 | refine below_set ?_ GE621.out) | exact HB.out)⟩⟩
  case rest =>
   as_aux_lemma =>
    clear HC7
    try clear c1
    try clear p2
    try clear c3
    try clear c4
    try clear c5
    try clear c6
    try clear c15
    try clear c15b0
    try clear c15b1
    try clear c15b2
    try clear hcz10_0
    try clear hcz10_1
    try clear hcz13_0
    try clear hcz13_1
    try clear hfz10_0
    try clear hfz10_1
    try clear hfz13_0
    try clear hfz13_1
    obtain ⟨kq, x57_6, rfl, HA, HJ6, HO_5, BK621, HB⟩ := hcut
    cases kq with
    | zero => exact absurd HA.out (by simp [laws_FnPoints.j0])
    | succ kj6 =>
     have H := HA.out
     clear HA
     simp only [laws_FnPoints.j0] at H
     by_cases c19 : x57_6 = true
     ·
      subst c19
      have H1 : (some false) = some true := by rw [if_pos rfl] at H; exact H
      clear H
      have H := H1
      clear H1
      exact absurd (Option.some.inj H) (by decide)
     ·
      replace c19 := Bool.eq_false_iff.mpr c19
      subst c19
      have H1 : (if t625 = true then ((impl_DeclinationOn.f kj6 t622 t619).bind fun bt631 => (if bt631.2 = true then (if bt631.1 = t620 then ((impl_ArePoints.f kj6 t622).bind fun t633 => (if t633 = true then (laws_FnPoints.j1 kj6 l0) else (some false))) else (some false)) else (some false))) else (laws_FnPoints.j1 kj6 l0)) = some true := by rw [if_neg (show ¬ (false = true) by decide)] at H; exact H
      clear H
      have H := H1
      clear H1
      have HC20 := Aside0.mk H
      clear H
      go_upto_if 58 with (fail)
      go_cut [] (fun wc => ∃ (kq : Nat), Aside0 (laws_FnPoints.j1 kq l0 = some true) ∧ Aside0 (kq ≤ kj6) ∧ Aside0 (wc.heap[gb621]? = some (.cells #[.int .i64 t619, .int .i64 t620] 56 (0, 0))) ∧ Aside0 (Below w.heap.size w wc))
      case first =>
       as_aux_lemma =>
        have H := HC20.out
        clear HC20
        by_cases c21 : t625 = true
        ·
         subst c21
         have H1 : ((impl_DeclinationOn.f kj6 t622 t619).bind fun bt631 => (if bt631.2 = true then (if bt631.1 = t620 then ((impl_ArePoints.f kj6 t622).bind fun t633 => (if t633 = true then (laws_FnPoints.j1 kj6 l0) else (some false))) else (some false)) else (some false))) = some true := by rw [if_pos rfl] at H; exact H
         clear H
         have H := H1
         clear H1
         replace H := Option.bind_eq_some_iff.mp H
         obtain ⟨⟨t631, t632⟩, A220, H⟩ := H
         replace H : (if t632 = true then (if t631 = t620 then ((impl_ArePoints.f kj6 t622).bind fun t633 => (if t633 = true then (laws_FnPoints.j1 kj6 l0) else (some false))) else (some false)) else (some false)) = some true := H
         have A22 := Aside0.mk A220
         clear A220
         by_cases c23 : t632 = true
         ·
          subst c23
          have H1 : (if t631 = t620 then ((impl_ArePoints.f kj6 t622).bind fun t633 => (if t633 = true then (laws_FnPoints.j1 kj6 l0) else (some false))) else (some false)) = some true := by rw [if_pos rfl] at H; exact H
          clear H
          have H := H1
          clear H1
          by_cases c24 : t631 = t620
          ·
           rw [if_pos c24] at H
           have c24b0 : (t631 == t620) = true := beq_iff_eq.mpr c24
           have c24b1 : (t631 != t620) = false := bne_eq_false_iff_eq.mpr c24
           clear c24
           (first | rw [c24b0] | (simp only [i64_w, i32_w]; rw [c24b0]) | skip)
           replace H := Option.bind_eq_some_iff.mp H
           obtain ⟨t633, A250, H⟩ := H
           replace H : (if t633 = true then (laws_FnPoints.j1 kj6 l0) else (some false)) = some true := H
           have A25 := Aside0.mk A250
           clear A250
           by_cases c26 : t633 = true
           ·
            subst c26
            have H1 : (laws_FnPoints.j1 kj6 l0) = some true := by rw [if_pos rfl] at H; exact H
            clear H
            have H := H1
            clear H1
            have H' := Aside0.mk H
            clear H
            have hcz27_0 : wc.cell? ⟨gb621, 0, none⟩ = some (.int .i64 t619) := (blk_cell BK621.out 0).trans rfl
            have hcz27_1 : wc.cell? ⟨gb621, 1, none⟩ = some (.int .i64 t620) := (blk_cell BK621.out 1).trans rfl
            have hfz27_0 := blk_frozen BK621.out 0
            have hfz27_1 := blk_frozen BK621.out 1
            obtain ⟨Ao28, co28, eo28⟩ := Kd.R_slice HO_5.out
            subst eo28
            go_wp2_with (first | ((with_reducible refine gate_callee (f := 11) rfl ?_); refine goesL_ (some 63) rfl rfl Try.func11 qz10 rfl #[.slice Ao28 t622.length co28, .int .i64 t619] rfl qz2 ?_; (with_reducible refine (impl_DeclinationOn.calls kj6 _ _ t622 t619 t631 true _ ?side1 ?side2 A22.out).mono ?_); (case side1 => repeat (first | exact (Kd.R_reads' HO_5.out).2.2 | (with_reducible refine Kd.C_alloc ?_ _) | (with_reducible refine Kd.C_drewN ?_ _) | (with_reducible refine Kd.C_drew ?_))); (case side2 => exact (Kd.R_reads' HO_5.out).2.1); rintro e w29 ⟨rfl, hb⟩; refine ⟨_, rfl, ?_⟩; have n0_ := Aside0.mk (Kd.R_below (by (with_reducible repeat (first | apply Kd.R_alloc | apply Kd.R_drewN | apply Kd.R_drew)); exact HO_5.out) hb); have n1_ := Aside0.mk (blk_below (g := gb621) (o := .cells #[.int .i64 t619, .int .i64 t620] 56 (0, 0)) qz16 hb); have n2_ := Aside0.mk (below_step qz7 hb); clear HO_5; clear BK621; clear HB; have HO_5 := n0_; have BK621 := n1_; have HB := n2_; clear n0_ n1_ n2_; (try clear hb); (try clear hb2); (try clear hk); (try clear hi); have hcz30_0 : w29.cell? ⟨gb621, 0, none⟩ = some (.int .i64 t619) := (blk_cell BK621.out 0).trans rfl; have hcz30_1 : w29.cell? ⟨gb621, 1, none⟩ = some (.int .i64 t620) := (blk_cell BK621.out 1).trans rfl; have hfz30_0 := blk_frozen BK621.out 0; have hfz30_1 := blk_frozen BK621.out 1) | (go_at_call 22; (with_reducible refine (impl_ArePoints.calls kj6 _ _ t622 true _ ?side1 ?side2 A25.out).mono ?_); (case side1 => repeat (first | exact (Kd.R_reads' HO_5.out).2.2 | (with_reducible refine Kd.C_alloc ?_ _) | (with_reducible refine Kd.C_drewN ?_ _) | (with_reducible refine Kd.C_drew ?_))); (case side2 => exact (Kd.R_reads' HO_5.out).2.1); rintro e w31 ⟨rfl, hb⟩; have n0_ := Aside0.mk (Kd.R_below (by (with_reducible repeat (first | apply Kd.R_alloc | apply Kd.R_drewN | apply Kd.R_drew)); exact HO_5.out) hb); have n1_ := Aside0.mk (blk_below (g := gb621) (o := .cells #[.int .i64 t619, .int .i64 t620] 56 (0, 0)) qz16 hb); have n2_ := Aside0.mk (below_step qz7 hb); clear HO_5; clear BK621; clear HB; have HO_5 := n0_; have BK621 := n1_; have HB := n2_; clear n0_ n1_ n2_; (try clear hb); (try clear hb2); (try clear hk); (try clear hi)))
            go_meet
            case rel => exact ⟨_, H', ⟨by have := HJ6.out; first | omega | exact Nat.le_refl _⟩, ⟨by (with_reducible repeat (first | refine blk_drewN ?_ _ | refine blk_drew ?_ | refine blk_alloc ?_ _)); exact BK621.out⟩, ⟨by repeat (first | (with_reducible first | exact HB.out | apply below_alloc | apply pw_below_drewN | apply below_drew1 | refine below_set ?_ GE621.out) | exact HB.out)⟩⟩
           ·
            replace c26 := Bool.eq_false_iff.mpr c26
            subst c26
            have H1 : (some false) = some true := by rw [if_neg (show ¬ (false = true) by decide)] at H; exact H
            clear H
            have H := H1
            clear H1
            exact absurd (Option.some.inj H) (by decide)
          ·
           rw [if_neg c24] at H
           have c24b0 : (t631 == t620) = false := beq_eq_false_iff_ne.mpr c24
           have c24b1 : (t631 != t620) = true := bne_iff_ne.mpr c24
           (first | rw [c24b0] | (simp only [i64_w, i32_w]; rw [c24b0]) | skip)
           exact absurd (Option.some.inj H) (by decide)
         ·
          replace c23 := Bool.eq_false_iff.mpr c23
          subst c23
          have H1 : (some false) = some true := by rw [if_neg (show ¬ (false = true) by decide)] at H; exact H
          clear H
          have H := H1
          clear H1
          exact absurd (Option.some.inj H) (by decide)
        ·
         replace c21 := Bool.eq_false_iff.mpr c21
         subst c21
         have H1 : (laws_FnPoints.j1 kj6 l0) = some true := by rw [if_neg (show ¬ (false = true) by decide)] at H; exact H
         clear H
         have H := H1
         clear H1
         have H' := Aside0.mk H
         clear H
         go_wp2
         go_meet
         case rel => exact ⟨_, H', ⟨by have := HJ6.out; first | omega | exact Nat.le_refl _⟩, ⟨by (with_reducible repeat (first | refine blk_drewN ?_ _ | refine blk_drew ?_ | refine blk_alloc ?_ _)); exact BK621.out⟩, ⟨by repeat (first | (with_reducible first | exact HB.out | apply below_alloc | apply pw_below_drewN | apply below_drew1 | refine below_set ?_ GE621.out) | exact HB.out)⟩⟩
      case rest =>
       as_aux_lemma =>
        clear HC20
        try clear c1
        try clear c2
        try clear p2
        try clear c3
        try clear c4
        try clear c5
        try clear c6
        try clear c11
        try clear c15
        try clear c15b0
        try clear c15b1
        try clear c15b2
        try clear c19
        try clear c21
        try clear c23
        try clear c24
        try clear c24b0
        try clear c24b1
        try clear c26
        try clear c38
        try clear c39
        try clear c40
        try clear hcz10_0
        try clear hcz10_1
        try clear hcz13_0
        try clear hcz13_1
        try clear hcz27_0
        try clear hcz27_1
        try clear hcz30_0
        try clear hcz30_1
        try clear hcz32_0
        try clear hcz32_1
        try clear hcz35_0
        try clear hcz35_1
        try clear hcz37_0
        try clear hcz37_1
        try clear hcz40_0
        try clear hcz40_1
        try clear hcz41_0
        try clear hcz41_1
        try clear hfz10_0
        try clear hfz10_1
        try clear hfz13_0
        try clear hfz13_1
        try clear hfz27_0
        try clear hfz27_1
        try clear hfz30_0
        try clear hfz30_1
        try clear hfz32_0
        try clear hfz32_1
        try clear hfz35_0
        try clear hfz35_1
        try clear hfz37_0
        try clear hfz37_1
        try clear hfz40_0
        try clear hfz40_1
        try clear hfz41_0
        try clear hfz41_1
        try clear p2
        obtain ⟨kq, HA, HJ19, BK621, HB⟩ := hcut
        cases kq with
        | zero => exact absurd HA.out (by simp [laws_FnPoints.j1])
        | succ kj19 =>
         have H := HA.out
         clear HA
         simp only [laws_FnPoints.j1] at H
         replace H := Option.bind_eq_some_iff.mp H
         obtain ⟨t634, A440, H⟩ := H
         replace H : ((impl_NeedlessPoints.f t634).bind fun bt637 => ((spec_NeedlessPoints.f kj19 t634).bind fun bt641 => (if (bt637.2 != bt641.2) = true then (laws_FnPoints.j2 kj19 l0 t634 bt637.1 true) else ((laws_rInts.f kj19 bt637.1 bt641.1).bind fun t645 => (laws_FnPoints.j2 kj19 l0 t634 bt637.1 (!t645)))))) = some true := H
         have A44 := Aside0.mk A440
         clear A440
         replace H := Option.bind_eq_some_iff.mp H
         obtain ⟨⟨t637, t638⟩, A450, H⟩ := H
         replace H : ((spec_NeedlessPoints.f kj19 t634).bind fun bt641 => (if (t638 != bt641.2) = true then (laws_FnPoints.j2 kj19 l0 t634 t637 true) else ((laws_rInts.f kj19 t637 bt641.1).bind fun t645 => (laws_FnPoints.j2 kj19 l0 t634 t637 (!t645))))) = some true := H
         have A45 := Aside0.mk A450
         clear A450
         replace H := Option.bind_eq_some_iff.mp H
         obtain ⟨⟨t641, t642⟩, A460, H⟩ := H
         replace H : (if (t638 != t642) = true then (laws_FnPoints.j2 kj19 l0 t634 t637 true) else ((laws_rInts.f kj19 t637 t641).bind fun t645 => (laws_FnPoints.j2 kj19 l0 t634 t637 (!t645)))) = some true := H
         have A46 := Aside0.mk A460
         clear A460
         have HC47 := Aside0.mk H
         clear H
         go_upto_region 15 with (first | ((with_reducible refine gate_callee (f := 42) rfl ?_); refine goesL_ (some 80) rfl rfl Try.func42 qz10 rfl #[.slice A0 l0.length c0] rfl qz2 ?_; (with_reducible refine (spec_DrawNeedlessPoints.calls kj19 _ _ l0 t634 _ ?side1 ?side2 A44.out).mono ?_); (case side1 => repeat (first | exact (Kd.C_below HR0.out HB.out) | (with_reducible refine Kd.C_alloc ?_ _) | (with_reducible refine Kd.C_drewN ?_ _) | (with_reducible refine Kd.C_drew ?_))); (case side2 => exact HC0.out); rintro e w48 ⟨v635, rfl, ho0, hb⟩; refine ⟨_, rfl, ?_⟩; have n0_ := Aside0.mk (Kd.R_lower (Kd.R_newB ho0 (g := gb621) (o := .cells #[.int .i64 t619, .int .i64 t620] 56 (0, 0)) qz16) (below_size qz7)); have n1_ := Aside0.mk (blk_below (g := gb621) (o := .cells #[.int .i64 t619, .int .i64 t620] 56 (0, 0)) qz16 hb); have n2_ := Aside0.mk (below_step qz7 hb); clear BK621; clear HB; have HO636 := n0_; have BK621 := n1_; have HB := n2_; clear n0_ n1_ n2_; (try clear hb); (try clear hb2); (try clear hk); (try clear hi); (try clear ho0); obtain ⟨Ao49, co49, eo49⟩ := Kd.R_slice HO636.out; subst eo49) | ((with_reducible refine gate_callee (f := 43) rfl ?_); refine goesL_ (some 83) rfl rfl Try.func43 qz10 rfl #[.slice Ao49 t634.length co49] rfl qz2 ?_; (with_reducible refine (impl_NeedlessPoints.calls _ _ t634 t637 t638 _ ?side1 ?side2 A45.out ?sideL).mono ?_); (case sideL => exact HL.out.keep (by repeat (first | (with_reducible first | exact HB.out | apply below_alloc | apply pw_below_drewN | apply below_drew1 | refine below_set ?_ (Aside0.out (by assumption))) | exact HB.out))); (case side1 => repeat (first | exact (Kd.R_reads' HO636.out).2.2 | (with_reducible refine Kd.C_alloc ?_ _) | (with_reducible refine Kd.C_drewN ?_ _) | (with_reducible refine Kd.C_drew ?_))); (case side2 => exact (Kd.R_reads' HO636.out).2.1); rintro e w50 ⟨v639, rfl, ho0, hb⟩; refine ⟨_, rfl, ?_⟩; have n0_ := Aside0.mk (Kd.R_below (by (with_reducible repeat (first | apply Kd.R_alloc | apply Kd.R_drewN | apply Kd.R_drew)); exact HO636.out) hb); have n1_ := Aside0.mk (Kd.R_lower ho0 (below_size qz7)); have n2_ := Aside0.mk (blk_below (g := gb621) (o := .cells #[.int .i64 t619, .int .i64 t620] 56 (0, 0)) qz16 hb); have n3_ := Aside0.mk (below_step qz7 hb); clear HO636; clear BK621; clear HB; have HO636 := n0_; have HO640 := n1_; have BK621 := n2_; have HB := n3_; clear n0_ n1_ n2_ n3_; (try clear hb); (try clear hb2); (try clear hk); (try clear hi); (try clear ho0)) | ((with_reducible refine gate_callee (f := 44) rfl ?_); refine goesL_ (some 88) rfl rfl Try.func44 qz10 rfl #[.slice Ao49 t634.length co49] rfl qz2 ?_; (with_reducible refine (spec_NeedlessPoints.calls kj19 _ _ t634 t641 t642 _ ?side1 ?side2 A46.out).mono ?_); (case side1 => repeat (first | exact (Kd.R_reads' HO636.out).2.2 | (with_reducible refine Kd.C_alloc ?_ _) | (with_reducible refine Kd.C_drewN ?_ _) | (with_reducible refine Kd.C_drew ?_))); (case side2 => exact (Kd.R_reads' HO636.out).2.1); rintro e w51 ⟨v643, rfl, ho0, hb⟩; refine ⟨_, rfl, ?_⟩; have n0_ := Aside0.mk (Kd.R_below (by (with_reducible repeat (first | apply Kd.R_alloc | apply Kd.R_drewN | apply Kd.R_drew)); exact HO636.out) hb); have n1_ := Aside0.mk (Kd.R_elder' (by (with_reducible repeat (first | apply Kd.R_alloc | apply Kd.R_drewN | apply Kd.R_drew)); exact HO640.out) (Kd.R_base ho0) hb); have n2_ := Aside0.mk (Kd.R_lower (Kd.R_new' ho0 (Kd.R_lt (by (with_reducible repeat (first | apply Kd.R_alloc | apply Kd.R_drewN | apply Kd.R_drew)); exact HO640.out))) (below_size qz7)); have n3_ := Aside0.mk (blk_below (g := gb621) (o := .cells #[.int .i64 t619, .int .i64 t620] 56 (0, 0)) qz16 hb); have n4_ := Aside0.mk (below_step qz7 hb); clear HO636; clear HO640; clear BK621; clear HB; have HO636 := n0_; have HO640 := n1_; have HO644 := n2_; have BK621 := n3_; have HB := n4_; clear n0_ n1_ n2_ n3_ n4_; (try clear hb); (try clear hb2); (try clear hk); (try clear hi); (try clear ho0)))
         (try simp only [Act.put, List.setIfInBounds_toArray, List.set_cons_zero, List.set_cons_succ])
         go_cut [99] (fun v99 wc => ∃ (kq : Nat) (x99_46 : Bool), v99 = .bool x99_46 ∧ Aside0 (laws_FnPoints.j2 kq l0 t634 t637 x99_46 = some true) ∧ Aside0 (kq ≤ kj19) ∧ Aside0 (Kd.R k56 56 wc w.heap.size (fun k_ => k_ ≠ gb621) (.slice Ao49 t634.length co49) t634) ∧ Aside0 (Kd.R (Kd.int .i64) 3 wc w.heap.size (fun _ => True) v639 t637) ∧ Aside0 (wc.heap[gb621]? = some (.cells #[.int .i64 t619, .int .i64 t620] 56 (0, 0))) ∧ Aside0 (Below w.heap.size w wc))
         case first =>
          as_aux_lemma =>
           have H := HC47.out
           clear HC47
           by_cases c52 : (t638 != t642) = true
           ·
            rw [if_pos c52] at H
            have c52b0 : (t638 != t642) = true := c52
            (try (have c52b1 : decide (t638 = t642) = false := by simpa using c52))
            (try (have c52b2 : (t638 == t642) = false := by simpa using c52))
            (try (have c52b3 : ¬ (t638 = t642) := by simpa using c52))
            clear c52
            (first | rw [c52b0] | (simp only [i64_w, i32_w]; rw [c52b0]) | skip)
            exact absurd H (by cases kj19 <;> simp [laws_FnPoints.j2])
           ·
            rw [if_neg c52] at H
            have c52b0 : (t638 != t642) = false := by simpa using c52
            (try (have c52b1 : decide (t638 = t642) = true := by simpa using c52))
            (try (have c52b2 : (t638 == t642) = true := by simpa using c52))
            clear c52
            (first | rw [c52b0] | (simp only [i64_w, i32_w]; rw [c52b0]) | skip)
            replace H := Option.bind_eq_some_iff.mp H
            obtain ⟨t645, A530, H⟩ := H
            replace H : (laws_FnPoints.j2 kj19 l0 t634 t637 (!t645)) = some true := H
            have A53 := Aside0.mk A530
            clear A530
            have H' := Aside0.mk H
            clear H
            obtain ⟨Ao54, co54, eo54⟩ := Kd.R_slice HO640.out
            subst eo54
            obtain ⟨Ao55, co55, eo55⟩ := Kd.R_slice HO644.out
            subst eo55
            go_wp2_with (first | (go_at_call 16; (with_reducible refine (laws_rInts.calls kj19 _ _ t637 _ _ t641 t645 _ ?side1 ?side2 ?side3 ?side4 A53.out).mono ?_); (case side1 => repeat (first | exact (Kd.R_reads' HO640.out).2.2 | (with_reducible refine Kd.C_alloc ?_ _) | (with_reducible refine Kd.C_drewN ?_ _) | (with_reducible refine Kd.C_drew ?_))); (case side2 => exact (Kd.R_reads' HO640.out).2.1); (case side3 => repeat (first | exact (Kd.R_reads' HO644.out).2.2 | (with_reducible refine Kd.C_alloc ?_ _) | (with_reducible refine Kd.C_drewN ?_ _) | (with_reducible refine Kd.C_drew ?_))); (case side4 => exact (Kd.R_reads' HO644.out).2.1); rintro e w' ⟨rfl, ⟨nd, rfl⟩⟩))
            go_meet
            case rel => exact ⟨_, (!t645), qz23, H', ⟨by have := HJ6.out; have := HJ19.out; first | omega | exact Nat.le_refl _⟩, ⟨by (with_reducible repeat (first | apply Kd.R_alloc | apply Kd.R_drewN | apply Kd.R_drew)); exact Kd.R_mono HO636.out (fun _ hk => hk.2)⟩, ⟨by (with_reducible repeat (first | apply Kd.R_alloc | apply Kd.R_drewN | apply Kd.R_drew)); exact Kd.R_mono HO640.out (fun _ hk => trivial)⟩, ⟨by (with_reducible repeat (first | refine blk_drewN ?_ _ | refine blk_drew ?_ | refine blk_alloc ?_ _)); exact BK621.out⟩, ⟨by repeat (first | (with_reducible first | exact HB.out | apply below_alloc | apply pw_below_drewN | apply below_drew1 | refine below_set ?_ GE621.out) | exact HB.out)⟩⟩
         case rest =>
          as_aux_lemma =>
           clear HC47
           try clear c1
           try clear c2
           try clear p2
           try clear c3
           try clear c4
           try clear c5
           try clear c6
           try clear c11
           try clear c15
           try clear c15b0
           try clear c15b1
           try clear c15b2
           try clear c19
           try clear c21
           try clear c23
           try clear c24
           try clear c24b0
           try clear c24b1
           try clear c26
           try clear c38
           try clear c39
           try clear c40
           try clear c42
           try clear c43
           try clear c44
           try clear c52
           try clear c52b0
           try clear c52b1
           try clear c52b2
           try clear hcz10_0
           try clear hcz10_1
           try clear hcz13_0
           try clear hcz13_1
           try clear hcz27_0
           try clear hcz27_1
           try clear hcz30_0
           try clear hcz30_1
           try clear hcz32_0
           try clear hcz32_1
           try clear hcz35_0
           try clear hcz35_1
           try clear hcz37_0
           try clear hcz37_1
           try clear hcz40_0
           try clear hcz40_1
           try clear hcz41_0
           try clear hcz41_1
           try clear hfz10_0
           try clear hfz10_1
           try clear hfz13_0
           try clear hfz13_1
           try clear hfz27_0
           try clear hfz27_1
           try clear hfz30_0
           try clear hfz30_1
           try clear hfz32_0
           try clear hfz32_1
           try clear hfz35_0
           try clear hfz35_1
           try clear hfz37_0
           try clear hfz37_1
           try clear hfz40_0
           try clear hfz40_1
           try clear hfz41_0
           try clear hfz41_1
           try clear p2
           obtain ⟨kq, x99_46, rfl, HA, HJ46, HO_11, HO_12, BK621, HB⟩ := hcut
           cases kq with
           | zero => exact absurd HA.out (by simp [laws_FnPoints.j2])
           | succ kj46 =>
            have H := HA.out
            clear HA
            simp only [laws_FnPoints.j2] at H
            by_cases c56 : x99_46 = true
            ·
             subst c56
             have H1 : (some false) = some true := by rw [if_pos rfl] at H; exact H
             clear H
             have H := H1
             clear H1
             exact absurd (Option.some.inj H) (by decide)
            ·
             replace c56 := Bool.eq_false_iff.mpr c56
             subst c56
             have H1 : (laws_FnPoints.l0 kj46 l0 t634 t637 0) = some true := by rw [if_neg (show ¬ (false = true) by decide)] at H; exact H
             clear H
             have H := H1
             clear H1
             have H' := Aside0.mk H
             clear H
             go_wp2
             go_loopg [16] kj46 (fun kq v16 w' => ∃ (x16_4 : Int), v16 = .int .i64 x16_4 ∧ Aside0 (laws_FnPoints.l0 kq l0 t634 t637 x16_4 = some true) ∧ Aside0 (kq ≤ kj46) ∧ Aside0 (Kd.R k56 56 w' w.heap.size (fun k_ => k_ ≠ gb621) (.slice Ao49 t634.length co49) t634) ∧ Aside0 (Kd.R (Kd.int .i64) 3 w' w.heap.size (fun _ => True) v639 t637) ∧ Aside0 (w'.heap[gb621]? = some (.cells #[.int .i64 t619, .int .i64 t620] 56 (0, 0))) ∧ Aside0 (Below w.heap.size w w'))
             case atStart => exact ⟨(0), qz23, H', ⟨Nat.le_refl _⟩, ⟨by (with_reducible repeat (first | apply Kd.R_alloc | apply Kd.R_drewN | apply Kd.R_drew)); exact HO_11.out⟩, ⟨by (with_reducible repeat (first | apply Kd.R_alloc | apply Kd.R_drewN | apply Kd.R_drew)); exact HO_12.out⟩, ⟨by (with_reducible repeat (first | refine blk_drewN ?_ _ | refine blk_drew ?_ | refine blk_alloc ?_ _)); exact BK621.out⟩, ⟨by repeat (first | (with_reducible first | exact HB.out | apply below_alloc | apply pw_below_drewN | apply below_drew1 | refine below_set ?_ GE621.out) | exact HB.out)⟩⟩
             case round =>
              clear H'
              try clear c1
              try clear c2
              try clear p2
              try clear c3
              try clear c4
              try clear c5
              try clear c6
              try clear c11
              try clear c15
              try clear c15b0
              try clear c15b1
              try clear c15b2
              try clear c19
              try clear c21
              try clear c23
              try clear c24
              try clear c24b0
              try clear c24b1
              try clear c26
              try clear c38
              try clear c39
              try clear c40
              try clear c42
              try clear c43
              try clear c44
              try clear c52
              try clear c52b0
              try clear c52b1
              try clear c52b2
              try clear c56
              try clear hcz10_0
              try clear hcz10_1
              try clear hcz13_0
              try clear hcz13_1
              try clear hcz27_0
              try clear hcz27_1
              try clear hcz30_0
              try clear hcz30_1
              try clear hcz32_0
              try clear hcz32_1
              try clear hcz35_0
              try clear hcz35_1
              try clear hcz37_0
              try clear hcz37_1
              try clear hcz40_0
              try clear hcz40_1
              try clear hcz41_0
              try clear hcz41_1
              try clear hfz10_0
              try clear hfz10_1
              try clear hfz13_0
              try clear hfz13_1
              try clear hfz27_0
              try clear hfz27_1
              try clear hfz30_0
              try clear hfz30_1
              try clear hfz32_0
              try clear hfz32_1
              try clear hfz35_0
              try clear hfz35_1
              try clear hfz37_0
              try clear hfz37_1
              try clear hfz40_0
              try clear hfz40_1
              try clear hfz41_0
              try clear hfz41_1
              try clear p2
              obtain ⟨x16_4, rfl, HA, HK4, HO_11, HO_12, BK621, HB⟩ := hrel
              cases gk with
              | zero => exact absurd HA.out (by simp [laws_FnPoints.l0])
              | succ k4 =>
               have H := HA.out
               clear HA
               simp only [laws_FnPoints.l0] at H
               by_cases c57 : x16_4 < (t637.length : Int)
               ·
                rw [if_pos c57] at H
                have c57b0 : decide (x16_4 < (t637.length : Int)) = true := decide_eq_true c57
                clear c57
                by_cases c58 : 0 ≤ x16_4
                ·
                 rw [if_pos c58] at H
                 have c58b0 : decide (0 ≤ x16_4) = true := decide_eq_true c58
                 clear c58
                 obtain ⟨y655, hy655⟩ : ∃ y_ : List (S56), y_ = (([] : List (S56))) := ⟨_, rfl⟩
                 replace H : (if 0 ≤ (rd t637 x16_4) then (if (rd t637 x16_4) ≤ (t634.length : Int) then ((some (t634.take ((rd t637 x16_4) : Int).toNat : List (S56))).bind fun y658 => (if y655.length + y658.length < 8796093022208 then ((some (y655 ++ y658 : List (S56))).bind fun y662 => (if 0 ≤ (wrap64 ((rd t637 x16_4) + 1)) then (if (wrap64 ((rd t637 x16_4) + 1)) ≤ (t634.length : Int) then ((some (t634.drop ((wrap64 ((rd t637 x16_4) + 1)) : Int).toNat : List (S56))).bind fun y665 => (if y662.length + y665.length < 8796093022208 then (laws_FnPoints.l1 k4 l0 t634 t637 x16_4 (y662 ++ y665) 0) else (none))) else (none)) else (none))) else (none))) else (none)) else (none)) = some true := by first | (rw [hy655]; with_reducible exact H) | (have H2_ := (Option.bind_some _ _).symm.trans H; rw [hy655]; with_reducible exact H2_) | (have H2_ := (Option.bind_some _ _).symm.trans H; with_reducible exact H2_) | with_reducible exact H | (rw [hy655]; exact H) | exact H
                 have Ny655 := Aside0.mk hy655
                 clear hy655
                 by_cases c59 : 0 ≤ (rd t637 x16_4)
                 ·
                  rw [if_pos c59] at H
                  have c59b0 := eq_true c59
                  have c59b1 : decide (0 ≤ (rd t637 x16_4)) = true := decide_eq_true c59
                  clear c59
                  by_cases c60 : (rd t637 x16_4) ≤ (t634.length : Int)
                  ·
                   rw [if_pos c60] at H
                   have c60b0 := eq_true c60
                   have c60b1 : decide ((rd t637 x16_4) ≤ (t634.length : Int)) = true := decide_eq_true c60
                   clear c60
                   obtain ⟨y658, hy658⟩ : ∃ y_ : List (S56), y_ = (t634.take ((rd t637 x16_4) : Int).toNat) := ⟨_, rfl⟩
                   replace H : (if y655.length + y658.length < 8796093022208 then ((some (y655 ++ y658 : List (S56))).bind fun y662 => (if 0 ≤ (wrap64 ((rd t637 x16_4) + 1)) then (if (wrap64 ((rd t637 x16_4) + 1)) ≤ (t634.length : Int) then ((some (t634.drop ((wrap64 ((rd t637 x16_4) + 1)) : Int).toNat : List (S56))).bind fun y665 => (if y662.length + y665.length < 8796093022208 then (laws_FnPoints.l1 k4 l0 t634 t637 x16_4 (y662 ++ y665) 0) else (none))) else (none)) else (none))) else (none)) = some true := by first | (rw [hy658]; with_reducible exact H) | (have H2_ := (Option.bind_some _ _).symm.trans H; rw [hy658]; with_reducible exact H2_) | (have H2_ := (Option.bind_some _ _).symm.trans H; with_reducible exact H2_) | with_reducible exact H | (rw [hy658]; exact H) | exact H
                   have Ny658 := Aside0.mk hy658
                   clear hy658
                   by_cases c61 : y655.length + y658.length < 8796093022208
                   ·
                    rw [if_pos c61] at H
                    have LMc61 := Aside0.mk c61
                    clear c61
                    obtain ⟨y662, hy662⟩ : ∃ y_ : List (S56), y_ = (y655 ++ y658) := ⟨_, rfl⟩
                    replace H : (if 0 ≤ (wrap64 ((rd t637 x16_4) + 1)) then (if (wrap64 ((rd t637 x16_4) + 1)) ≤ (t634.length : Int) then ((some (t634.drop ((wrap64 ((rd t637 x16_4) + 1)) : Int).toNat : List (S56))).bind fun y665 => (if y662.length + y665.length < 8796093022208 then (laws_FnPoints.l1 k4 l0 t634 t637 x16_4 (y662 ++ y665) 0) else (none))) else (none)) else (none)) = some true := by first | (rw [hy662]; with_reducible exact H) | (have H2_ := (Option.bind_some _ _).symm.trans H; rw [hy662]; with_reducible exact H2_) | (have H2_ := (Option.bind_some _ _).symm.trans H; with_reducible exact H2_) | with_reducible exact H | (rw [hy662]; exact H) | exact H
                    have Ny662 := Aside0.mk hy662
                    clear hy662
                    obtain ⟨ji62, hji62⟩ : ∃ j_ : Int, (wrap64 ((rd t637 x16_4) + 1)) = j_ := ⟨_, rfl⟩
                    replace H : (if 0 ≤ (ji62) then (if (ji62) ≤ (t634.length : Int) then ((some (t634.drop ((ji62) : Int).toNat : List (S56))).bind fun y665 => (if y662.length + y665.length < 8796093022208 then (laws_FnPoints.l1 k4 l0 t634 t637 x16_4 (y662 ++ y665) 0) else (none))) else (none)) else (none)) = some true := by first | (rw [hji62] at H; exact H) | (simp only [hji62] at H ⊢; exact H)
                    have hji62w : (IntKind.i64.wrap ((rd t637 x16_4) + 1)) = ji62 := (i64_w _).trans hji62
                    by_cases c63 : 0 ≤ (ji62)
                    ·
                     rw [if_pos c63] at H
                     have c63b0 := eq_true c63
                     have c63b1 : decide (0 ≤ (ji62)) = true := decide_eq_true c63
                     clear c63
                     by_cases c64 : (ji62) ≤ (t634.length : Int)
                     ·
                      rw [if_pos c64] at H
                      have c64b0 := eq_true c64
                      have c64b1 : decide ((ji62) ≤ (t634.length : Int)) = true := decide_eq_true c64
                      clear c64
                      obtain ⟨y665, hy665⟩ : ∃ y_ : List (S56), y_ = (t634.drop ((ji62) : Int).toNat) := ⟨_, rfl⟩
                      replace H : (if y662.length + y665.length < 8796093022208 then (laws_FnPoints.l1 k4 l0 t634 t637 x16_4 (y662 ++ y665) 0) else (none)) = some true := by first | (rw [hy665]; with_reducible exact H) | (have H2_ := (Option.bind_some _ _).symm.trans H; rw [hy665]; with_reducible exact H2_) | (have H2_ := (Option.bind_some _ _).symm.trans H; with_reducible exact H2_) | with_reducible exact H | (rw [hy665]; exact H) | exact H
                      have Ny665 := Aside0.mk hy665
                      clear hy665
                      by_cases c65 : y662.length + y665.length < 8796093022208
                      ·
                       rw [if_pos c65] at H
                       have LMc65 := Aside0.mk c65
                       clear c65
                       obtain ⟨y669, hy669⟩ : ∃ y_ : List (S56), y_ = (y662 ++ y665) := ⟨_, rfl⟩
                       replace H : (laws_FnPoints.l1 k4 l0 t634 t637 x16_4 y669 0) = some true := by first | (rw [hy669]; with_reducible exact H) | (have H2_ := (Option.bind_some _ _).symm.trans H; rw [hy669]; with_reducible exact H2_) | (have H2_ := (Option.bind_some _ _).symm.trans H; with_reducible exact H2_) | with_reducible exact H | (rw [hy669]; exact H) | exact H
                       have Ny669 := Aside0.mk hy669
                       clear hy669
                       have H' := Aside0.mk H
                       clear H
                       obtain ⟨Ao66, co66, eo66⟩ := Kd.R_slice HO_12.out
                       subst eo66
                       have p654 : 0 ≤ (x16_4 : Int) := of_decide_eq_true qz4
                       have q654 : x16_4 < (t637.length : Int) := of_decide_eq_true qz4
                       obtain ⟨ad654, e654, hx654_0⟩ := Kd.at_int (Kd.R_reads' HO_12.out).2.2 x16_4 p654 q654
                       cases e654
                       replace p654 := eq_true p654
                       replace q654 := eq_true q654
                       try go_wp2
                       have n0_ := Aside0.mk (Kd.R_drew HO_11.out)
                       have n1_ := Aside0.mk (Kd.R_drew HO_12.out)
                       have n2_ := Aside0.mk (blk_drew BK621.out)
                       have n3_ := Aside0.mk (below_drew1 HB.out)
                       clear HO_11
                       clear HO_12
                       clear BK621
                       clear HB
                       have HO_11 := n0_
                       have HO_12 := n1_
                       have BK621 := n2_
                       have HB := n3_
                       clear n0_ n1_ n2_ n3_
                       have q68 : ((rd t637 x16_4) : Int) ≤ ((t634.length : Int) : Int) := of_decide_eq_true qz4
                       obtain ⟨i068, hi068, _, hsz68, _⟩ := info_parts info56
                       have hroom68 : t634.length ≤ co49 := (Kd.R_reads' HO_11.out).2.1
                       have hC68 : Kd.C k56 _ Ao49 t634.length t634 := (Kd.R_reads' HO_11.out).2.2
                       have hcut68 := cut_to (P := Try.prog) 24 56 .i64 Try.underlying24 hi068 Ao49 t634.length co49 (rd t637 x16_4) (of_decide_eq_true qz4) q68 hroom68
                       have hr68 := Kd.C_take (m := ((rd t637 x16_4) : Int).toNat) hC68 (by omega)
                       have hy68 : y658.length = ((rd t637 x16_4) : Int).toNat := (by rw [Ny658.out, List.length_take]; omega)
                       rw [← Ny658.out] at hr68
                       rw [← hy68] at hcut68
                       have HR661 := Aside0.mk hr68
                       have HC661 := Aside0.mk (show y658.length ≤ co49 from by omega)
                       clear hr68 hC68 hroom68 hi068 hsz68
                       have KY68 := Aside0.mk hy68
                       clear hy68
                       have KL68 := Aside0.mk (show ((rd t637 x16_4) : Int).toNat ≤ t634.length from by omega)
                       replace q68 := eq_true q68
                       have q69 : ((ji62) : Int) ≤ ((t634.length : Int) : Int) := of_decide_eq_true qz4
                       obtain ⟨i069, hi069, _, hsz69, _⟩ := info_parts info56
                       have hroom69 : t634.length ≤ co49 := (Kd.R_reads' HO_11.out).2.1
                       have hC69 : Kd.C k56 _ Ao49 t634.length t634 := (Kd.R_reads' HO_11.out).2.2
                       have q069 : (0 : Int) ≤ ((ji62) : Int) := of_decide_eq_true qz4
                       have hcut69 := cut_from (P := Try.prog) 24 56 .i64 Try.underlying24 hi069 2 hsz69 Ao49 t634.length co49 (ji62) q069 q69
                       have hr69 := Kd.C_drop (m := ((ji62) : Int).toNat) (c := co49) hC69 (by omega) hroom69
                       obtain ⟨A69, hA69⟩ : ∃ A1, A1 = (if co49 = ((ji62) : Int).toNat then Ao49 else (Ao49 : Option Addr).map (·.add (((ji62) : Int).toNat * 2))) := ⟨_, rfl⟩
                       obtain ⟨c69, hc69⟩ : ∃ c1, c1 = co49 - ((ji62) : Int).toNat := ⟨_, rfl⟩
                       have hy69 : y665.length = t634.length - ((ji62) : Int).toNat := (by rw [Ny665.out, List.length_drop] <;> omega)
                       rw [show (t634).drop ((ji62) : Int).toNat = y665 from Ny665.out.symm] at hr69
                       replace hr69 : Kd.C k56 _ A69 y665.length y665 := (by rw [hA69]; exact hr69)
                       rw [← hy69, ← hA69, ← hc69] at hcut69
                       have HR668 := Aside0.mk hr69
                       have HC668 := Aside0.mk (show y665.length ≤ c69 from by rw [hy69, hc69]; exact Nat.sub_le_sub_right hroom69 _)
                       clear hr69 hC69 hroom69 hi069 hsz69 hc69
                       have KY69 := Aside0.mk hy69
                       have KA69 := Aside0.mk hA69
                       clear hy69 hA69
                       have KL69 := Aside0.mk (show ((ji62) : Int).toNat ≤ t634.length from by omega)
                       replace q69 := eq_true q69
                       refine start_ (n := 11) (S := fun w' => True) (ds := []) #[false, false, false, false, false, false, false, false, false, false, false] qz10 rfl rfl trivial (fun hHeld => ?_); refine with_tabW laws_FnPoints.tab21 laws_FnPoints.bits21 (fun HT_ HW_ => ?_)
                       generalize wr.drew = w67 at HO_11 HO_12 BK621 HB HR661 HR668 hHeld ⊢
                       refine pZ 1 (some 111) (bz 11 2) ?_
                       refine pZ 2 (some 112) (bz 11 6) ?_
                       refine pZ 3 (some 113) (bz 11 14) ?_
                       refine pZ 5 (some 115) (bz 11 46) ?_
                       refine pZ 6 (some 116) (bz 11 110) ?_
                       refine pZ 7 (some 117) (bz 11 238) ?_
                       refine pZ 8 (some 118) (bz 11 494) ?_
                       refine one_ (i := 0) (N := some 110) #[true, true, true, true, false, true, true, true, true, false, false] rfl rfl (one_of HT_.out qz10) (by decide) (fun K hK => ?_)
                       refine Kd.R_lit_step k56 _ 56 ?hg (N := 110) ?hd (xs := ([] : List (S56))) (inner := []) (ok := fun _ => True) (okp := fun _ => True) ?hr ?hp (fun _ hk => hk) trivial (Below.refl _ _) (Nat.le_refl _) (by simp) ?_; (case hd => rfl); (case hg => rfl); (case hr => first | (go_simp; done) | (go_simp; rfl)); (case hp => exact (Reps.none _ _))
                       intro v656 w70 ho71 hb hg_ hnew_
                       clear hg_ hnew_
                       (first | rw [← Ny655.out] at ho71 | (simp only [Int.reduceToNat] at ho71; rw [← Ny655.out] at ho71))
                       have n0_ := Aside0.mk (Kd.R_elder' qz18 (Kd.R_base ho71) hb)
                       have n1_ := Aside0.mk (Kd.R_below qz54 hb)
                       have n2_ := Aside0.mk (Kd.R_lower (Kd.R_newB (Kd.R_new' ho71 (Kd.R_lt qz18)) (g := gb621) (o := .cells #[.int .i64 t619, .int .i64 t620] 56 (0, 0)) qz16) (below_size qz7))
                       have n3_ := Aside0.mk (blk_below (g := gb621) (o := .cells #[.int .i64 t619, .int .i64 t620] 56 (0, 0)) qz16 hb)
                       have n4_ := Aside0.mk (Kd.C_below qz60 hb)
                       have n5_ := Aside0.mk (Kd.C_below qz59 hb)
                       have n6_ := Aside0.mk (below_step qz7 hb)
                       clear HO_11
                       clear HO_12
                       clear BK621
                       clear HR661
                       clear HR668
                       clear HB
                       have HO_11 := n0_
                       have HO_12 := n1_
                       have HO657 := n2_
                       have BK621 := n3_
                       have HR661 := n4_
                       have HR668 := n5_
                       have HB := n6_
                       clear n0_ n1_ n2_ n3_ n4_ n5_ n6_
                       clear hb ho71
                       refine hK.out _ _ trivial (fun hHeld => ?_)
                       clear hK K
                       refine norm_ (a' := ?_) ?_ ?_
                       rotate_left
                       ·
                        show Act.put _ (some 110) _ = _
                        simp only [Act.put, List.setIfInBounds_toArray, List.set_cons_zero, List.set_cons_succ, i64_w, i32_w]
                        rfl
                       refine one_ (i := 4) (N := some 114) #[true, true, true, true, true, true, true, true, true, false, false] rfl rfl (one_of HT_.out qz10) (by decide) (fun K hK => ?_)
                       refine Kd.R_append_rows_step k56 (w0 := w) w.heap.size (by rfl) (.tmp 110) (.tmp 113) 24 56 (.agg #[(.int .i64 0), (.int .i64 0)]) 16 rfl Try.underlying24 info56 rfl (by decide) (by omega) v656 y655 y658 _ _ _ (fun k_ => some k_ ≠ (.slice Ao49 t634.length co49 : Value).ownBlock ∧ k_ ≠ gb621) (fun _ => False) rfl rfl ?aO ?aR (fun _ _ h => h) (fun _ h => h.elim) ?aF ?aB ?aS ?aL ?_
                       (case aR => repeat (first | exact qz60 | (with_reducible refine Kd.C_alloc ?_ _) | (with_reducible refine Kd.C_drewN ?_ _) | (with_reducible refine Kd.C_drew ?_)))
                       (case aB => exact qz7)
                       (case aF => exact (fun k_ hk => ⟨Kd.fresh' (Kd.R_lt qz18) k_ hk, Kd.freshB (g := gb621) (o := .cells #[.int .i64 t619, .int .i64 t620] 56 (0, 0)) qz16 k_ hk⟩))
                       (case aO => exact (by (with_reducible repeat (first | apply Kd.R_alloc | apply Kd.R_drewN | apply Kd.R_drew)); exact Kd.R_mono HO657.out (fun _ hk => ⟨hk.1.2, hk.2⟩)))
                       (case aS => exact (below_size qz7))
                       (case aL => have := LMc61.out; omega)
                       intro v663 w72 ho hb hg hat
                       rw [← Ny662.out] at ho
                       have n0_ := Aside0.mk (Kd.R_after (ok := (fun k_ => k_ ≠ gb621)) qz18 hg hat)
                       have n1_ := Aside0.mk (Kd.R_over' qz54 (Kd.R_typed (by (with_reducible repeat (first | apply Kd.R_alloc | apply Kd.R_drewN | apply Kd.R_drew)); exact HO657.out)) (by decide) hg)
                       have n2_ := Aside0.mk (blk_grown (g := gb621) (o := .cells #[.int .i64 t619, .int .i64 t620] 56 (0, 0)) qz16 hg (Kd.R_away HO657.out (fun _ hk => hk.2)))
                       have n3_ := Aside0.mk (hb)
                       have n4_ := Aside0.mk ((show Kd.C k56 w72 Ao49 y658.length y658 from by rw [Ny658.out]; exact Kd.C_take (m := ((rd t637 x16_4) : Int).toNat) ((Kd.R_reads' (Kd.R_after (ok := (fun k_ => k_ ≠ gb621)) qz18 hg hat)).2.2) KL68.out))
                       have n5_ := Aside0.mk ((show Kd.C k56 w72 A69 y665.length y665 from by rw [Ny665.out, KA69.out]; exact Kd.C_drop (m := ((ji62) : Int).toNat) (c := co49) ((Kd.R_reads' (Kd.R_after (ok := (fun k_ => k_ ≠ gb621)) qz18 hg hat)).2.2) KL69.out ((Kd.R_reads' (Kd.R_after (ok := (fun k_ => k_ ≠ gb621)) qz18 hg hat)).2.1)))
                       have n6_ := Aside0.mk (ho)
                       clear HO_11
                       clear HO_12
                       clear BK621
                       clear HB
                       clear HR661
                       clear HR668
                       clear HO657
                       have HO_11 := n0_
                       have HO_12 := n1_
                       have BK621 := n2_
                       have HB := n3_
                       have HR661 := n4_
                       have HR668 := n5_
                       have HO664 := n6_
                       clear n0_ n1_ n2_ n3_ n4_ n5_ n6_
                       clear ho hb hg hat
                       refine hK.out _ _ trivial (fun hHeld => ?_)
                       clear hK K
                       refine norm_ (a' := ?_) ?_ ?_
                       rotate_left
                       ·
                        show Act.put _ (some 114) _ = _
                        simp only [Act.put, List.setIfInBounds_toArray, List.set_cons_zero, List.set_cons_succ, i64_w, i32_w]
                        rfl
                       refine one_ (i := 9) (N := some 119) #[true, true, true, true, true, true, true, true, true, true, false] rfl rfl (one_of HT_.out qz10) (by decide) (fun K hK => ?_)
                       refine Kd.R_append_rows_step k56 (w0 := w) w.heap.size (by rfl) (.tmp 114) (.tmp 118) 24 56 (.agg #[(.int .i64 0), (.int .i64 0)]) 16 rfl Try.underlying24 info56 rfl (by decide) (by omega) v663 y662 y665 _ _ _ (fun k_ => some k_ ≠ (.slice Ao49 t634.length co49 : Value).ownBlock ∧ k_ ≠ gb621) (fun _ => False) rfl rfl ?aO ?aR (fun _ _ h => h) (fun _ h => h.elim) ?aF ?aB ?aS ?aL ?_
                       (case aR => repeat (first | exact qz59 | (with_reducible refine Kd.C_alloc ?_ _) | (with_reducible refine Kd.C_drewN ?_ _) | (with_reducible refine Kd.C_drew ?_)))
                       (case aB => exact qz7)
                       (case aF => exact (fun k_ hk => ⟨Kd.fresh' (Kd.R_lt qz18) k_ hk, Kd.freshB (g := gb621) (o := .cells #[.int .i64 t619, .int .i64 t620] 56 (0, 0)) qz16 k_ hk⟩))
                       (case aO => exact (by (with_reducible repeat (first | apply Kd.R_alloc | apply Kd.R_drewN | apply Kd.R_drew)); exact HO664.out))
                       (case aS => exact (below_size qz7))
                       (case aL => have := LMc65.out; omega)
                       intro v670 w73 ho hb hg hat
                       rw [← Ny669.out] at ho
                       have n0_ := Aside0.mk (Kd.R_after (ok := (fun k_ => k_ ≠ gb621)) qz18 hg hat)
                       have n1_ := Aside0.mk (Kd.R_over' qz54 (Kd.R_typed (by (with_reducible repeat (first | apply Kd.R_alloc | apply Kd.R_drewN | apply Kd.R_drew)); exact HO664.out)) (by decide) hg)
                       have n2_ := Aside0.mk (blk_grown (g := gb621) (o := .cells #[.int .i64 t619, .int .i64 t620] 56 (0, 0)) qz16 hg (Kd.R_away HO664.out (fun _ hk => hk.2)))
                       have n3_ := Aside0.mk (hb)
                       have n4_ := Aside0.mk ((show Kd.C k56 w73 Ao49 y658.length y658 from by rw [Ny658.out]; exact Kd.C_take (m := ((rd t637 x16_4) : Int).toNat) ((Kd.R_reads' (Kd.R_after (ok := (fun k_ => k_ ≠ gb621)) qz18 hg hat)).2.2) KL68.out))
                       have n5_ := Aside0.mk ((show Kd.C k56 w73 A69 y665.length y665 from by rw [Ny665.out, KA69.out]; exact Kd.C_drop (m := ((ji62) : Int).toNat) (c := co49) ((Kd.R_reads' (Kd.R_after (ok := (fun k_ => k_ ≠ gb621)) qz18 hg hat)).2.2) KL69.out ((Kd.R_reads' (Kd.R_after (ok := (fun k_ => k_ ≠ gb621)) qz18 hg hat)).2.1)))
                       have n6_ := Aside0.mk (ho)
                       clear HO_11
                       clear HO_12
                       clear BK621
                       clear HB
                       clear HR661
                       clear HR668
                       clear HO664
                       have HO_11 := n0_
                       have HO_12 := n1_
                       have BK621 := n2_
                       have HB := n3_
                       have HR661 := n4_
                       have HR668 := n5_
                       have HO671 := n6_
                       clear n0_ n1_ n2_ n3_ n4_ n5_ n6_
                       clear ho hb hg hat
                       refine hK.out _ _ trivial (fun hHeld => ?_)
                       clear hK K
                       refine norm_ (a' := ?_) ?_ ?_
                       rotate_left
                       ·
                        show Act.put _ (some 119) _ = _
                        simp only [Act.put, List.setIfInBounds_toArray, List.set_cons_zero, List.set_cons_succ, i64_w, i32_w]
                        rfl
                       refine pZ 10 (some 18) (bz 11 2047) ?_
                       refine done_ (done_of HT_.out qz10) ?_
                       try go_wp2
                       go_loopg [19] k4 (fun kq v19 w' => ∃ (x19_5 : Int), v19 = .int .i64 x19_5 ∧ Aside0 (laws_FnPoints.l1 kq l0 t634 t637 x16_4 y669 x19_5 = some true) ∧ Aside0 (kq ≤ k4) ∧ Aside0 (Kd.R k56 56 w' w.heap.size (fun k_ => some k_ ≠ (v670 : Value).ownBlock ∧ k_ ≠ gb621) (.slice Ao49 t634.length co49) t634) ∧ Aside0 (Kd.R (Kd.int .i64) 3 w' w.heap.size (fun _ => True) (.slice (some ad654) t637.length co66) t637) ∧ Aside0 (Kd.R k56 56 w' w.heap.size (fun k_ => some k_ ≠ ((.slice Ao49 t634.length co49) : Value).ownBlock ∧ k_ ≠ gb621) v670 y669) ∧ Aside0 (w'.heap[gb621]? = some (.cells #[.int .i64 t619, .int .i64 t620] 56 (0, 0))) ∧ Aside0 (Kd.C k56 w' Ao49 y658.length y658) ∧ Aside0 (Kd.C k56 w' A69 y665.length y665) ∧ Aside0 (Below w.heap.size w w'))
                       case atStart => exact ⟨(0), qz23, H', ⟨Nat.le_refl _⟩, ⟨by (with_reducible repeat (first | apply Kd.R_alloc | apply Kd.R_drewN | apply Kd.R_drew)); exact Kd.R_mono HO_11.out (fun _ hk => ⟨hk.2, hk.1⟩)⟩, ⟨by (with_reducible repeat (first | apply Kd.R_alloc | apply Kd.R_drewN | apply Kd.R_drew)); exact HO_12.out⟩, ⟨by (with_reducible repeat (first | apply Kd.R_alloc | apply Kd.R_drewN | apply Kd.R_drew)); exact HO671.out⟩, ⟨by (with_reducible repeat (first | refine blk_drewN ?_ _ | refine blk_drew ?_ | refine blk_alloc ?_ _)); exact BK621.out⟩, ⟨by repeat (first | (with_reducible exact HR661.out) | (with_reducible refine Kd.C_alloc ?_ _) | (with_reducible refine Kd.C_drewN ?_ _) | (with_reducible refine Kd.C_drew ?_) | exact HR661.out)⟩, ⟨by repeat (first | (with_reducible exact HR668.out) | (with_reducible refine Kd.C_alloc ?_ _) | (with_reducible refine Kd.C_drewN ?_ _) | (with_reducible refine Kd.C_drew ?_) | exact HR668.out)⟩, ⟨by repeat (first | (with_reducible first | exact HB.out | apply below_alloc | apply pw_below_drewN | apply below_drew1 | refine below_set ?_ GE621.out) | exact HB.out)⟩⟩
                       case round =>
                        clear H'
                        try clear c1
                        try clear c2
                        try clear p2
                        try clear c3
                        try clear c4
                        try clear c5
                        try clear c6
                        try clear p6
                        try clear q6
                        try clear hx6
                        try clear c11
                        try clear c15
                        try clear c15b0
                        try clear c15b1
                        try clear c15b2
                        try clear c19
                        try clear c21
                        try clear c23
                        try clear c24
                        try clear c24b0
                        try clear c24b1
                        try clear c26
                        try clear c38
                        try clear c39
                        try clear c40
                        try clear c42
                        try clear c43
                        try clear c44
                        try clear c52
                        try clear c52b0
                        try clear c52b1
                        try clear c52b2
                        try clear c56
                        try clear c57
                        try clear c57b0
                        try clear c58
                        try clear c58b0
                        try clear c59
                        try clear c59b0
                        try clear c59b1
                        try clear c60
                        try clear c60b0
                        try clear c60b1
                        try clear c61
                        try clear c63
                        try clear c63b0
                        try clear c63b1
                        try clear c64
                        try clear c64b0
                        try clear c64b1
                        try clear p64
                        try clear c65
                        try clear p65
                        try clear q65
                        try clear hx65
                        try clear q68
                        try clear c69
                        try clear q69
                        try clear hcz10_0
                        try clear hcz10_1
                        try clear hcz13_0
                        try clear hcz13_1
                        try clear hcz27_0
                        try clear hcz27_1
                        try clear hcz30_0
                        try clear hcz30_1
                        try clear hcz32_0
                        try clear hcz32_1
                        try clear hcz35_0
                        try clear hcz35_1
                        try clear hcz37_0
                        try clear hcz37_1
                        try clear hcz40_0
                        try clear hcz40_1
                        try clear hcz41_0
                        try clear hcz41_1
                        try clear hfz10_0
                        try clear hfz10_1
                        try clear hfz13_0
                        try clear hfz13_1
                        try clear hfz27_0
                        try clear hfz27_1
                        try clear hfz30_0
                        try clear hfz30_1
                        try clear hfz32_0
                        try clear hfz32_1
                        try clear hfz35_0
                        try clear hfz35_1
                        try clear hfz37_0
                        try clear hfz37_1
                        try clear hfz40_0
                        try clear hfz40_1
                        try clear hfz41_0
                        try clear hfz41_1
                        try clear hx654_0
                        try clear p2
                        try clear p654
                        try clear q069
                        try clear q654
                        try clear q68
                        try clear q69
                        obtain ⟨x19_5, rfl, HA, HK5, HO_11, HO_12, HO_18, BK621, HR661, HR668, HB⟩ := hrel
                        cases gk with
                        | zero => exact absurd HA.out (by simp [laws_FnPoints.l1])
                        | succ k5 =>
                         have H := HA.out
                         clear HA
                         simp only [laws_FnPoints.l1] at H
                         by_cases c74 : x19_5 ≤ 999
                         ·
                          rw [if_pos c74] at H
                          have c74b0 : decide (x19_5 ≤ 999) = true := decide_eq_true c74
                          clear c74
                          replace H := Option.bind_eq_some_iff.mp H
                          obtain ⟨⟨t672, t673⟩, A750, H⟩ := H
                          replace H : ((impl_DeclinationOn.f k5 y669 x19_5).bind fun bt674 => (if t673 = true then (if bt674.2 = true then (if t672 = bt674.1 then (laws_FnPoints.l1 k5 l0 t634 t637 x16_4 y669 (wrap64 (x19_5 + 37))) else (some false)) else (some false)) else (some false))) = some true := H
                          have A75 := Aside0.mk A750
                          clear A750
                          replace H := Option.bind_eq_some_iff.mp H
                          obtain ⟨⟨t674, t675⟩, A760, H⟩ := H
                          replace H : (if t673 = true then (if t675 = true then (if t672 = t674 then (laws_FnPoints.l1 k5 l0 t634 t637 x16_4 y669 (wrap64 (x19_5 + 37))) else (some false)) else (some false)) else (some false)) = some true := H
                          have A76 := Aside0.mk A760
                          clear A760
                          by_cases c77 : t673 = true
                          ·
                           subst c77
                           have H1 : (if t675 = true then (if t672 = t674 then (laws_FnPoints.l1 k5 l0 t634 t637 x16_4 y669 (wrap64 (x19_5 + 37))) else (some false)) else (some false)) = some true := by rw [if_pos rfl] at H; exact H
                           clear H
                           have H := H1
                           clear H1
                           by_cases c78 : t675 = true
                           ·
                            subst c78
                            have H1 : (if t672 = t674 then (laws_FnPoints.l1 k5 l0 t634 t637 x16_4 y669 (wrap64 (x19_5 + 37))) else (some false)) = some true := by rw [if_pos rfl] at H; exact H
                            clear H
                            have H := H1
                            clear H1
                            by_cases c79 : t672 = t674
                            ·
                             rw [if_pos c79] at H
                             have c79b0 : (t672 == t674) = true := beq_iff_eq.mpr c79
                             have c79b1 : (t672 != t674) = false := bne_eq_false_iff_eq.mpr c79
                             clear c79
                             have H' := Aside0.mk H
                             clear H
                             go_wp2_with (first | ((with_reducible refine gate_callee (f := 11) rfl ?_); refine goesL_ (some 127) rfl rfl Try.func11 qz10 rfl #[.slice Ao49 t634.length co49, .int .i64 x19_5] rfl qz2 ?_; (with_reducible refine (impl_DeclinationOn.calls k5 _ _ t634 x19_5 t672 true _ ?side1 ?side2 A75.out).mono ?_); (case side1 => repeat (first | exact (Kd.R_reads' HO_11.out).2.2 | (with_reducible refine Kd.C_alloc ?_ _) | (with_reducible refine Kd.C_drewN ?_ _) | (with_reducible refine Kd.C_drew ?_))); (case side2 => exact (Kd.R_reads' HO_11.out).2.1); rintro e w80 ⟨rfl, hb⟩; refine ⟨_, rfl, ?_⟩; have n0_ := Aside0.mk (Kd.R_below qz18 hb); have n1_ := Aside0.mk (Kd.R_below qz54 hb); have n2_ := Aside0.mk (Kd.R_below (by (with_reducible repeat (first | apply Kd.R_alloc | apply Kd.R_drewN | apply Kd.R_drew)); exact HO_18.out) hb); have n3_ := Aside0.mk (blk_below (g := gb621) (o := .cells #[.int .i64 t619, .int .i64 t620] 56 (0, 0)) qz16 hb); have n4_ := Aside0.mk (Kd.C_below qz60 hb); have n5_ := Aside0.mk (Kd.C_below qz59 hb); have n6_ := Aside0.mk (below_step qz7 hb); clear HO_11; clear HO_12; clear HO_18; clear BK621; clear HR661; clear HR668; clear HB; have HO_11 := n0_; have HO_12 := n1_; have HO_18 := n2_; have BK621 := n3_; have HR661 := n4_; have HR668 := n5_; have HB := n6_; clear n0_ n1_ n2_ n3_ n4_ n5_ n6_; (try clear hb); (try clear hb2); (try clear hk); (try clear hi); obtain ⟨Ao81, co81, eo81⟩ := Kd.R_slice HO_18.out; subst eo81) | ((with_reducible refine gate_callee (f := 11) rfl ?_); refine goesL_ (some 133) rfl rfl Try.func11 qz10 rfl #[.slice Ao81 y669.length co81, .int .i64 x19_5] rfl qz2 ?_; (with_reducible refine (impl_DeclinationOn.calls k5 _ _ y669 x19_5 t674 true _ ?side1 ?side2 A76.out).mono ?_); (case side1 => repeat (first | exact (Kd.R_reads' HO_18.out).2.2 | (with_reducible refine Kd.C_alloc ?_ _) | (with_reducible refine Kd.C_drewN ?_ _) | (with_reducible refine Kd.C_drew ?_))); (case side2 => exact (Kd.R_reads' HO_18.out).2.1); rintro e w82 ⟨rfl, hb⟩; refine ⟨_, rfl, ?_⟩; have n0_ := Aside0.mk (Kd.R_below qz18 hb); have n1_ := Aside0.mk (Kd.R_below qz54 hb); have n2_ := Aside0.mk (Kd.R_below (by (with_reducible repeat (first | apply Kd.R_alloc | apply Kd.R_drewN | apply Kd.R_drew)); exact HO_18.out) hb); have n3_ := Aside0.mk (blk_below (g := gb621) (o := .cells #[.int .i64 t619, .int .i64 t620] 56 (0, 0)) qz16 hb); have n4_ := Aside0.mk (Kd.C_below qz60 hb); have n5_ := Aside0.mk (Kd.C_below qz59 hb); have n6_ := Aside0.mk (below_step qz7 hb); clear HO_11; clear HO_12; clear HO_18; clear BK621; clear HR661; clear HR668; clear HB; have HO_11 := n0_; have HO_12 := n1_; have HO_18 := n2_; have BK621 := n3_; have HR661 := n4_; have HR668 := n5_; have HB := n6_; clear n0_ n1_ n2_ n3_ n4_ n5_ n6_; (try clear hb); (try clear hb2); (try clear hk); (try clear hi)))
                             go_roundg k5
                             case measure => have := HJ6.out; have := HJ19.out; have := HJ46.out; have := HK4.out; have := HK5.out; omega
                             case rel => exact ⟨(wrap64 (x19_5 + 37)), qz23, H', ⟨by have := HJ6.out; have := HJ19.out; have := HJ46.out; have := HK4.out; have := HK5.out; omega⟩, ⟨by (with_reducible repeat (first | apply Kd.R_alloc | apply Kd.R_drewN | apply Kd.R_drew)); exact HO_11.out⟩, ⟨by (with_reducible repeat (first | apply Kd.R_alloc | apply Kd.R_drewN | apply Kd.R_drew)); exact HO_12.out⟩, ⟨by (with_reducible repeat (first | apply Kd.R_alloc | apply Kd.R_drewN | apply Kd.R_drew)); exact HO_18.out⟩, ⟨by (with_reducible repeat (first | refine blk_drewN ?_ _ | refine blk_drew ?_ | refine blk_alloc ?_ _)); exact BK621.out⟩, ⟨by repeat (first | (with_reducible exact HR661.out) | (with_reducible refine Kd.C_alloc ?_ _) | (with_reducible refine Kd.C_drewN ?_ _) | (with_reducible refine Kd.C_drew ?_) | exact HR661.out)⟩, ⟨by repeat (first | (with_reducible exact HR668.out) | (with_reducible refine Kd.C_alloc ?_ _) | (with_reducible refine Kd.C_drewN ?_ _) | (with_reducible refine Kd.C_drew ?_) | exact HR668.out)⟩, ⟨by repeat (first | (with_reducible first | exact HB.out | apply below_alloc | apply pw_below_drewN | apply below_drew1 | refine below_set ?_ GE621.out) | exact HB.out)⟩⟩
                            ·
                             rw [if_neg c79] at H
                             have c79b0 : (t672 == t674) = false := beq_eq_false_iff_ne.mpr c79
                             have c79b1 : (t672 != t674) = true := bne_iff_ne.mpr c79
                             exact absurd (Option.some.inj H) (by decide)
                           ·
                            replace c78 := Bool.eq_false_iff.mpr c78
                            subst c78
                            have H1 : (some false) = some true := by rw [if_neg (show ¬ (false = true) by decide)] at H; exact H
                            clear H
                            have H := H1
                            clear H1
                            exact absurd (Option.some.inj H) (by decide)
                          ·
                           replace c77 := Bool.eq_false_iff.mpr c77
                           subst c77
                           have H1 : (some false) = some true := by rw [if_neg (show ¬ (false = true) by decide)] at H; exact H
                           clear H
                           have H := H1
                           clear H1
                           exact absurd (Option.some.inj H) (by decide)
                         ·
                          rw [if_neg c74] at H
                          have c74b0 : decide (x19_5 ≤ 999) = false := decide_eq_false c74
                          clear c74
                          have H' := Aside0.mk H
                          clear H
                          go_wp2
                          go_roundg k5
                          case measure => have := HJ6.out; have := HJ19.out; have := HJ46.out; have := HK4.out; have := HK5.out; omega
                          case rel => exact ⟨(wrap64 (x16_4 + 1)), qz23, H', ⟨by have := HJ6.out; have := HJ19.out; have := HJ46.out; have := HK4.out; have := HK5.out; omega⟩, ⟨by (with_reducible repeat (first | apply Kd.R_alloc | apply Kd.R_drewN | apply Kd.R_drew)); exact Kd.R_mono HO_11.out (fun _ hk => hk.2)⟩, ⟨by (with_reducible repeat (first | apply Kd.R_alloc | apply Kd.R_drewN | apply Kd.R_drew)); exact HO_12.out⟩, ⟨by (with_reducible repeat (first | refine blk_drewN ?_ _ | refine blk_drew ?_ | refine blk_alloc ?_ _)); exact BK621.out⟩, ⟨by repeat (first | (with_reducible first | exact HB.out | apply below_alloc | apply pw_below_drewN | apply below_drew1 | refine below_set ?_ GE621.out) | exact HB.out)⟩⟩
                      ·
                       rw [if_neg c65] at H
                       exact absurd H (by simp)
                     ·
                      rw [if_neg c64] at H
                      exact absurd H (by simp)
                    ·
                     rw [if_neg c63] at H
                     exact absurd H (by simp)
                   ·
                    rw [if_neg c61] at H
                    exact absurd H (by simp)
                  ·
                   rw [if_neg c60] at H
                   exact absurd H (by simp)
                 ·
                  rw [if_neg c59] at H
                  exact absurd H (by simp)
                ·
                 rw [if_neg c58] at H
                 exact absurd H (by simp)
               ·
                rw [if_neg c57] at H
                have c57b0 : decide (x16_4 < (t637.length : Int)) = false := decide_eq_false c57
                clear c57
                replace H := Option.bind_eq_some_iff.mp H
                obtain ⟨⟨t646, t647⟩, A920, H⟩ := H
                replace H : ((impl_DeclinationOn.f k4 t646 t647).bind fun bt650 => ((spec_DeclinationOn.f k4 t646 t647).bind fun bt652 => (if bt650.1 = bt652.1 then (some (bt650.2 == bt652.2)) else (some false)))) = some true := H
                have A92 := Aside0.mk A920
                clear A920
                replace H := Option.bind_eq_some_iff.mp H
                obtain ⟨⟨t650, t651⟩, A930, H⟩ := H
                replace H : ((spec_DeclinationOn.f k4 t646 t647).bind fun bt652 => (if t650 = bt652.1 then (some (t651 == bt652.2)) else (some false))) = some true := H
                have A93 := Aside0.mk A930
                clear A930
                replace H := Option.bind_eq_some_iff.mp H
                obtain ⟨⟨t652, t653⟩, A940, H⟩ := H
                replace H : (if t650 = t652 then (some (t651 == t653)) else (some false)) = some true := H
                have A94 := Aside0.mk A940
                clear A940
                by_cases c95 : t650 = t652
                ·
                 rw [if_pos c95] at H
                 have c95b0 : (t650 == t652) = true := beq_iff_eq.mpr c95
                 have c95b1 : (t650 != t652) = false := bne_eq_false_iff_eq.mpr c95
                 clear c95
                 (first | obtain rfl := Option.some.inj H | have hr_ := eq_of_beq (Option.some.inj H) | skip)
                 obtain ⟨Ao96, co96, eo96⟩ := Kd.R_slice HO_12.out
                 subst eo96
                 go_wp2_with (first | ((with_reducible refine gate_callee (f := 45) rfl ?_); refine goesL_ (some 149) rfl rfl Try.func45 qz10 rfl #[.slice A0 l0.length c0] rfl qz2 ?_; (with_reducible refine (spec_DrawDeclinationOn.calls k4 _ _ l0 t646 t647 _ ?side1 ?side2 A92.out).mono ?_); (case side1 => repeat (first | exact (Kd.C_below HR0.out HB.out) | (with_reducible refine Kd.C_alloc ?_ _) | (with_reducible refine Kd.C_drewN ?_ _) | (with_reducible refine Kd.C_drew ?_))); (case side2 => exact HC0.out); rintro e w97 ⟨v648, rfl, ho0, hb⟩; refine ⟨_, rfl, ?_⟩; have n0_ := Aside0.mk (Kd.R_elder' qz18 (Kd.R_base ho0) hb); have n1_ := Aside0.mk (Kd.R_below qz54 hb); have n2_ := Aside0.mk (Kd.R_lower (Kd.R_newB (Kd.R_new' ho0 (Kd.R_lt qz18)) (g := gb621) (o := .cells #[.int .i64 t619, .int .i64 t620] 56 (0, 0)) qz16) (below_size qz7)); have n3_ := Aside0.mk (blk_below (g := gb621) (o := .cells #[.int .i64 t619, .int .i64 t620] 56 (0, 0)) qz16 hb); have n4_ := Aside0.mk (below_step qz7 hb); clear HO_11; clear HO_12; clear BK621; clear HB; have HO_11 := n0_; have HO_12 := n1_; have HO649 := n2_; have BK621 := n3_; have HB := n4_; clear n0_ n1_ n2_ n3_ n4_; (try clear hb); (try clear hb2); (try clear hk); (try clear hi); (try clear ho0); obtain ⟨Ao98, co98, eo98⟩ := Kd.R_slice HO649.out; subst eo98) | ((with_reducible refine gate_callee (f := 11) rfl ?_); refine goesL_ (some 155) rfl rfl Try.func11 qz10 rfl #[.slice Ao98 t646.length co98, .int .i64 t647] rfl qz2 ?_; (with_reducible refine (impl_DeclinationOn.calls k4 _ _ t646 t647 t650 t651 _ ?side1 ?side2 A93.out).mono ?_); (case side1 => repeat (first | exact (Kd.R_reads' HO649.out).2.2 | (with_reducible refine Kd.C_alloc ?_ _) | (with_reducible refine Kd.C_drewN ?_ _) | (with_reducible refine Kd.C_drew ?_))); (case side2 => exact (Kd.R_reads' HO649.out).2.1); rintro e w99 ⟨rfl, hb⟩; refine ⟨_, rfl, ?_⟩; have n0_ := Aside0.mk (Kd.R_below qz18 hb); have n1_ := Aside0.mk (Kd.R_below qz54 hb); have n2_ := Aside0.mk (Kd.R_below (by (with_reducible repeat (first | apply Kd.R_alloc | apply Kd.R_drewN | apply Kd.R_drew)); exact HO649.out) hb); have n3_ := Aside0.mk (blk_below (g := gb621) (o := .cells #[.int .i64 t619, .int .i64 t620] 56 (0, 0)) qz16 hb); have n4_ := Aside0.mk (below_step qz7 hb); clear HO_11; clear HO_12; clear HO649; clear BK621; clear HB; have HO_11 := n0_; have HO_12 := n1_; have HO649 := n2_; have BK621 := n3_; have HB := n4_; clear n0_ n1_ n2_ n3_ n4_; (try clear hb); (try clear hb2); (try clear hk); (try clear hi)) | ((with_reducible refine gate_callee (f := 46) rfl ?_); refine goesL_ (some 161) rfl rfl Try.func46 qz10 rfl #[.slice Ao98 t646.length co98, .int .i64 t647] rfl qz2 ?_; (with_reducible refine (spec_DeclinationOn.calls k4 _ _ t646 t647 t652 t653 _ ?side1 ?side2 A94.out).mono ?_); (case side1 => repeat (first | exact (Kd.R_reads' HO649.out).2.2 | (with_reducible refine Kd.C_alloc ?_ _) | (with_reducible refine Kd.C_drewN ?_ _) | (with_reducible refine Kd.C_drew ?_))); (case side2 => exact (Kd.R_reads' HO649.out).2.1); rintro e w100 ⟨rfl, hb⟩; refine ⟨_, rfl, ?_⟩; have n0_ := Aside0.mk (Kd.R_below qz18 hb); have n1_ := Aside0.mk (Kd.R_below qz54 hb); have n2_ := Aside0.mk (Kd.R_below (by (with_reducible repeat (first | apply Kd.R_alloc | apply Kd.R_drewN | apply Kd.R_drew)); exact HO649.out) hb); have n3_ := Aside0.mk (blk_below (g := gb621) (o := .cells #[.int .i64 t619, .int .i64 t620] 56 (0, 0)) qz16 hb); have n4_ := Aside0.mk (below_step qz7 hb); clear HO_11; clear HO_12; clear HO649; clear BK621; clear HB; have HO_11 := n0_; have HO_12 := n1_; have HO649 := n2_; have BK621 := n3_; have HB := n4_; clear n0_ n1_ n2_ n3_ n4_; (try clear hb); (try clear hb2); (try clear hk); (try clear hi)))
                 go_ret
                 exact ⟨by first | rfl | (simp [errW_none, errW_some] <;> rfl) | (simp [*, errW_none, errW_some] <;> rfl), by repeat (first | (with_reducible first | exact HB.out | apply below_alloc | apply pw_below_drewN | apply below_drew1 | refine below_set ?_ GE621.out) | exact HB.out)⟩
                ·
                 rw [if_neg c95] at H
                 have c95b0 : (t650 == t652) = false := beq_eq_false_iff_ne.mpr c95
                 have c95b1 : (t650 != t652) = true := bne_iff_ne.mpr c95
                 exact absurd (Option.some.inj H) (by decide)
def laws_FnPoints.Pure : Prop := ∀ (l0 : List Int), l0.length ≤ maxLen → l0.length * 1 ≤ 140737488351232 → (∀ x ∈ l0, (Lit.int .u8 x).wf = true) → ∃ k, laws_FnPoints.f k l0 = some true
end Go.Proofs.Ytlipaiabjcaeiaa.A
