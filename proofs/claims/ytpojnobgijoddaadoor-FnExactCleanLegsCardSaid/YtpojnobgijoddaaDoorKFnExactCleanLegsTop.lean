/- The row of the law FnExactCleanLegs: whatever the input, it returns true; its arguments read as they did. No conditions. -/
import Derived.Deep.Slices
import Derived.Deep.Fields
import Derived.ChangeSame
import Derived.SizedLaws
import Derived.Test.YtpojnobgijoddaaDoorCards
import Derived.Test.YtpojnobgijoddaaDoorTie
import Derived.OpenVars
import Derived.ChangeVars
import Derived.SevenTiedAt
import Derived.ShutString
import Derived.ChangeOld
import Derived.Test.YtpojnobgijoddaaDoorKFnExactCleanLegsU8
set_option maxHeartbeats 8000000
set_option maxRecDepth 100000
set_option linter.unusedSimpArgs false
set_option linter.unusedVariables false
namespace Go.Proofs.YtpojnobgijoddaaDoor.A
open Go.Proofs.YtpojnobgijoddaaDoor Go.RowKit YtpojnobgijoddaaDoorW.PrintWords YtpojnobgijoddaaDoorW.PrintLast YtpojnobgijoddaaDoorW.PrintMore
attribute [local go_sem] max2_int min2_int max_two min_two max_three min_three max_four min_four
theorem ab0 {p : Prop} (h : some false = some true) : p := nomatch h
theorem ob0 {α β : Type} {f : α → Option β} {x : Option α} {b : β} (h : x.bind f = some b) : ∃ a, x = some a ∧ f a = some b := Option.bind_eq_some_iff.1 h
mutual
def lcJ0 : Nat → List (S47) → List (S45) → Int → Bool → List (S45) → List (S45) → Int → Bool → Bool → Option (Bool)
 | 0, _, _, _, _, _, _, _, _, _ => none
 | k + 1, x0, x4, x5, x6, x7, x8, x9, x10, x50 => if x50 = true then (some false) else ((laws_toLegS.f k x0).bind fun yh => ((laws_eqLegS.f k x7 yh).bind fun xb => (if xb = true then ((laws_markLegS.f k x7 1).bind fun yk => (if yk.1 < 0 then (lcJ1 k x0 x4 x5 x6 x8 true) else ((laws_eqLegS.f k x8 x4).bind fun yd => (if yd = true then (if x9 = x5 then (lcJ1 k x0 x4 x5 x6 x8 (x10 != x6)) else (lcJ1 k x0 x4 x5 x6 x8 true)) else (lcJ1 k x0 x4 x5 x6 x8 true))))) else (some false))))
def lcJ1 : Nat → List (S47) → List (S45) → Int → Bool → List (S45) → Bool → Option (Bool)
 | 0, _, _, _, _, _, _ => none
 | k + 1, x0, x4, x5, x6, x8, x76 => if x76 = true then (some false) else ((laws_markLegS.f k x8 1).bind fun ya => ((laws_heldLegS.f k ya.2 1).bind fun xy => (if xy < 0 then (some false) else (if xy = ya.1 then ((laws_toLegS.f k x0).bind fun yf => ((impl_CleanLegs.f yf).bind fun xz => ((laws_eqLegS.f k xz.1 x4).bind fun ye => (if ye = true then (if xz.2.1 = x5 then (lcJ2 k ya.2 ya.1 (xz.2.2 != x6)) else (lcJ2 k ya.2 ya.1 true)) else (lcJ2 k ya.2 ya.1 true))))) else (some false)))))
def lcJ2 : Nat → List (S45) → Int → Bool → Option (Bool)
 | 0, _, _, _ => none
 | k + 1, x8, x12, x108 => if x108 = true then (some false) else ((laws_heldLegS.f k x8 1).bind fun yb => (if yb < 0 then (some false) else (if yb = x12 then (some true) else (some false))))
end
def laws_FnExactCleanLegs.f (k : Nat) (l0 : List (S47)) : Option (Bool) := (laws_szLegS.f l0 1048576).bind fun yi => (if yi < 0 then (some true) else ((laws_toLegS.f k l0).bind fun yj => ((spec_CleanLegs.f k yj).bind fun xq => ((laws_toLegS.f k l0).bind fun xo => ((impl_CleanLegs.f xo).bind fun xl => ((laws_eqLegS.f k xl.1 xq.1).bind fun yc => (if yc = true then (if xl.2.1 = xq.2.1 then (lcJ0 k l0 xq.1 xq.2.1 xq.2.2 xo xl.1 xl.2.1 xl.2.2 (xl.2.2 != xq.2.2)) else (lcJ0 k l0 xq.1 xq.2.1 xq.2.2 xo xl.1 xl.2.1 xl.2.2 true)) else (lcJ0 k l0 xq.1 xq.2.1 xq.2.2 xo xl.1 xl.2.1 xl.2.2 true))))))))
theorem laws_FnExactCleanLegs.mono_l : ∀ k, (∀ y0 y1 y2 y3 y4 y5 y6 y7 y8, LeO (lcJ0 k y0 y1 y2 y3 y4 y5 y6 y7 y8) (lcJ0 (k + 1) y0 y1 y2 y3 y4 y5 y6 y7 y8)) ∧ (∀ y0 y1 y2 y3 y4 y5, LeO (lcJ1 k y0 y1 y2 y3 y4 y5) (lcJ1 (k + 1) y0 y1 y2 y3 y4 y5)) ∧ (∀ y0 y1 y2, LeO (lcJ2 k y0 y1 y2) (lcJ2 (k + 1) y0 y1 y2))
 | 0 => ⟨fun _ _ _ _ _ _ _ _ _ r h => by simp [lcJ0] at h, fun _ _ _ _ _ _ r h => by simp [lcJ1] at h, fun _ _ _ r h => by simp [lcJ2] at h⟩
 | k + 1 => by
  obtain ⟨ih0, ih1, ih2⟩ := laws_FnExactCleanLegs.mono_l k
  refine ⟨?_, ?_, ?_⟩
  ·
   intro y0 y1 y2 y3 y4 y5 y6 y7 y8
   unfold lcJ0
   repeat' first
   | (with_reducible exact ih0 _ _ _ _ _ _ _ _ _)
   | (with_reducible exact ih1 _ _ _ _ _ _)
   | (with_reducible exact ih2 _ _ _)
   | (with_reducible exact laws_eqLegS.mono _ _ _)
   | (with_reducible exact laws_heldLegS.mono _ _ _)
   | (with_reducible exact laws_markLegS.mono _ _ _)
   | (with_reducible exact laws_toLegS.mono _ _)
   | (with_reducible exact spec_CleanLegs.mono _ _)
   | (with_reducible exact LeO.refl _)
   | (with_reducible exact LeO.none _)
   | (with_reducible refine LeO.ite ?_ ?_)
   | (with_reducible refine LeO.bind ?_ (fun _ => ?_))
   | exact ih0 _ _ _ _ _ _ _ _ _
   | exact ih1 _ _ _ _ _ _
   | exact ih2 _ _ _
   | exact laws_eqLegS.mono _ _ _
   | exact laws_heldLegS.mono _ _ _
   | exact laws_markLegS.mono _ _ _
   | exact laws_toLegS.mono _ _
   | exact spec_CleanLegs.mono _ _
   | exact LeO.none _
   | refine LeO.ite ?_ ?_
   | refine LeO.bind ?_ (fun _ => ?_)
  ·
   intro y0 y1 y2 y3 y4 y5
   unfold lcJ1
   repeat' first
   | (with_reducible exact ih0 _ _ _ _ _ _ _ _ _)
   | (with_reducible exact ih1 _ _ _ _ _ _)
   | (with_reducible exact ih2 _ _ _)
   | (with_reducible exact laws_eqLegS.mono _ _ _)
   | (with_reducible exact laws_heldLegS.mono _ _ _)
   | (with_reducible exact laws_markLegS.mono _ _ _)
   | (with_reducible exact laws_toLegS.mono _ _)
   | (with_reducible exact spec_CleanLegs.mono _ _)
   | (with_reducible exact LeO.refl _)
   | (with_reducible exact LeO.none _)
   | (with_reducible refine LeO.ite ?_ ?_)
   | (with_reducible refine LeO.bind ?_ (fun _ => ?_))
   | exact ih0 _ _ _ _ _ _ _ _ _
   | exact ih1 _ _ _ _ _ _
   | exact ih2 _ _ _
   | exact laws_eqLegS.mono _ _ _
   | exact laws_heldLegS.mono _ _ _
   | exact laws_markLegS.mono _ _ _
   | exact laws_toLegS.mono _ _
   | exact spec_CleanLegs.mono _ _
   | exact LeO.none _
   | refine LeO.ite ?_ ?_
   | refine LeO.bind ?_ (fun _ => ?_)
  ·
   intro y0 y1 y2
   unfold lcJ2
   repeat' first
   | (with_reducible exact ih0 _ _ _ _ _ _ _ _ _)
   | (with_reducible exact ih1 _ _ _ _ _ _)
   | (with_reducible exact ih2 _ _ _)
   | (with_reducible exact laws_eqLegS.mono _ _ _)
   | (with_reducible exact laws_heldLegS.mono _ _ _)
   | (with_reducible exact laws_markLegS.mono _ _ _)
   | (with_reducible exact laws_toLegS.mono _ _)
   | (with_reducible exact spec_CleanLegs.mono _ _)
   | (with_reducible exact LeO.refl _)
   | (with_reducible exact LeO.none _)
   | (with_reducible refine LeO.ite ?_ ?_)
   | (with_reducible refine LeO.bind ?_ (fun _ => ?_))
   | exact ih0 _ _ _ _ _ _ _ _ _
   | exact ih1 _ _ _ _ _ _
   | exact ih2 _ _ _
   | exact laws_eqLegS.mono _ _ _
   | exact laws_heldLegS.mono _ _ _
   | exact laws_markLegS.mono _ _ _
   | exact laws_toLegS.mono _ _
   | exact spec_CleanLegs.mono _ _
   | exact LeO.none _
   | refine LeO.ite ?_ ?_
   | refine LeO.bind ?_ (fun _ => ?_)
theorem laws_FnExactCleanLegs.mono : ∀ a0 k, LeO (laws_FnExactCleanLegs.f k a0) (laws_FnExactCleanLegs.f (k + 1) a0) := by
 intro a0 k
 obtain ⟨ih0, ih1, ih2⟩ := laws_FnExactCleanLegs.mono_l k
 unfold laws_FnExactCleanLegs.f
 repeat' first
   | (with_reducible exact ih0 _ _ _ _ _ _ _ _ _)
   | (with_reducible exact ih1 _ _ _ _ _ _)
   | (with_reducible exact ih2 _ _ _)
   | (with_reducible exact laws_eqLegS.mono _ _ _)
   | (with_reducible exact laws_heldLegS.mono _ _ _)
   | (with_reducible exact laws_markLegS.mono _ _ _)
   | (with_reducible exact laws_toLegS.mono _ _)
   | (with_reducible exact spec_CleanLegs.mono _ _)
   | (with_reducible exact LeO.refl _)
   | (with_reducible exact LeO.none _)
   | (with_reducible refine LeO.ite ?_ ?_)
   | (with_reducible refine LeO.bind ?_ (fun _ => ?_))
   | exact ih0 _ _ _ _ _ _ _ _ _
   | exact ih1 _ _ _ _ _ _
   | exact ih2 _ _ _
   | exact laws_eqLegS.mono _ _ _
   | exact laws_heldLegS.mono _ _ _
   | exact laws_markLegS.mono _ _ _
   | exact laws_toLegS.mono _ _
   | exact spec_CleanLegs.mono _ _
   | exact LeO.none _
   | refine LeO.ite ?_ ?_
   | refine LeO.bind ?_ (fun _ => ?_)
theorem laws_FnExactCleanLegs.calls (k : Nat) (A0 : Option Addr) (c0 : Nat) (l0 : List (S47)) (r : Bool) (w : World) (hr0 : Kd.C k47 w A0 l0.length l0) (hc0 : l0.length ≤ c0) (h : laws_FnExactCleanLegs.f k l0 = some true) (hL : Net.Sine.Laid w) :
  Calls Tryd.prog 9 #[.slice A0 l0.length c0] w fun e w' => e = .returned (.bool true) ∧ Below w.heap.size w w' := by
 have HL := Aside0.mk hL
 clear hL
 have HR0 := Aside0.mk hr0
 have HC0 := Aside0.mk hc0
 clear hr0 hc0
 have HB := Aside0.mk (Below.refl w.heap.size w)
 have H : ((laws_szLegS.f l0 1048576).bind fun yi => (if yi < 0 then (some true) else ((laws_toLegS.f k l0).bind fun yj => ((spec_CleanLegs.f k yj).bind fun xq => ((laws_toLegS.f k l0).bind fun xo => ((impl_CleanLegs.f xo).bind fun xl => ((laws_eqLegS.f k xl.1 xq.1).bind fun yc => (if yc = true then (if xl.2.1 = xq.2.1 then (lcJ0 k l0 xq.1 xq.2.1 xq.2.2 xo xl.1 xl.2.1 xl.2.2 (xl.2.2 != xq.2.2)) else (lcJ0 k l0 xq.1 xq.2.1 xq.2.2 xo xl.1 xl.2.1 xl.2.2 true)) else (lcJ0 k l0 xq.1 xq.2.1 xq.2.2 xo xl.1 xl.2.1 xl.2.2 true))))))))) = some true := h
 clear h
 replace H := ob0 H
 obtain ⟨yi, yt, H⟩ := H
 replace H : (if yi < 0 then (some true) else ((laws_toLegS.f k l0).bind fun yj => ((spec_CleanLegs.f k yj).bind fun xq => ((laws_toLegS.f k l0).bind fun xo => ((impl_CleanLegs.f xo).bind fun xl => ((laws_eqLegS.f k xl.1 xq.1).bind fun yc => (if yc = true then (if xl.2.1 = xq.2.1 then (lcJ0 k l0 xq.1 xq.2.1 xq.2.2 xo xl.1 xl.2.1 xl.2.2 (xl.2.2 != xq.2.2)) else (lcJ0 k l0 xq.1 xq.2.1 xq.2.2 xo xl.1 xl.2.1 xl.2.2 true)) else (lcJ0 k l0 xq.1 xq.2.1 xq.2.2 xo xl.1 xl.2.1 xl.2.2 true)))))))) = some true := H
 have A2 := Aside0.mk yt
 clear yt
 by_cases c3 : yi < 0
 ·
  rw [if_pos c3] at H
  have xi : decide (yi < 0) = true := decide_eq_true c3
  clear c3
  go_enter Tryd.func9, Tryd.ntmps9
  go_wp2_with (first | ((with_reducible refine gate_callee (f := 10) rfl ?_); refine goesL_ (some 19) rfl rfl Tryd.func10 qz5 rfl #[.slice A0 l0.length c0, .int .i64 1048576] rfl qz1 ?_; (with_reducible refine (laws_szLegS.calls _ _ l0 1048576 yi _ ?side1 ?side2 A2.out).mono ?_); (case side1 => repeat (first | exact HR0.out | (with_reducible refine Kd.C_alloc ?_ _) | (with_reducible refine Kd.C_drewN ?_ _) | (with_reducible refine Kd.C_drew ?_))); (case side2 => exact HC0.out); rintro e w' ⟨rfl, ⟨nd, rfl⟩⟩; refine ⟨_, rfl, ?_⟩))
  go_ret
  exact ⟨by first | rfl | (simp [errW_none, errW_some] <;> rfl) | (simp [*, errW_none, errW_some] <;> rfl), by repeat (first | (with_reducible first | exact HB.out | apply below_alloc | apply pw_below_drewN | apply below_drew1) | exact HB.out)⟩
 ·
  rw [if_neg c3] at H
  have xi : decide (yi < 0) = false := decide_eq_false c3
  clear c3
  replace H := ob0 H
  obtain ⟨yj, yu, H⟩ := H
  replace H : ((spec_CleanLegs.f k yj).bind fun xq => ((laws_toLegS.f k l0).bind fun xo => ((impl_CleanLegs.f xo).bind fun xl => ((laws_eqLegS.f k xl.1 xq.1).bind fun yc => (if yc = true then (if xl.2.1 = xq.2.1 then (lcJ0 k l0 xq.1 xq.2.1 xq.2.2 xo xl.1 xl.2.1 xl.2.2 (xl.2.2 != xq.2.2)) else (lcJ0 k l0 xq.1 xq.2.1 xq.2.2 xo xl.1 xl.2.1 xl.2.2 true)) else (lcJ0 k l0 xq.1 xq.2.1 xq.2.2 xo xl.1 xl.2.1 xl.2.2 true)))))) = some true := H
  have A4 := Aside0.mk yu
  clear yu
  replace H := ob0 H
  obtain ⟨⟨xn, xk, xm⟩, yv, H⟩ := H
  replace H : ((laws_toLegS.f k l0).bind fun xo => ((impl_CleanLegs.f xo).bind fun xl => ((laws_eqLegS.f k xl.1 xn).bind fun yc => (if yc = true then (if xl.2.1 = xk then (lcJ0 k l0 xn xk xm xo xl.1 xl.2.1 xl.2.2 (xl.2.2 != xm)) else (lcJ0 k l0 xn xk xm xo xl.1 xl.2.1 xl.2.2 true)) else (lcJ0 k l0 xn xk xm xo xl.1 xl.2.1 xl.2.2 true))))) = some true := H
  have A5 := Aside0.mk yv
  clear yv
  replace H := ob0 H
  obtain ⟨xo, yw, H⟩ := H
  replace H : ((impl_CleanLegs.f xo).bind fun xl => ((laws_eqLegS.f k xl.1 xn).bind fun yc => (if yc = true then (if xl.2.1 = xk then (lcJ0 k l0 xn xk xm xo xl.1 xl.2.1 xl.2.2 (xl.2.2 != xm)) else (lcJ0 k l0 xn xk xm xo xl.1 xl.2.1 xl.2.2 true)) else (lcJ0 k l0 xn xk xm xo xl.1 xl.2.1 xl.2.2 true)))) = some true := H
  have A6 := Aside0.mk yw
  clear yw
  replace H := ob0 H
  obtain ⟨⟨xp, xu, xx⟩, yx, H⟩ := H
  replace H : ((laws_eqLegS.f k xp xn).bind fun yc => (if yc = true then (if xu = xk then (lcJ0 k l0 xn xk xm xo xp xu xx (xx != xm)) else (lcJ0 k l0 xn xk xm xo xp xu xx true)) else (lcJ0 k l0 xn xk xm xo xp xu xx true))) = some true := H
  have A7 := Aside0.mk yx
  clear yx
  have HC8 := Aside0.mk H
  clear H
  go_enter Tryd.func9, Tryd.ntmps9
  go_upto_region 8 with (first | ((with_reducible refine gate_callee (f := 10) rfl ?_); refine goesL_ (some 19) rfl rfl Tryd.func10 qz5 rfl #[.slice A0 l0.length c0, .int .i64 1048576] rfl qz1 ?_; (with_reducible refine (laws_szLegS.calls _ _ l0 1048576 yi _ ?side1 ?side2 A2.out).mono ?_); (case side1 => repeat (first | exact HR0.out | (with_reducible refine Kd.C_alloc ?_ _) | (with_reducible refine Kd.C_drewN ?_ _) | (with_reducible refine Kd.C_drew ?_))); (case side2 => exact HC0.out); rintro e w' ⟨rfl, ⟨nd, rfl⟩⟩; refine ⟨_, rfl, ?_⟩) | ((with_reducible refine gate_callee (f := 12) rfl ?_); refine goesL_ (some 24) rfl rfl Tryd.func12 qz5 rfl #[.slice A0 l0.length c0] rfl qz1 ?_; (with_reducible refine (laws_toLegS.calls k _ _ l0 yj _ ?side1 ?side2 A4.out).mono ?_); (case side1 => repeat (first | exact HR0.out | (with_reducible refine Kd.C_alloc ?_ _) | (with_reducible refine Kd.C_drewN ?_ _) | (with_reducible refine Kd.C_drew ?_))); (case side2 => exact HC0.out); rintro e w9 ⟨v564, rfl, ho0, hb⟩; refine ⟨_, rfl, ?_⟩; have n0_ := Aside0.mk (Kd.R_lower ho0 (below_size qz0)); have n1_ := Aside0.mk (below_step qz0 hb); clear HB; have HO565 := n0_; have HB := n1_; clear n0_ n1_; (try clear hb); (try clear hb2); (try clear hk); (try clear hi); (try clear ho0); obtain ⟨Ao10, co10, eo10⟩ := Kd.R_slice HO565.out; subst eo10) | ((with_reducible refine gate_callee (f := 25) rfl ?_); refine goesL_ (some 25) rfl rfl Tryd.func25 qz5 rfl #[.slice Ao10 yj.length co10] rfl qz1 ?_; (with_reducible refine (spec_CleanLegs.calls k _ _ yj xn xk xm _ ?side1 ?side2 A5.out ?sideL).mono ?_); (case sideL => exact HL.out.keep qz0); (case side1 => repeat (first | exact (Kd.R_reads' HO565.out).2.2 | (with_reducible refine Kd.C_alloc ?_ _) | (with_reducible refine Kd.C_drewN ?_ _) | (with_reducible refine Kd.C_drew ?_))); (case side2 => exact (Kd.R_reads' HO565.out).2.1); rintro e w11 ⟨v569, rfl, ho0, hb⟩; refine ⟨_, rfl, ?_⟩; have n0_ := Aside0.mk (Kd.R_elder' qz20 (Kd.R_base ho0) hb); have n1_ := Aside0.mk (Kd.R_lower (Kd.R_new' ho0 (Kd.R_lt qz20)) (below_size qz0)); have n2_ := Aside0.mk (below_step qz0 hb); clear HO565; clear HB; have HO565 := n0_; have HO570 := n1_; have HB := n2_; clear n0_ n1_ n2_; (try clear hb); (try clear hb2); (try clear hk); (try clear hi); (try clear ho0)) | ((with_reducible refine gate_callee (f := 12) rfl ?_); refine goesL_ (some 30) rfl rfl Tryd.func12 qz5 rfl #[.slice A0 l0.length c0] rfl qz1 ?_; (with_reducible refine (laws_toLegS.calls k _ _ l0 xo _ ?side1 ?side2 A6.out).mono ?_); (case side1 => repeat (first | exact (Kd.C_below HR0.out HB.out) | (with_reducible refine Kd.C_alloc ?_ _) | (with_reducible refine Kd.C_drewN ?_ _) | (with_reducible refine Kd.C_drew ?_))); (case side2 => exact HC0.out); rintro e w12 ⟨v572, rfl, ho0, hb⟩; refine ⟨_, rfl, ?_⟩; have n0_ := Aside0.mk (Kd.R_elder' qz20 (Kd.R_base ho0) hb); have n1_ := Aside0.mk (Kd.R_elder' qz30 (Kd.R_base ho0) hb); have n2_ := Aside0.mk (Kd.R_lower (Kd.R_new' (Kd.R_new' ho0 (Kd.R_lt qz20)) (Kd.R_lt qz30)) (below_size qz0)); have n3_ := Aside0.mk (below_step qz0 hb); clear HO565; clear HO570; clear HB; have HO565 := n0_; have HO570 := n1_; have HO573 := n2_; have HB := n3_; clear n0_ n1_ n2_ n3_; (try clear hb); (try clear hb2); (try clear hk); (try clear hi); (try clear ho0); obtain ⟨Ao13, co13, eo13⟩ := Kd.R_slice HO573.out; subst eo13) | ((with_reducible refine gate_callee (f := 26) rfl ?_); refine goesL_ (some 33) rfl rfl Tryd.func26 qz5 rfl #[.slice Ao13 xo.length co13] rfl qz1 ?_; (with_reducible refine (impl_CleanLegs.calls _ _ xo xp xu xx _ ?side1 ?side2 A7.out ?sideL).mono ?_); (case sideL => exact HL.out.keep qz0); (case side1 => repeat (first | exact (Kd.R_reads' HO573.out).2.2 | (with_reducible refine Kd.C_alloc ?_ _) | (with_reducible refine Kd.C_drewN ?_ _) | (with_reducible refine Kd.C_drew ?_))); (case side2 => exact (Kd.R_reads' HO573.out).2.1); rintro e w14 ⟨v577, rfl, ho0, hb⟩; refine ⟨_, rfl, ?_⟩; have n0_ := Aside0.mk (Kd.R_elder' qz20 (Kd.R_base ho0) hb); have n1_ := Aside0.mk (Kd.R_elder' qz30 (Kd.R_base ho0) hb); have n2_ := Aside0.mk (Kd.R_elder' qz54 (Kd.R_base ho0) hb); have n3_ := Aside0.mk (Kd.R_lower (Kd.R_new' (Kd.R_new' (Kd.R_new' ho0 (Kd.R_lt qz20)) (Kd.R_lt qz30)) (Kd.R_lt qz54)) (below_size qz0)); have n4_ := Aside0.mk (below_step qz0 hb); clear HO565; clear HO570; clear HO573; clear HB; have HO565 := n0_; have HO570 := n1_; have HO573 := n2_; have HO578 := n3_; have HB := n4_; clear n0_ n1_ n2_ n3_ n4_; (try clear hb); (try clear hb2); (try clear hk); (try clear hi); (try clear ho0)))
  (try simp only [Act.put, List.setIfInBounds_toArray, List.set_cons_zero, List.set_cons_succ])
  go_cut [50] (fun v50 wc => ∃ (kq : Nat) (x50_7 : Bool), v50 = .bool x50_7 ∧ Aside0 (lcJ0 kq l0 xn xk xm xo xp xu xx x50_7 = some true) ∧ Aside0 (kq ≤ k) ∧ Aside0 (Kd.R k45 45 wc w.heap.size (fun k_ => some k_ ≠ ((.slice Ao13 xo.length co13) : Value).ownBlock ∧ some k_ ≠ (v577 : Value).ownBlock) v569 xn) ∧ Aside0 (Kd.R k45 45 wc w.heap.size (fun k_ => some k_ ≠ (v569 : Value).ownBlock ∧ some k_ ≠ (v577 : Value).ownBlock) (.slice Ao13 xo.length co13) xo) ∧ Aside0 (Kd.R k45 45 wc w.heap.size (fun k_ => some k_ ≠ (v569 : Value).ownBlock ∧ some k_ ≠ ((.slice Ao13 xo.length co13) : Value).ownBlock) v577 xp) ∧ Aside0 (Below w.heap.size w wc))
  case first =>
   have H := HC8.out
   clear HC8
   replace H := ob0 H
   obtain ⟨yc, yy, H⟩ := H
   replace H : (if yc = true then (if xu = xk then (lcJ0 k l0 xn xk xm xo xp xu xx (xx != xm)) else (lcJ0 k l0 xn xk xm xo xp xu xx true)) else (lcJ0 k l0 xn xk xm xo xp xu xx true)) = some true := H
   have A15 := Aside0.mk yy
   clear yy
   by_cases c16 : yc = true
   ·
    subst c16
    have H1 : (if xu = xk then (lcJ0 k l0 xn xk xm xo xp xu xx (xx != xm)) else (lcJ0 k l0 xn xk xm xo xp xu xx true)) = some true := by rw [if_pos rfl] at H; exact H
    replace H := H1
    clear H1
    by_cases c17 : xu = xk
    ·
     rw [if_pos c17] at H
     have xc : (xu == xk) = true := beq_iff_eq.mpr c17
     have xj : (xu != xk) = false := bne_eq_false_iff_eq.mpr c17
     clear c17
     (first | rw [xc] | (simp only [i64_w, i32_w]; rw [xc]) | skip)
     have H' := Aside0.mk H
     clear H
     obtain ⟨Ao18, co18, eo18⟩ := Kd.R_slice HO578.out
     subst eo18
     obtain ⟨Ao19, co19, eo19⟩ := Kd.R_slice HO570.out
     subst eo19
     go_wp2_with (first | ((with_reducible refine gate_callee (f := 14) rfl ?_); refine goesL_ (some 39) rfl rfl Tryd.func14 qz5 rfl #[.slice Ao18 xp.length co18, .slice Ao19 xn.length co19] rfl qz1 ?_; (with_reducible refine (laws_eqLegS.calls k _ _ xp _ _ xn true _ ?side1 ?side2 ?side3 ?side4 A15.out).mono ?_); (case side1 => repeat (first | exact (Kd.R_reads' HO578.out).2.2 | (with_reducible refine Kd.C_alloc ?_ _) | (with_reducible refine Kd.C_drewN ?_ _) | (with_reducible refine Kd.C_drew ?_))); (case side2 => exact (Kd.R_reads' HO578.out).2.1); (case side3 => repeat (first | exact (Kd.R_reads' HO570.out).2.2 | (with_reducible refine Kd.C_alloc ?_ _) | (with_reducible refine Kd.C_drewN ?_ _) | (with_reducible refine Kd.C_drew ?_))); (case side4 => exact (Kd.R_reads' HO570.out).2.1); rintro e w20 ⟨rfl, hb⟩; refine ⟨_, rfl, ?_⟩; have n0_ := Aside0.mk (Kd.R_below qz20 hb); have n1_ := Aside0.mk (Kd.R_below qz30 hb); have n2_ := Aside0.mk (Kd.R_below qz54 hb); have n3_ := Aside0.mk (Kd.R_below (by (with_reducible repeat (first | apply Kd.R_alloc | apply Kd.R_drewN | apply Kd.R_drew)); exact HO578.out) hb); have n4_ := Aside0.mk (below_step qz0 hb); clear HO565; clear HO570; clear HO573; clear HO578; clear HB; have HO565 := n0_; have HO570 := n1_; have HO573 := n2_; have HO578 := n3_; have HB := n4_; clear n0_ n1_ n2_ n3_ n4_; (try clear hb); (try clear hb2); (try clear hk); (try clear hi)))
     go_meet
     case rel => exact ⟨_, ((xx != xm)), qz3, H', ⟨by first | omega | exact Nat.le_refl _⟩, ⟨by (with_reducible repeat (first | apply Kd.R_alloc | apply Kd.R_drewN | apply Kd.R_drew)); exact Kd.R_mono HO570.out (fun _ hk => ⟨hk.1.2, hk.2⟩)⟩, ⟨by (with_reducible repeat (first | apply Kd.R_alloc | apply Kd.R_drewN | apply Kd.R_drew)); exact Kd.R_mono HO573.out (fun _ hk => ⟨hk.1.2, hk.2⟩)⟩, ⟨by (with_reducible repeat (first | apply Kd.R_alloc | apply Kd.R_drewN | apply Kd.R_drew)); exact Kd.R_mono HO578.out (fun _ hk => ⟨hk.1.2, hk.2⟩)⟩, ⟨by repeat (first | (with_reducible first | exact HB.out | apply below_alloc | apply pw_below_drewN | apply below_drew1) | exact HB.out)⟩⟩
    ·
     rw [if_neg c17] at H
     have xc : (xu == xk) = false := beq_eq_false_iff_ne.mpr c17
     have xj : (xu != xk) = true := bne_iff_ne.mpr c17
     (first | rw [xc] | (simp only [i64_w, i32_w]; rw [xc]) | skip)
     exact absurd H (by cases k <;> simp [lcJ0])
   ·
    replace c16 := Bool.eq_false_iff.mpr c16
    subst c16
    have H1 : (lcJ0 k l0 xn xk xm xo xp xu xx true) = some true := by rw [if_neg (show ¬ (false = true) by decide)] at H; exact H
    replace H := H1
    clear H1
    exact absurd H (by cases k <;> simp [lcJ0])
  case rest =>
   clear HC8
   try clear c1
   try clear c2
   try clear p2
   try clear c3
   try clear xi
   try clear c9
   try clear c10
   try clear c12
   try clear c14
   try clear c16
   try clear c17
   try clear xc
   try clear xj
   try clear c25
   try clear c26
   obtain ⟨kq, x50_7, rfl, HA, HJ7, HO_4, HO_7, HO_8, HB⟩ := hcut
   cases kq with
   | zero => exact absurd HA.out (by simp [lcJ0])
   | succ kj7 =>
    have H := HA.out
    clear HA
    simp only [lcJ0] at H
    by_cases c27 : x50_7 = true
    ·
     subst c27
     have H1 : (some false) = some true := by rw [if_pos rfl] at H; exact H
     replace H := H1
     clear H1
     exact ab0 H
    ·
     replace c27 := Bool.eq_false_iff.mpr c27
     subst c27
     have H1 : ((laws_toLegS.f kj7 l0).bind fun yh => ((laws_eqLegS.f kj7 xo yh).bind fun xb => (if xb = true then ((laws_markLegS.f kj7 xo 1).bind fun yk => (if yk.1 < 0 then (lcJ1 kj7 l0 xn xk xm xp true) else ((laws_eqLegS.f kj7 xp xn).bind fun yd => (if yd = true then (if xu = xk then (lcJ1 kj7 l0 xn xk xm xp (xx != xm)) else (lcJ1 kj7 l0 xn xk xm xp true)) else (lcJ1 kj7 l0 xn xk xm xp true))))) else (some false)))) = some true := by rw [if_neg (show ¬ (false = true) by decide)] at H; exact H
     replace H := H1
     clear H1
     replace H := ob0 H
     obtain ⟨yh, yz, H⟩ := H
     replace H : ((laws_eqLegS.f kj7 xo yh).bind fun xb => (if xb = true then ((laws_markLegS.f kj7 xo 1).bind fun yk => (if yk.1 < 0 then (lcJ1 kj7 l0 xn xk xm xp true) else ((laws_eqLegS.f kj7 xp xn).bind fun yd => (if yd = true then (if xu = xk then (lcJ1 kj7 l0 xn xk xm xp (xx != xm)) else (lcJ1 kj7 l0 xn xk xm xp true)) else (lcJ1 kj7 l0 xn xk xm xp true))))) else (some false))) = some true := H
     have A28 := Aside0.mk yz
     clear yz
     replace H := ob0 H
     obtain ⟨xb, za, H⟩ := H
     replace H : (if xb = true then ((laws_markLegS.f kj7 xo 1).bind fun yk => (if yk.1 < 0 then (lcJ1 kj7 l0 xn xk xm xp true) else ((laws_eqLegS.f kj7 xp xn).bind fun yd => (if yd = true then (if xu = xk then (lcJ1 kj7 l0 xn xk xm xp (xx != xm)) else (lcJ1 kj7 l0 xn xk xm xp true)) else (lcJ1 kj7 l0 xn xk xm xp true))))) else (some false)) = some true := H
     have A29 := Aside0.mk za
     clear za
     by_cases c30 : xb = true
     ·
      subst c30
      have H1 : ((laws_markLegS.f kj7 xo 1).bind fun yk => (if yk.1 < 0 then (lcJ1 kj7 l0 xn xk xm xp true) else ((laws_eqLegS.f kj7 xp xn).bind fun yd => (if yd = true then (if xu = xk then (lcJ1 kj7 l0 xn xk xm xp (xx != xm)) else (lcJ1 kj7 l0 xn xk xm xp true)) else (lcJ1 kj7 l0 xn xk xm xp true))))) = some true := by rw [if_pos rfl] at H; exact H
      replace H := H1
      clear H1
      replace H := ob0 H
      obtain ⟨⟨xg, t585⟩, zb, H⟩ := H
      replace H : (if xg < 0 then (lcJ1 kj7 l0 xn xk xm xp true) else ((laws_eqLegS.f kj7 xp xn).bind fun yd => (if yd = true then (if xu = xk then (lcJ1 kj7 l0 xn xk xm xp (xx != xm)) else (lcJ1 kj7 l0 xn xk xm xp true)) else (lcJ1 kj7 l0 xn xk xm xp true)))) = some true := H
      have A31 := Aside0.mk zb
      clear zb
      have HC32 := Aside0.mk H
      clear H
      go_upto_region 14 with (first | ((with_reducible refine gate_callee (f := 12) rfl ?_); refine goesL_ (some 53) rfl rfl Tryd.func12 qz5 rfl #[.slice A0 l0.length c0] rfl qz1 ?_; (with_reducible refine (laws_toLegS.calls kj7 _ _ l0 yh _ ?side1 ?side2 A28.out).mono ?_); (case side1 => repeat (first | exact (Kd.C_below HR0.out HB.out) | (with_reducible refine Kd.C_alloc ?_ _) | (with_reducible refine Kd.C_drewN ?_ _) | (with_reducible refine Kd.C_drew ?_))); (case side2 => exact HC0.out); rintro e w33 ⟨v581, rfl, ho0, hb⟩; refine ⟨_, rfl, ?_⟩; have n0_ := Aside0.mk (Kd.R_elder' qz12 (Kd.R_base ho0) hb); have n1_ := Aside0.mk (Kd.R_elder' qz6 (Kd.R_base ho0) hb); have n2_ := Aside0.mk (Kd.R_elder' qz16 (Kd.R_base ho0) hb); have n3_ := Aside0.mk (Kd.R_lower (Kd.R_new' (Kd.R_new' (Kd.R_new' ho0 (Kd.R_lt qz12)) (Kd.R_lt qz6)) (Kd.R_lt qz16)) (below_size qz0)); have n4_ := Aside0.mk (below_step qz0 hb); clear HO_4; clear HO_7; clear HO_8; clear HB; have HO_4 := n0_; have HO_7 := n1_; have HO_8 := n2_; have HO582 := n3_; have HB := n4_; clear n0_ n1_ n2_ n3_ n4_; (try clear hb); (try clear hb2); (try clear hk); (try clear hi); (try clear ho0); obtain ⟨Ao34, co34, eo34⟩ := Kd.R_slice HO582.out; subst eo34) | ((with_reducible refine gate_callee (f := 14) rfl ?_); refine goesL_ (some 54) rfl rfl Tryd.func14 qz5 rfl #[.slice Ao13 xo.length co13, .slice Ao34 yh.length co34] rfl qz1 ?_; (with_reducible refine (laws_eqLegS.calls kj7 _ _ xo _ _ yh true _ ?side1 ?side2 ?side3 ?side4 A29.out).mono ?_); (case side1 => repeat (first | exact (Kd.R_reads' HO_7.out).2.2 | (with_reducible refine Kd.C_alloc ?_ _) | (with_reducible refine Kd.C_drewN ?_ _) | (with_reducible refine Kd.C_drew ?_))); (case side2 => exact (Kd.R_reads' HO_7.out).2.1); (case side3 => repeat (first | exact (Kd.R_reads' HO582.out).2.2 | (with_reducible refine Kd.C_alloc ?_ _) | (with_reducible refine Kd.C_drewN ?_ _) | (with_reducible refine Kd.C_drew ?_))); (case side4 => exact (Kd.R_reads' HO582.out).2.1); rintro e w35 ⟨rfl, hb⟩; refine ⟨_, rfl, ?_⟩; have n0_ := Aside0.mk (Kd.R_below qz12 hb); have n1_ := Aside0.mk (Kd.R_below qz6 hb); have n2_ := Aside0.mk (Kd.R_below qz16 hb); have n3_ := Aside0.mk (Kd.R_below (by (with_reducible repeat (first | apply Kd.R_alloc | apply Kd.R_drewN | apply Kd.R_drew)); exact HO582.out) hb); have n4_ := Aside0.mk (below_step qz0 hb); clear HO_4; clear HO_7; clear HO_8; clear HO582; clear HB; have HO_4 := n0_; have HO_7 := n1_; have HO_8 := n2_; have HO582 := n3_; have HB := n4_; clear n0_ n1_ n2_ n3_ n4_; (try clear hb); (try clear hb2); (try clear hk); (try clear hi)) | ((with_reducible refine gate_callee (f := 27) rfl ?_); refine goesL_ (some 58) rfl rfl Tryd.func27 qz5 rfl #[.slice Ao13 xo.length co13, .int .i64 1] rfl qz1 ?_; (with_reducible refine (laws_markLegS.calls kj7 (fun k_ => some k_ = (.slice Ao13 xo.length co13 : Value).ownBlock) (.slice Ao13 xo.length co13) xo 1 xg t585 w _ ?side1 ?side2 A31.out).mono ?_); (case side1 => repeat (first | (with_reducible first | exact HB.out | apply below_alloc | apply pw_below_drewN | apply below_drew1) | exact HB.out)); (case side2 => exact Kd.R_tight rfl HO_7.out); rintro e w36 ⟨rfl, hy0, hb, hkp⟩; refine ⟨_, rfl, ?_⟩; have n0_ := Aside0.mk (Kd.R_mono (ok' := fun k_ => some k_ ≠ (.slice Ao13 xo.length co13 : Value).ownBlock ∧ some k_ ≠ (v577 : Value).ownBlock ∧ some k_ ≠ (.slice Ao34 yh.length co34 : Value).ownBlock) (Kd.R_keptB (HO_4.out) hkp (fun k_ hk_ hs_ => (hk_.1.1) hs_)) (fun k_ hk_ => ⟨hk_.1.1.1, hk_.1.1.2, hk_.1.2⟩)); have n1_ := Aside0.mk (Kd.R_reok rfl hy0 (fun k_ e_ => HO_7.out.1 k_ e_)); have n2_ := Aside0.mk (Kd.R_mono (ok' := fun k_ => some k_ ≠ (v569 : Value).ownBlock ∧ some k_ ≠ (.slice Ao13 xo.length co13 : Value).ownBlock ∧ some k_ ≠ (.slice Ao34 yh.length co34 : Value).ownBlock) (Kd.R_keptB (HO_8.out) hkp (fun k_ hk_ hs_ => (hk_.1.2) hs_)) (fun k_ hk_ => ⟨hk_.1.1.1, hk_.1.1.2, hk_.1.2⟩)); have n3_ := Aside0.mk (Kd.R_mono (ok' := fun k_ => some k_ ≠ (v569 : Value).ownBlock ∧ some k_ ≠ (.slice Ao13 xo.length co13 : Value).ownBlock ∧ some k_ ≠ (v577 : Value).ownBlock) (Kd.R_keptB (HO582.out) hkp (fun k_ hk_ hs_ => (hk_.1.2) hs_)) (fun k_ hk_ => ⟨hk_.1.1.1.2, hk_.1.1.2, hk_.1.2⟩)); have n4_ := Aside0.mk (hb); clear HO_4; clear HO_7; clear HO_8; clear HO582; clear HB; have HO_4 := n0_; have HO_7 := n1_; have HO_8 := n2_; have HO582 := n3_; have HB := n4_; clear n0_ n1_ n2_ n3_ n4_; (try clear hb); (try clear hkp); (try clear hy0)))
      (try simp only [Act.put, List.setIfInBounds_toArray, List.set_cons_zero, List.set_cons_succ])
      go_cut [76] (fun v76 wc => ∃ (kq : Nat) (x76_31 : Bool), v76 = .bool x76_31 ∧ Aside0 (lcJ1 kq l0 xn xk xm xp x76_31 = some true) ∧ Aside0 (kq ≤ kj7) ∧ Aside0 (Kd.R k45 45 wc w.heap.size (fun k_ => some k_ ≠ (v577 : Value).ownBlock) v569 xn) ∧ Aside0 (Kd.R k45 45 wc w.heap.size (fun k_ => some k_ ≠ (v569 : Value).ownBlock) v577 xp) ∧ Aside0 (Below w.heap.size w wc))
      case first =>
       have H := HC32.out
       clear HC32
       by_cases c37 : xg < 0
       ·
        rw [if_pos c37] at H
        have xe : decide (xg < 0) = true := decide_eq_true c37
        clear c37
        (first | rw [xe] | (simp only [i64_w, i32_w]; rw [xe]) | skip)
        exact absurd H (by cases kj7 <;> simp [lcJ1])
       ·
        rw [if_neg c37] at H
        have xe : decide (xg < 0) = false := decide_eq_false c37
        clear c37
        (first | rw [xe] | (simp only [i64_w, i32_w]; rw [xe]) | skip)
        replace H := ob0 H
        obtain ⟨yd, zc, H⟩ := H
        replace H : (if yd = true then (if xu = xk then (lcJ1 kj7 l0 xn xk xm xp (xx != xm)) else (lcJ1 kj7 l0 xn xk xm xp true)) else (lcJ1 kj7 l0 xn xk xm xp true)) = some true := H
        have A38 := Aside0.mk zc
        clear zc
        by_cases c39 : yd = true
        ·
         subst c39
         have H1 : (if xu = xk then (lcJ1 kj7 l0 xn xk xm xp (xx != xm)) else (lcJ1 kj7 l0 xn xk xm xp true)) = some true := by rw [if_pos rfl] at H; exact H
         replace H := H1
         clear H1
         by_cases c40 : xu = xk
         ·
          rw [if_pos c40] at H
          have yo : (xu == xk) = true := beq_iff_eq.mpr c40
          have yp : (xu != xk) = false := bne_eq_false_iff_eq.mpr c40
          clear c40
          have H' := Aside0.mk H
          clear H
          obtain ⟨Ao41, co41, eo41⟩ := Kd.R_slice HO_8.out
          subst eo41
          obtain ⟨Ao42, co42, eo42⟩ := Kd.R_slice HO_4.out
          subst eo42
          go_wp2_with (first | (go_at_call 14; (with_reducible refine (laws_eqLegS.calls kj7 _ _ xp _ _ xn true _ ?side1 ?side2 ?side3 ?side4 A38.out).mono ?_); (case side1 => repeat (first | exact (Kd.R_reads' HO_8.out).2.2 | (with_reducible refine Kd.C_alloc ?_ _) | (with_reducible refine Kd.C_drewN ?_ _) | (with_reducible refine Kd.C_drew ?_))); (case side2 => exact (Kd.R_reads' HO_8.out).2.1); (case side3 => repeat (first | exact (Kd.R_reads' HO_4.out).2.2 | (with_reducible refine Kd.C_alloc ?_ _) | (with_reducible refine Kd.C_drewN ?_ _) | (with_reducible refine Kd.C_drew ?_))); (case side4 => exact (Kd.R_reads' HO_4.out).2.1); rintro e w43 ⟨rfl, hb⟩; have n0_ := Aside0.mk (Kd.R_below qz12 hb); have n1_ := Aside0.mk (Kd.R_below qz6 hb); have n2_ := Aside0.mk (Kd.R_below qz16 hb); have n3_ := Aside0.mk (Kd.R_below (by (with_reducible repeat (first | apply Kd.R_alloc | apply Kd.R_drewN | apply Kd.R_drew)); exact HO582.out) hb); have n4_ := Aside0.mk (below_step qz0 hb); clear HO_4; clear HO_7; clear HO_8; clear HO582; clear HB; have HO_4 := n0_; have HO_7 := n1_; have HO_8 := n2_; have HO582 := n3_; have HB := n4_; clear n0_ n1_ n2_ n3_ n4_; (try clear hb); (try clear hb2); (try clear hk); (try clear hi)))
          go_meet
          case rel => exact ⟨_, ((xx != xm)), qz3, H', ⟨by have := HJ7.out; first | omega | exact Nat.le_refl _⟩, ⟨by (with_reducible repeat (first | apply Kd.R_alloc | apply Kd.R_drewN | apply Kd.R_drew)); exact Kd.R_mono HO_4.out (fun _ hk => hk.2.1)⟩, ⟨by (with_reducible repeat (first | apply Kd.R_alloc | apply Kd.R_drewN | apply Kd.R_drew)); exact Kd.R_mono HO_8.out (fun _ hk => hk.1)⟩, ⟨by repeat (first | (with_reducible first | exact HB.out | apply below_alloc | apply pw_below_drewN | apply below_drew1) | exact HB.out)⟩⟩
         ·
          rw [if_neg c40] at H
          have yo : (xu == xk) = false := beq_eq_false_iff_ne.mpr c40
          have yp : (xu != xk) = true := bne_iff_ne.mpr c40
          exact absurd H (by cases kj7 <;> simp [lcJ1])
        ·
         replace c39 := Bool.eq_false_iff.mpr c39
         subst c39
         have H1 : (lcJ1 kj7 l0 xn xk xm xp true) = some true := by rw [if_neg (show ¬ (false = true) by decide)] at H; exact H
         replace H := H1
         clear H1
         exact absurd H (by cases kj7 <;> simp [lcJ1])
      case rest =>
       clear HC32
       try clear c1
       try clear c2
       try clear p2
       try clear c3
       try clear xi
       try clear c4
       try clear c9
       try clear c10
       try clear c12
       try clear c14
       try clear c16
       try clear c17
       try clear xc
       try clear xj
       try clear c25
       try clear c26
       try clear c27
       try clear c30
       try clear c37
       try clear xe
       try clear c39
       try clear c40
       try clear yo
       try clear yp
       try clear p2
       obtain ⟨kq, x76_31, rfl, HA, HJ31, HO_4, HO_8, HB⟩ := hcut
       cases kq with
       | zero => exact absurd HA.out (by simp [lcJ1])
       | succ kj31 =>
        have H := HA.out
        clear HA
        simp only [lcJ1] at H
        by_cases c50 : x76_31 = true
        ·
         subst c50
         have H1 : (some false) = some true := by rw [if_pos rfl] at H; exact H
         replace H := H1
         clear H1
         exact ab0 H
        ·
         replace c50 := Bool.eq_false_iff.mpr c50
         subst c50
         have H1 : ((laws_markLegS.f kj31 xp 1).bind fun ya => ((laws_heldLegS.f kj31 ya.2 1).bind fun xy => (if xy < 0 then (some false) else (if xy = ya.1 then ((laws_toLegS.f kj31 l0).bind fun yf => ((impl_CleanLegs.f yf).bind fun xz => ((laws_eqLegS.f kj31 xz.1 xn).bind fun ye => (if ye = true then (if xz.2.1 = xk then (lcJ2 kj31 ya.2 ya.1 (xz.2.2 != xm)) else (lcJ2 kj31 ya.2 ya.1 true)) else (lcJ2 kj31 ya.2 ya.1 true))))) else (some false))))) = some true := by rw [if_neg (show ¬ (false = true) by decide)] at H; exact H
         replace H := H1
         clear H1
         replace H := ob0 H
         obtain ⟨⟨xt, xv⟩, zd, H⟩ := H
         replace H : ((laws_heldLegS.f kj31 xv 1).bind fun xy => (if xy < 0 then (some false) else (if xy = xt then ((laws_toLegS.f kj31 l0).bind fun yf => ((impl_CleanLegs.f yf).bind fun xz => ((laws_eqLegS.f kj31 xz.1 xn).bind fun ye => (if ye = true then (if xz.2.1 = xk then (lcJ2 kj31 xv xt (xz.2.2 != xm)) else (lcJ2 kj31 xv xt true)) else (lcJ2 kj31 xv xt true))))) else (some false)))) = some true := H
         have A51 := Aside0.mk zd
         clear zd
         replace H := ob0 H
         obtain ⟨xy, ze, H⟩ := H
         replace H : (if xy < 0 then (some false) else (if xy = xt then ((laws_toLegS.f kj31 l0).bind fun yf => ((impl_CleanLegs.f yf).bind fun xz => ((laws_eqLegS.f kj31 xz.1 xn).bind fun ye => (if ye = true then (if xz.2.1 = xk then (lcJ2 kj31 xv xt (xz.2.2 != xm)) else (lcJ2 kj31 xv xt true)) else (lcJ2 kj31 xv xt true))))) else (some false))) = some true := H
         have A52 := Aside0.mk ze
         clear ze
         by_cases c53 : xy < 0
         ·
          rw [if_pos c53] at H
          have zf : decide (xy < 0) = true := decide_eq_true c53
          clear c53
          exact ab0 H
         ·
          rw [if_neg c53] at H
          have zf : decide (xy < 0) = false := decide_eq_false c53
          clear c53
          by_cases c56 : xy = xt
          ·
           rw [if_pos c56] at H
           have zg : (xy == xt) = true := beq_iff_eq.mpr c56
           have c56b1 : (xy != xt) = false := bne_eq_false_iff_eq.mpr c56
           clear c56
           replace H := ob0 H
           obtain ⟨yf, A570, H⟩ := H
           replace H : ((impl_CleanLegs.f yf).bind fun xz => ((laws_eqLegS.f kj31 xz.1 xn).bind fun ye => (if ye = true then (if xz.2.1 = xk then (lcJ2 kj31 xv xt (xz.2.2 != xm)) else (lcJ2 kj31 xv xt true)) else (lcJ2 kj31 xv xt true)))) = some true := H
           have A57 := Aside0.mk A570
           clear A570
           replace H := ob0 H
           obtain ⟨⟨ym, xa, xh⟩, A580, H⟩ := H
           replace H : ((laws_eqLegS.f kj31 ym xn).bind fun ye => (if ye = true then (if xa = xk then (lcJ2 kj31 xv xt (xh != xm)) else (lcJ2 kj31 xv xt true)) else (lcJ2 kj31 xv xt true))) = some true := H
           have A58 := Aside0.mk A580
           clear A580
           have HC59 := Aside0.mk H
           clear H
           obtain ⟨Ao60, co60, eo60⟩ := Kd.R_slice HO_8.out
           subst eo60
           go_upto_region 25 with (first | ((with_reducible refine gate_callee (f := 27) rfl ?_); refine goesL_ (some 79) rfl rfl Tryd.func27 qz5 rfl #[.slice Ao60 xp.length co60, .int .i64 1] rfl qz1 ?_; (with_reducible refine (laws_markLegS.calls kj31 (fun k_ => some k_ = (.slice Ao60 xp.length co60 : Value).ownBlock) (.slice Ao60 xp.length co60) xp 1 xt xv w _ ?side1 ?side2 A51.out).mono ?_); (case side1 => repeat (first | (with_reducible first | exact HB.out | apply below_alloc | apply pw_below_drewN | apply below_drew1) | exact HB.out)); (case side2 => exact Kd.R_tight rfl HO_8.out); rintro e w61 ⟨rfl, hy0, hb, hkp⟩; refine ⟨_, rfl, ?_⟩; have n0_ := Aside0.mk (Kd.R_mono (ok' := fun k_ => some k_ ≠ (.slice Ao60 xp.length co60 : Value).ownBlock) (Kd.R_keptB (HO_4.out) hkp (fun k_ hk_ hs_ => (hk_) hs_)) (fun k_ hk_ => hk_.1)); have n1_ := Aside0.mk (Kd.R_reok rfl hy0 (fun k_ e_ => HO_8.out.1 k_ e_)); have n2_ := Aside0.mk (hb); clear HO_4; clear HO_8; clear HB; have HO_4 := n0_; have HO_8 := n1_; have HB := n2_; clear n0_ n1_ n2_; (try clear hb); (try clear hkp); (try clear hy0)) | ((with_reducible refine gate_callee (f := 28) rfl ?_); refine goesL_ (some 82) rfl rfl Tryd.func28 qz5 rfl #[.slice Ao60 xv.length co60, .int .i64 1] rfl (by (try simp only [List.map_toArray, List.map_cons, List.map_nil]); first | done | (rw [show xv.length = xp.length from (Kd.R_reads' HO_8.out).1.symm] <;> rfl) | rfl | (simp only [List.length_drop, List.length_take]; rfl)) ?_; (with_reducible refine (laws_heldLegS.calls kj31 _ _ xv 1 xy _ ?side1 ?side2 A52.out).mono ?_); (case side1 => repeat (first | exact (Kd.R_reads' HO_8.out).2.2 | (with_reducible refine Kd.C_alloc ?_ _) | (with_reducible refine Kd.C_drewN ?_ _) | (with_reducible refine Kd.C_drew ?_))); (case side2 => rw [show xv.length = xp.length from (Kd.R_reads' HO_8.out).1.symm]; exact (Kd.R_reads' HO_8.out).2.1); rintro e w' ⟨rfl, ⟨nd, rfl⟩⟩; refine ⟨_, rfl, ?_⟩) | ((with_reducible refine gate_callee (f := 12) rfl ?_); refine goesL_ (some 90) rfl rfl Tryd.func12 qz5 rfl #[.slice A0 l0.length c0] rfl qz1 ?_; (with_reducible refine (laws_toLegS.calls kj31 _ _ l0 yf _ ?side1 ?side2 A57.out).mono ?_); (case side1 => repeat (first | exact (Kd.C_below HR0.out qz0) | (with_reducible refine Kd.C_alloc ?_ _) | (with_reducible refine Kd.C_drewN ?_ _) | (with_reducible refine Kd.C_drew ?_))); (case side2 => exact HC0.out); rintro e w62 ⟨v591, rfl, ho0, hb⟩; refine ⟨_, rfl, ?_⟩; have n0_ := Aside0.mk (Kd.R_elder' qz12 (Kd.R_base ho0) hb); have n1_ := Aside0.mk (Kd.R_elder' qz16 (Kd.R_base ho0) hb); have n2_ := Aside0.mk (Kd.R_lower (Kd.R_new' (Kd.R_new' ho0 (Kd.R_lt qz12)) (Kd.R_lt qz16)) (below_size qz0)); have n3_ := Aside0.mk (below_step qz0 hb); clear HO_4; clear HO_8; clear HB; have HO_4 := n0_; have HO_8 := n1_; have HO592 := n2_; have HB := n3_; clear n0_ n1_ n2_ n3_; (try clear hb); (try clear hb2); (try clear hk); (try clear hi); (try clear ho0); obtain ⟨Ao63, co63, eo63⟩ := Kd.R_slice HO592.out; subst eo63) | ((with_reducible refine gate_callee (f := 26) rfl ?_); refine goesL_ (some 91) rfl rfl Tryd.func26 qz5 rfl #[.slice Ao63 yf.length co63] rfl qz1 ?_; (with_reducible refine (impl_CleanLegs.calls _ _ yf ym xa xh _ ?side1 ?side2 A58.out ?sideL).mono ?_); (case sideL => exact HL.out.keep qz0); (case side1 => repeat (first | exact (Kd.R_reads' HO592.out).2.2 | (with_reducible refine Kd.C_alloc ?_ _) | (with_reducible refine Kd.C_drewN ?_ _) | (with_reducible refine Kd.C_drew ?_))); (case side2 => exact (Kd.R_reads' HO592.out).2.1); rintro e w64 ⟨v596, rfl, ho0, hb⟩; refine ⟨_, rfl, ?_⟩; have n0_ := Aside0.mk (Kd.R_elder' qz12 (Kd.R_base ho0) hb); have n1_ := Aside0.mk (Kd.R_elder' qz16 (Kd.R_base ho0) hb); have n2_ := Aside0.mk (Kd.R_elder' qz53 (Kd.R_base ho0) hb); have n3_ := Aside0.mk (Kd.R_lower (Kd.R_new' (Kd.R_new' (Kd.R_new' ho0 (Kd.R_lt qz12)) (Kd.R_lt qz16)) (Kd.R_lt qz53)) (below_size qz0)); have n4_ := Aside0.mk (below_step qz0 hb); clear HO_4; clear HO_8; clear HO592; clear HB; have HO_4 := n0_; have HO_8 := n1_; have HO592 := n2_; have HO597 := n3_; have HB := n4_; clear n0_ n1_ n2_ n3_ n4_; (try clear hb); (try clear hb2); (try clear hk); (try clear hi); (try clear ho0)))
           (try simp only [Act.put, List.setIfInBounds_toArray, List.set_cons_zero, List.set_cons_succ])
           go_cut [108] (fun v108 wc => ∃ (kq : Nat) (x108_58 : Bool), v108 = .bool x108_58 ∧ Aside0 (lcJ2 kq xv xt x108_58 = some true) ∧ Aside0 (kq ≤ kj31) ∧ Aside0 (Kd.R k45 45 wc w.heap.size (fun _ => True) (.slice Ao60 xp.length co60) xv) ∧ Aside0 (Below w.heap.size w wc))
           case first =>
            have H := HC59.out
            clear HC59
            replace H := ob0 H
            obtain ⟨ye, A650, H⟩ := H
            replace H : (if ye = true then (if xa = xk then (lcJ2 kj31 xv xt (xh != xm)) else (lcJ2 kj31 xv xt true)) else (lcJ2 kj31 xv xt true)) = some true := H
            have A65 := Aside0.mk A650
            clear A650
            by_cases c66 : ye = true
            ·
             subst c66
             have H1 : (if xa = xk then (lcJ2 kj31 xv xt (xh != xm)) else (lcJ2 kj31 xv xt true)) = some true := by rw [if_pos rfl] at H; exact H
             replace H := H1
             clear H1
             by_cases c67 : xa = xk
             ·
              rw [if_pos c67] at H
              have xf : (xa == xk) = true := beq_iff_eq.mpr c67
              have c67b1 : (xa != xk) = false := bne_eq_false_iff_eq.mpr c67
              clear c67
              (first | rw [xf] | (simp only [i64_w, i32_w]; rw [xf]) | skip)
              have H' := Aside0.mk H
              clear H
              obtain ⟨Ao68, co68, eo68⟩ := Kd.R_slice HO597.out
              subst eo68
              obtain ⟨Ao69, co69, eo69⟩ := Kd.R_slice HO_4.out
              subst eo69
              go_wp2_with (first | ((with_reducible refine gate_callee (f := 14) rfl ?_); refine goesL_ (some 97) rfl rfl Tryd.func14 qz5 rfl #[.slice Ao68 ym.length co68, .slice Ao69 xn.length co69] rfl qz1 ?_; (with_reducible refine (laws_eqLegS.calls kj31 _ _ ym _ _ xn true _ ?side1 ?side2 ?side3 ?side4 A65.out).mono ?_); (case side1 => repeat (first | exact (Kd.R_reads' HO597.out).2.2 | (with_reducible refine Kd.C_alloc ?_ _) | (with_reducible refine Kd.C_drewN ?_ _) | (with_reducible refine Kd.C_drew ?_))); (case side2 => exact (Kd.R_reads' HO597.out).2.1); (case side3 => repeat (first | exact (Kd.R_reads' HO_4.out).2.2 | (with_reducible refine Kd.C_alloc ?_ _) | (with_reducible refine Kd.C_drewN ?_ _) | (with_reducible refine Kd.C_drew ?_))); (case side4 => exact (Kd.R_reads' HO_4.out).2.1); rintro e w70 ⟨rfl, hb⟩; refine ⟨_, rfl, ?_⟩; have n0_ := Aside0.mk (Kd.R_below qz12 hb); have n1_ := Aside0.mk (Kd.R_below qz16 hb); have n2_ := Aside0.mk (Kd.R_below qz53 hb); have n3_ := Aside0.mk (Kd.R_below (by (with_reducible repeat (first | apply Kd.R_alloc | apply Kd.R_drewN | apply Kd.R_drew)); exact HO597.out) hb); have n4_ := Aside0.mk (below_step qz0 hb); clear HO_4; clear HO_8; clear HO592; clear HO597; clear HB; have HO_4 := n0_; have HO_8 := n1_; have HO592 := n2_; have HO597 := n3_; have HB := n4_; clear n0_ n1_ n2_ n3_ n4_; (try clear hb); (try clear hb2); (try clear hk); (try clear hi)))
              go_meet
              case rel => exact ⟨_, ((xh != xm)), qz3, H', ⟨by have := HJ7.out; have := HJ31.out; first | omega | exact Nat.le_refl _⟩, ⟨by (with_reducible repeat (first | apply Kd.R_alloc | apply Kd.R_drewN | apply Kd.R_drew)); exact Kd.R_mono HO_8.out (fun _ hk => trivial)⟩, ⟨by repeat (first | (with_reducible first | exact HB.out | apply below_alloc | apply pw_below_drewN | apply below_drew1) | exact HB.out)⟩⟩
             ·
              rw [if_neg c67] at H
              have xf : (xa == xk) = false := beq_eq_false_iff_ne.mpr c67
              have c67b1 : (xa != xk) = true := bne_iff_ne.mpr c67
              (first | rw [xf] | (simp only [i64_w, i32_w]; rw [xf]) | skip)
              exact absurd H (by cases kj31 <;> simp [lcJ2])
            ·
             replace c66 := Bool.eq_false_iff.mpr c66
             subst c66
             have H1 : (lcJ2 kj31 xv xt true) = some true := by rw [if_neg (show ¬ (false = true) by decide)] at H; exact H
             replace H := H1
             clear H1
             exact absurd H (by cases kj31 <;> simp [lcJ2])
           case rest =>
            clear HC59
            try clear c1
            try clear c2
            try clear p2
            try clear c3
            try clear xi
            try clear c4
            try clear c5
            try clear c6
            try clear c9
            try clear c10
            try clear c12
            try clear c14
            try clear c16
            try clear c17
            try clear xc
            try clear xj
            try clear c25
            try clear c26
            try clear c27
            try clear c28
            try clear c30
            try clear c37
            try clear xe
            try clear c39
            try clear c40
            try clear yo
            try clear yp
            try clear c50
            try clear c53
            try clear zf
            try clear c56
            try clear zg
            try clear c56b1
            try clear c66
            try clear c67
            try clear xf
            try clear c67b1
            try clear p2
            obtain ⟨kq, x108_58, rfl, HA, HJ58, HO_8, HB⟩ := hcut
            have hl8_58 := (Kd.R_reads' HO_8.out).1
            rw [hl8_58] at HO_8
            (try simp only [hl8_58])
            cases kq with
            | zero => exact absurd HA.out (by simp [lcJ2])
            | succ kj58 =>
             have H := HA.out
             clear HA
             simp only [lcJ2] at H
             by_cases c77 : x108_58 = true
             ·
              subst c77
              have H1 : (some false) = some true := by rw [if_pos rfl] at H; exact H
              replace H := H1
              clear H1
              exact ab0 H
             ·
              replace c77 := Bool.eq_false_iff.mpr c77
              subst c77
              have H1 : ((laws_heldLegS.f kj58 xv 1).bind fun yb => (if yb < 0 then (some false) else (if yb = xt then (some true) else (some false)))) = some true := by rw [if_neg (show ¬ (false = true) by decide)] at H; exact H
              replace H := H1
              clear H1
              replace H := ob0 H
              obtain ⟨yb, A780, H⟩ := H
              replace H : (if yb < 0 then (some false) else (if yb = xt then (some true) else (some false))) = some true := H
              have A78 := Aside0.mk A780
              clear A780
              by_cases c79 : yb < 0
              ·
               rw [if_pos c79] at H
               have c79b0 : decide (yb < 0) = true := decide_eq_true c79
               clear c79
               exact ab0 H
              ·
               rw [if_neg c79] at H
               have c79b0 : decide (yb < 0) = false := decide_eq_false c79
               clear c79
               by_cases c80 : yb = xt
               ·
                rw [if_pos c80] at H
                have c80b0 : (yb == xt) = true := beq_iff_eq.mpr c80
                have c80b1 : (yb != xt) = false := bne_eq_false_iff_eq.mpr c80
                clear c80
                go_wp2_with (first | ((with_reducible refine gate_callee (f := 28) rfl ?_); refine goesL_ (some 111) rfl rfl Tryd.func28 qz5 rfl #[.slice Ao60 xv.length co60, .int .i64 1] rfl qz1 ?_; (with_reducible refine (laws_heldLegS.calls kj58 _ _ xv 1 yb _ ?side1 ?side2 A78.out).mono ?_); (case side1 => repeat (first | exact (Kd.R_reads' HO_8.out).2.2 | (with_reducible refine Kd.C_alloc ?_ _) | (with_reducible refine Kd.C_drewN ?_ _) | (with_reducible refine Kd.C_drew ?_))); (case side2 => exact (Kd.R_reads' HO_8.out).2.1); rintro e w' ⟨rfl, ⟨nd, rfl⟩⟩; refine ⟨_, rfl, ?_⟩))
                go_ret
                exact ⟨by first | rfl | (simp [errW_none, errW_some] <;> rfl) | (simp [*, errW_none, errW_some] <;> rfl), by repeat (first | (with_reducible first | exact HB.out | apply below_alloc | apply pw_below_drewN | apply below_drew1) | exact HB.out)⟩
               ·
                rw [if_neg c80] at H
                have c80b0 : (yb == xt) = false := beq_eq_false_iff_ne.mpr c80
                have c80b1 : (yb != xt) = true := bne_iff_ne.mpr c80
                exact ab0 H
          ·
           rw [if_neg c56] at H
           have zg : (xy == xt) = false := beq_eq_false_iff_ne.mpr c56
           have c56b1 : (xy != xt) = true := bne_iff_ne.mpr c56
           exact ab0 H
     ·
      replace c30 := Bool.eq_false_iff.mpr c30
      subst c30
      have H1 : (some false) = some true := by rw [if_neg (show ¬ (false = true) by decide)] at H; exact H
      replace H := H1
      clear H1
      exact ab0 H
end Go.Proofs.YtpojnobgijoddaaDoor.A
namespace Go.Proofs.YtpojnobgijoddaaDoor.Legs
open Go.RowKit YtpojnobgijoddaaDoorW.PrintWords Plain A
def cv (x : S47) : S45 := ⟨x.f0, x.f1, x.f2, x.f3, x.f4⟩
theorem toLegs_ev (l : List (S47)) (hb : l.length ≤ 7036874417766) : Ev (fun k => laws_toLegS.f k l) (l.map cv) := by
  unfold laws_toLegS.f
  refine Ev.pos (by omega) ?_
  refine Ev.pos (by omega) ?_
  exact copy_all laws_toLegS.l0 cv z47 _ (fun k x0 x3 x4 => by simp only [laws_toLegS.l0, laws_toLeg.f, Option.bind_some]; rfl) l (by omega)
theorem eqLegs_ev (l : List (S45)) (hb : l.length ≤ 140737488351232) : Ev (fun k => laws_eqLegS.f k l l) true := by
  unfold laws_eqLegS.f
  refine Ev.pos rfl ?_
  exact eq_all laws_eqLegS.l0 (fun k x0 x4 h0 => by
    simp only [laws_eqLegS.l0, laws_eqLeg.f, if_true, Option.bind_some]
    by_cases h : x4 < (x0.length : Int)
    · rw [if_pos h, if_pos h0, if_pos h, if_pos h]
    · rw [if_neg h, if_neg h]) l hb
theorem szLegs_eq (l : List (S47)) (hb : l.length ≤ 140737488351232) : laws_szLegS.f l 1048576 = some (if l.length ≤ 1048576 then 1048576 - (l.length : Int) else -1) := by
  unfold laws_szLegS.f
  rw [w64 (by omega) (by omega)]
  by_cases h : l.length ≤ 1048576
  · rw [if_neg (by omega), if_pos h]
  · rw [if_pos (by omega), if_neg h]
theorem markLegs_step (x : List (S45)) (a : Int) (i : Nat) (hi : i < x.length) (hb : x.length ≤ 140737488351232) (h0 : 0 ≤ a) (h1 : a ≤ 1000000000000) : ∃ x' : List (S45), x'.length = x.length ∧ ∀ k, laws_markLegS.l0 (k + 1) x (a + 5 * i) (i : Int) = laws_markLegS.l0 k x' (a + 5 * (i + 1 : Nat)) ((i + 1 : Nat) : Int) := by
  apply Exists.intro
  apply And.intro
  case right =>
    intro k
    simp only [laws_markLegS.l0, Option.bind_some]
    rw [if_pos (by omega), if_pos (by omega), w64 (x := a + 5 * (i : Int) + 1) (by omega) (by omega), w64 (x := a + 5 * (i : Int) + 1 + 1) (by omega) (by omega), w64 (x := a + 5 * (i : Int) + 1 + 1 + 1) (by omega) (by omega), w64 (x := a + 5 * (i : Int) + 1 + 1 + 1 + 1) (by omega) (by omega), w64 (x := a + 5 * (i : Int) + 1 + 1 + 1 + 1 + 1) (by omega) (by omega), w64 (x := (i : Int) + 1) (by omega) (by omega), show a + 5 * (i : Int) + 1 + 1 + 1 + 1 + 1 = a + 5 * (i + 1 : Nat) by omega, show (i : Int) + 1 = ((i + 1 : Nat) : Int) by omega]
  case left => simp only [List.length_set]
theorem markLegs_ev (l : List (S45)) (a : Int) (hb : l.length ≤ 140737488351232) (h0 : 0 ≤ a) (h1 : a ≤ 1000000000000) : ∃ r, Ev (fun k => laws_markLegS.f k l a) (a + 5 * l.length, r) := by
  have key : ∀ (d i : Nat) (x : List (S45)), x.length = l.length → i + d = l.length → ∃ r, Ev (fun k => laws_markLegS.l0 k x (a + 5 * i) (i : Int)) (a + 5 * l.length, r) := by
    intro d
    induction d with
    | zero =>
      intro i x hx hi
      obtain rfl : i = l.length := by omega
      exact ⟨x, Ev.step (f := fun _ => some (a + 5 * (l.length : Int), x)) (fun k => by simp only [laws_markLegS.l0]; rw [if_neg (by omega)]) (Ev.now _)⟩
    | succ d ih =>
      intro i x hx hi
      obtain ⟨x', hx', hs⟩ := markLegs_step x a i (by omega) (by omega) h0 h1
      obtain ⟨r, hr⟩ := ih (i + 1) x' (by omega) (by omega)
      exact ⟨r, Ev.step (fun k => hs k) hr⟩
  obtain ⟨r, hr⟩ := key l.length 0 l rfl (by omega)
  exact ⟨r, by unfold laws_markLegS.f; simpa using hr⟩
def mk (a : Int) : S45 := ⟨a, a + 1, a + 2, a + 3, a + 4⟩
theorem rd_set (x : List (S45)) (i : Nat) (v : S45) (h : i < x.length) : rd_T45 (x.set i v) (i : Int) = v := by
  show (x.set i v).getD i z45 = v
  simp [List.getD, h]
theorem markL_ev (l : List (S45)) (a : Int) (hb : l.length ≤ 140737488351232) (h0 : 0 ≤ a) (h1 : a ≤ 1000000000000) : Ev (fun k => laws_markLegS.f k l a) (a + 5 * l.length, marks mk 5 a l.length) := by
  unfold laws_markLegS.f
  refine mark_all laws_markLegS.l0 mk 5 (by omega) (by omega) (fun k x a i hi hx ha hb => ?_) (fun k x a => by simp only [laws_markLegS.l0]; rw [if_neg (by omega)]) l a hb h0 h1
  simp only [laws_markLegS.l0, Option.bind_some, Int.toNat_natCast]
  rw [if_pos (by omega), if_pos (by omega), w64 (x := a + 1) (by omega) (by omega), w64 (x := a + 1 + 1) (by omega) (by omega), w64 (x := a + 1 + 1 + 1) (by omega) (by omega), w64 (x := a + 1 + 1 + 1 + 1) (by omega) (by omega), w64 (x := a + 1 + 1 + 1 + 1 + 1) (by omega) (by omega), w64 (x := (i : Int) + 1) (by omega) (by omega)]
  simp only [rd_set, List.set_set, List.length_set, hi]
  congr 1
  · unfold mk
    rw [show a + 1 + 1 = a + 2 by omega, show a + 2 + 1 = a + 3 by omega, show a + 3 + 1 = a + 4 by omega]
  · omega
theorem heldL_ev (n : Nat) (a : Int) (hb : n ≤ 140737488351232) (h0 : 0 ≤ a) (h1 : a ≤ 1000000000000) : Ev (fun k => laws_heldLegS.f k (marks mk 5 a n) a) (a + 5 * n) := by
  unfold laws_heldLegS.f
  refine held_all laws_heldLegS.l0 mk z45 5 (by omega) (by omega) (fun k x a i hi hx ha hb he => ?_) (fun k x a => by simp only [laws_heldLegS.l0]; rw [if_neg (by omega)]) n a hb h0 h1
  have e : rd_T45 x (i : Int) = mk a := he
  simp only [laws_heldLegS.l0]
  rw [if_pos (by omega), if_pos (by omega), w64 (x := a + 1) (by omega) (by omega), w64 (x := a + 1 + 1) (by omega) (by omega), w64 (x := a + 1 + 1 + 1) (by omega) (by omega), w64 (x := a + 1 + 1 + 1 + 1) (by omega) (by omega), w64 (x := a + 1 + 1 + 1 + 1 + 1) (by omega) (by omega), w64 (x := (i : Int) + 1) (by omega) (by omega), e]
  have p0 : (mk a).f0 = a := rfl
  have p1 : (mk a).f1 = a + 1 := rfl
  have p2 : (mk a).f2 = a + 2 := rfl
  have p3 : (mk a).f3 = a + 3 := rfl
  have p4 : (mk a).f4 = a + 4 := rfl
  rw [p0, p1, p2, p3, p4, if_pos rfl, if_pos rfl, if_pos (show a + 2 = a + 1 + 1 by omega), if_pos (show a + 3 = a + 1 + 1 + 1 by omega), if_pos (show a + 4 = a + 1 + 1 + 1 + 1 by omega)]
  congr 1 <;> omega
end Go.Proofs.YtpojnobgijoddaaDoor.Legs
namespace Go.Proofs.YtpojnobgijoddaaDoor.Net
open Go.RowKit YtpojnobgijoddaaDoorW.PrintWords Plain A Frac
theorem sCmp_cases (x y : L) : (sCmp x y = -1 ∧ sCmp x y < 0) ∨ (sCmp x y ≠ -1 ∧ ¬ sCmp x y < 0) := by
  unfold sCmp cmp
  split
  · exact Or.inl ⟨rfl, by decide⟩
  · refine Or.inr ?_
    split <;> exact ⟨by decide, by decide⟩
theorem cmpS_ev {x y : L} (hx : ∀ z ∈ x, Good z) (nx : x.length ≤ 12) (hy : ∀ z ∈ y, Good z) (ny : y.length ≤ 12) : Ev (fun k => spec_l10Compare.f k (sNum x) (sDen x) (sNum y) (sDen y)) (sCmp x y) := by
  have h1 := s_bound nx hx
  have h2 := s_bound ny hy
  unfold sCmp
  exact compare_ev (by omega) (by omega) (by omega) (by omega) (by unfold big; omega) (by unfold big; omega) (by unfold big; omega) (by unfold big; omega)
theorem mem_used {ls : L} (hg : ∀ x ∈ ls, Good x) (i : Nat) : ((i : Int) ∈ usedL ls) ↔ i < ls.length ∧ (leg ls i).f0 ∈ plL (RR ls) := by
  rw [show usedL ls = plcL ls (RR ls) ls.length from rfl, mem_plcL hg]
  exact ⟨fun h => ⟨by omega, h.2⟩, fun h => ⟨⟨by omega, by omega⟩, h.2⟩⟩
def stS (ls : L) (i : Nat) (st : BS) (m : Nat) : BS := if (i : Int) ∈ usedL ls then fixTo ls i st m else st
theorem best_inner {ls : L} (hv : legsB ls = true) (i : Nat) (hi : i < ls.length) (st : BS) (hok : BOk ls st) : ∀ (d m : Nat), m + d = 4 → ∀ v, Ev (fun k => spec_l10Best.l0 k ls (sNum (stS ls i st 4).y) (sDen (stS ls i st 4).y) (stS ls i st 4).b (stS ls i st 4).h ((i + 1 : Nat) : Int)) v →
    Ev (fun k => spec_l10Best.l1 k ls (sNum (stS ls i st m).y) (sDen (stS ls i st m).y) (stS ls i st m).b (stS ls i st m).h (i : Int) ((m + 1 : Nat) : Int)) v := by
  have h' := legsB_iff.mp hv
  intro d
  induction d with
  | zero =>
    intro m hm v hv2
    obtain rfl : m = 4 := by omega
    refine Ev.step (fun k => ?_) hv2
    conv => lhs; unfold spec_l10Best.l1
    rw [if_neg (by decide), w64 (x := (i : Int) + 1) (by omega) (by omega)]
    rfl
  | succ d ih =>
    intro m hm v hv2
    have hrec := ih (m + 1) (by omega) v hv2
    have hw : wrap64 (((m + 1 : Nat) : Int) + 1) = ((m + 1 + 1 : Nat) : Int) := by rw [w64 (by omega) (by omega)]; omega
    have hcan := can_ev ls (i : Int) ((m + 1 : Nat) : Int) (by omega)
    have hstep : ∀ k, spec_l10Best.l1 (k + 1) ls (sNum (stS ls i st m).y) (sDen (stS ls i st m).y) (stS ls i st m).b (stS ls i st m).h (i : Int) ((m + 1 : Nat) : Int) = (spec_l10Can.f k ls (i : Int) ((m + 1 : Nat) : Int)).bind fun t492 => (if t492 = true then ((spec_l10Fix.f ls (i : Int) ((m + 1 : Nat) : Int)).bind fun t493 => ((spec_l10Strain.f k t493).bind fun yn => ((spec_l10Compare.f k yn.1 yn.2 (sNum (stS ls i st m).y) (sDen (stS ls i st m).y)).bind fun t498 => (if t498 < 0 then (spec_l10Best.l1 k ls yn.1 yn.2 (i : Int) ((m + 1 : Nat) : Int) (i : Int) ((m + 1 + 1 : Nat) : Int)) else (spec_l10Best.l1 k ls (sNum (stS ls i st m).y) (sDen (stS ls i st m).y) (stS ls i st m).b (stS ls i st m).h (i : Int) ((m + 1 + 1 : Nat) : Int)))))) else (spec_l10Best.l1 k ls (sNum (stS ls i st m).y) (sDen (stS ls i st m).y) (stS ls i st m).b (stS ls i st m).h (i : Int) ((m + 1 + 1 : Nat) : Int))) := fun k => by
      conv => lhs; unfold spec_l10Best.l1
      rw [if_pos (by omega), hw]
    refine Ev.step (fun k => hstep k) ?_
    by_cases hp : (i : Int) ∈ usedL ls
    · have hp2 := (mem_used h'.1 i).mp hp
      have e0 : stS ls i st m = fixTo ls i st m := by unfold stS; rw [if_pos hp]
      have e1 : stS ls i st (m + 1) = stepB ls i (fixTo ls i st m) ((m + 1 : Nat) : Int) := by unfold stS; rw [if_pos hp]; rfl
      have ok := hok.fixS h'.1 i hi m (by omega)
      rw [e1] at hrec
      rw [e0]
      generalize fixTo ls i st m = sm at *
      by_cases hgd : Good (fixX (leg ls i) ((m + 1 : Nat) : Int))
      · have hf : (fixM ls (i : Int) ((m + 1 : Nat) : Int)).2 = true := by unfold fixM; rw [if_pos ⟨hv, ⟨by omega, by omega⟩, hp2.2, ⟨by omega, by omega⟩, hgd⟩]
        have hnv : legsB (ls.set i (fixX (leg ls i) ((m + 1 : Nat) : Int))) = true := by rw [legsB_set hv i hi]; exact decide_eq_true hgd
        have hn2 := legsB_iff.mp hnv
        rw [hf] at hcan
        unfold stepB at hrec
        refine Ev.bind hcan (Ev.pos rfl (Ev.bindc (fix_eq ls i _ hi (by omega)) (Ev.bind (strain_ev hnv) (Ev.bind (cmpS_ev hn2.1 hn2.2 ok.good (by rw [ok.len]; exact h'.2)) ?_))))
        rcases sCmp_cases (ls.set i (fixX (leg ls i) ((m + 1 : Nat) : Int))) sm.y with c | c
        · rw [if_pos ⟨hgd, c.1⟩] at hrec
          exact Ev.pos c.2 hrec
        · rw [if_neg (fun e => c.1 e.2)] at hrec
          exact Ev.neg c.2 hrec
      · have hf : (fixM ls (i : Int) ((m + 1 : Nat) : Int)).2 = false := by unfold fixM; rw [if_neg (fun e => hgd e.2.2.2.2)]
        rw [hf] at hcan
        unfold stepB at hrec
        rw [if_neg (fun e => hgd e.1)] at hrec
        exact Ev.bind hcan (Ev.neg (by decide) hrec)
    · have e0 : ∀ q, stS ls i st q = st := fun q => by unfold stS; rw [if_neg hp]
      rw [e0] at hrec ⊢
      have hf : (fixM ls (i : Int) ((m + 1 : Nat) : Int)).2 = false := by
        unfold fixM
        rw [if_neg (fun e => hp ((mem_used h'.1 i).mpr ⟨hi, e.2.2.1⟩))]
      rw [hf] at hcan
      exact Ev.bind hcan (Ev.neg (by decide) hrec)
def bestG (ls : L) (j : Nat) : BS := bestL ls (plcL ls (RR ls) j)
theorem bestG_step {ls : L} (hg : ∀ x ∈ ls, Good x) (i : Nat) (hi : i < ls.length) : bestG ls (i + 1) = stS ls i (bestG ls i) 4 := by
  have hm : ((i : Int) ∈ usedL ls) ↔ Pq (RR ls) (leg ls i).f0.toNat = true := by
    rw [show usedL ls = selTo (fun k => Pq (RR ls) (leg ls k).f0.toNat) ls.length from rfl, mem_selTo]
    refine ⟨fun ⟨k, h1, h2, h3⟩ => ?_, fun h => ⟨i, rfl, hi, h⟩⟩
    obtain rfl : i = k := by omega
    exact h3
  unfold bestG stS
  by_cases c : Pq (RR ls) (leg ls i).f0.toNat = true
  · rw [if_pos (hm.mpr c), show plcL ls (RR ls) (i + 1) = plcL ls (RR ls) i ++ [(i : Int)] from by unfold plcL; simp [selTo, c], bestL_snoc, Int.toNat_natCast]
  · rw [if_neg (fun e => c (hm.mp e)), show plcL ls (RR ls) (i + 1) = plcL ls (RR ls) i from by unfold plcL; simp [selTo, c]]
theorem bestG_ok {ls : L} (hg : ∀ x ∈ ls, Good x) (j : Nat) (hj : j ≤ ls.length) : BOk ls (bestG ls j) := BOk.list hg _ (fun i hi => by
  obtain ⟨k, rfl, hk, _⟩ := (mem_selTo _ _ _).mp hi
  omega)
theorem best_outer {ls : L} (hv : legsB ls = true) : ∀ (d j : Nat), j + d = ls.length → Ev (fun k => spec_l10Best.l0 k ls (sNum (bestG ls j).y) (sDen (bestG ls j).y) (bestG ls j).b (bestG ls j).h (j : Int)) ((bestB ls).b, (bestB ls).h) := by
  have h' := legsB_iff.mp hv
  intro d
  induction d with
  | zero =>
    intro j hj
    obtain rfl : j = ls.length := by omega
    refine Ev.step (f := fun _ => some ((bestB ls).b, (bestB ls).h)) (fun k => ?_) (Ev.now _)
    conv => lhs; unfold spec_l10Best.l0
    rw [if_neg (by omega)]
    rfl
  | succ d ih =>
    intro j hj
    have h := ih (j + 1) (by omega)
    have hin := best_inner hv j (by omega) (bestG ls j) (bestG_ok h'.1 j (by omega)) 4 0 (by omega)
    rw [bestG_step h'.1 j (by omega)] at h
    have e0 : stS ls j (bestG ls j) 0 = bestG ls j := by unfold stS; split <;> rfl
    have hq := hin _ h
    rw [e0] at hq
    refine Ev.step (fun k => ?_) hq
    conv => lhs; unfold spec_l10Best.l0
    rw [if_pos (by omega)]
    rfl
theorem best_ev {ls : L} (hv : legsB ls = true) : Ev (fun k => spec_l10Best.f k ls) ((bestB ls).b, (bestB ls).h) := by
  refine Ev.bind (strain_ev hv) ?_
  exact best_outer hv ls.length 0 (by omega)
end Go.Proofs.YtpojnobgijoddaaDoor.Net
namespace Go.Proofs.YtpojnobgijoddaaDoor.Pure
open Go.RowKit YtpojnobgijoddaaDoorW.PrintWords Plain A Legs
theorem clean_len : ∀ (d : Nat) (y : Net.L) (n : Int), (∀ x ∈ y, Net.Good x) → (Net.cleanR d y n).1.length = y.length
  | 0, y, n, _ => rfl
  | d + 1, y, n, hg => by
    have hok := Net.BOk.best hg
    unfold Net.cleanR
    split
    · rfl
    · rw [clean_len d _ _ hok.good, hok.len]
theorem clean_loop : ∀ (d j : Nat), j + d = 3 → ∀ (y : Net.L), Net.legsB y = true → Ev (fun k => spec_CleanLegs.l0 k y (j : Int)) ((Net.cleanR d y (j : Int)).1, (Net.cleanR d y (j : Int)).2, true)
  | 0, j, hj, y, _ => by
    refine Ev.step (f := fun _ => some (y, (j : Int), true)) (fun k => ?_) (Ev.now _)
    conv => lhs; unfold spec_CleanLegs.l0
    rw [if_neg (by omega)]
  | d + 1, j, hj, y, hv => by
    have h' := Net.legsB_iff.mp hv
    have hok := Net.BOk.best h'.1
    have hw : wrap64 ((j : Int) + 1) = ((j + 1 : Nat) : Int) := by unfold wrap64; omega
    refine Ev.step (f := fun k => (spec_l10Best.f k y).bind fun yq => (if yq.2 = 0 then (some (y, (j : Int), true)) else ((spec_l10Fix.f y yq.1 yq.2).bind fun t561 => (spec_CleanLegs.l0 k t561 ((j + 1 : Nat) : Int))))) (fun k => ?_) ?_
    · conv => lhs; unfold spec_CleanLegs.l0
      rw [if_pos (by omega), hw]
    · refine Ev.bind (Net.best_ev hv) ?_
      unfold Net.cleanR
      by_cases hz : (Net.bestB y).h = 0
      · rw [if_pos hz]
        exact Ev.pos hz (Ev.now _)
      · rw [if_neg hz]
        rcases hok.what with q | ⟨k, q1, q2, q3, q4, q5⟩
        · exact absurd q.1 hz
        · have hf : spec_l10Fix.f y (Net.bestB y).b (Net.bestB y).h = some (Net.bestB y).y := by
            rw [q1, Net.fix_eq y k _ q2 (by have := h'.2; omega), ← q5]
          have hvy : Net.legsB (Net.bestB y).y = true := Net.legsB_iff.mpr ⟨hok.good, by rw [hok.len]; exact h'.2⟩
          have hrec := clean_loop d (j + 1) (by omega) _ hvy
          rw [show ((j + 1 : Nat) : Int) = (j : Int) + 1 by omega] at hrec
          refine Ev.neg hz (Ev.bindc hf ?_)
          rw [show ((j + 1 : Nat) : Int) = (j : Int) + 1 by omega]
          exact hrec
theorem cleanLegs_ev (ls : Net.L) (hb : ls.length ≤ 140737488351232) : Ev (fun k => spec_CleanLegs.f k ls) (clnM ls) := by
  refine Ev.bind (Net.l4Legs_ev ls hb) ?_
  unfold clnM
  by_cases hv : Net.legsB ls = true
  · rw [if_pos hv]
    have h' := Net.legsB_iff.mp hv
    refine Ev.pos hv (Ev.bindc rfl (Ev.pos (by simp only [List.length_nil]; have := h'.2; omega) ?_))
    rw [List.nil_append]
    exact clean_loop 3 0 rfl ls hv
  · rw [if_neg hv]
    exact Ev.neg hv (Ev.now _)
theorem FnExactCleanLegs (l0 : List (S47)) (hb : l0.length * 40 ≤ 140737488351232) (_ : ∀ x ∈ l0, (Lit.int .i64 x.f0).wf = true ∧ (Lit.int .i64 x.f1).wf = true ∧ (Lit.int .i64 x.f2).wf = true ∧ (Lit.int .i64 x.f3).wf = true ∧ (Lit.int .i64 x.f4).wf = true) : ∃ k, laws_FnExactCleanLegs.f k l0 = some true := by
  refine Ev.rounds ?_
  have hl : (l0.map cv).length = l0.length := by simp
  have hsz := szLegs_eq l0 (by omega)
  by_cases c : l0.length ≤ 1048576
  · rw [if_pos c] at hsz
    obtain ⟨B, hB⟩ : ∃ B : List (S45) × Int × Bool, B = clnM (l0.map cv) := ⟨_, rfl⟩
    have hBl : B.1.length ≤ 100 := by
      rw [hB]
      unfold clnM
      split
      · rename_i h
        have h2 := Net.legsB_iff.mp h
        have := clean_len 3 (l0.map cv) 0 h2.1
        have h3 := h2.2
        simp only
        omega
      · simp
    have hi : impl_CleanLegs.f (l0.map cv) = some (B.1, B.2.1, B.2.2) := by unfold impl_CleanLegs.f; rw [if_pos (by omega), hB]
    have hs : Ev (fun k => spec_CleanLegs.f k (l0.map cv)) B := by rw [hB]; exact cleanLegs_ev _ (by omega)
    clear hB
    have heq := eqLegs_ev B.1 (by omega)
    obtain ⟨q, hq⟩ := markLegs_ev (l0.map cv) 1 (by omega) (by omega) (by omega)
    have hm := markL_ev B.1 1 (by omega) (by omega) (by omega)
    have hh := heldL_ev B.1.length 1 (by omega) (by omega) (by omega)
    have hlegs := toLegs_ev l0 (by omega)
    refine Ev.bindc hsz (Ev.neg (by omega) ?_)
    refine Ev.bind hlegs (Ev.bind hs (Ev.bind hlegs (Ev.bindc hi (Ev.bind heq (Ev.pos rfl (Ev.pos rfl ?_))))))
    refine Ev.step (f := fun k => (laws_toLegS.f k l0).bind fun t766 => ((laws_eqLegS.f k (l0.map cv) t766).bind fun t769 => (if t769 = true then ((laws_markLegS.f k (l0.map cv) 1).bind fun bt770 => (if bt770.1 < 0 then (lcJ1 k l0 B.1 B.2.1 B.2.2 B.1 true) else ((laws_eqLegS.f k B.1 B.1).bind fun t772 => (if t772 = true then (lcJ1 k l0 B.1 B.2.1 B.2.2 B.1 false) else (lcJ1 k l0 B.1 B.2.1 B.2.2 B.1 true))))) else (some false)))) (fun k => by simp only [lcJ0, bne_self_eq_false, Bool.false_eq_true, if_false, if_true]) ?_
    refine Ev.bind hlegs (Ev.bind (eqLegs_ev _ (by omega)) (Ev.pos rfl (Ev.bind hq (Ev.neg (by simp only; omega) (Ev.bind heq (Ev.pos rfl ?_))))))
    refine Ev.step (f := fun k => (laws_markLegS.f k B.1 1).bind fun xd => ((laws_heldLegS.f k xd.2 1).bind fun t775 => (if t775 < 0 then (some false) else (if t775 = xd.1 then ((laws_toLegS.f k l0).bind fun t776 => ((impl_CleanLegs.f t776).bind fun yr => ((laws_eqLegS.f k yr.1 B.1).bind fun t783 => (if t783 = true then (if yr.2.1 = B.2.1 then (lcJ2 k xd.2 xd.1 (yr.2.2 != B.2.2)) else (lcJ2 k xd.2 xd.1 true)) else (lcJ2 k xd.2 xd.1 true))))) else (some false))))) (fun k => by simp only [lcJ1, Bool.false_eq_true, if_false]) ?_
    refine Ev.bind hm (Ev.bind hh (Ev.neg (by omega) (Ev.pos rfl (Ev.bind hlegs (Ev.bindc hi (Ev.bind heq (Ev.pos rfl (Ev.pos rfl ?_))))))))
    refine Ev.step (f := fun k => (laws_heldLegS.f k (marks mk 5 1 B.1.length) 1).bind fun t784 => (if t784 < 0 then (some false) else (if t784 = 1 + 5 * (B.1.length : Int) then (some true) else (some false)))) (fun k => by simp only [lcJ2, bne_self_eq_false, Bool.false_eq_true, if_false]) ?_
    exact Ev.bind hh (Ev.neg (by omega) (Ev.pos rfl (Ev.now _)))
  · rw [if_neg c] at hsz
    exact Ev.bindc hsz (Ev.pos (by decide) (Ev.now _))
end Go.Proofs.YtpojnobgijoddaaDoor.Pure
namespace Go.Proofs.YtpojnobgijoddaaDoor.Opens
open Go.ChangeShapes Go.WideShapes Go.Deep Go.RowKit YtpojnobgijoddaaDoorW.PrintWords
theorem list_of {α : Type} {P : Nat → α → Prop} : ∀ (n : Nat), (∀ i, i < n → ∃ x, P i x) → ∃ xs : List α, xs.length = n ∧ ∀ i x, xs[i]? = some x → P i x
  | 0, _ => ⟨[], rfl, fun i x h => by simp at h⟩
  | n + 1, h => by
    obtain ⟨xs, hl, hx⟩ := list_of n (fun i hi => h i (Nat.lt_succ_of_lt hi))
    obtain ⟨y, hy⟩ := h n (Nat.lt_succ_self n)
    refine ⟨xs ++ [y], by simp [hl], fun i x hi => ?_⟩
    by_cases hlt : i < xs.length
    · rw [List.getElem?_append_left hlt] at hi
      exact hx i x hi
    · rw [List.getElem?_append_right (by omega)] at hi
      have h0 : i - xs.length = 0 := by
        have := (List.getElem?_eq_some_iff.1 hi).1
        simp at this
        omega
      rw [h0] at hi
      simp at hi
      subst hi
      have : i = n := by omega
      subst this
      exact hy
section
variable {H : Type} {enc : TypeId × Value → H} {P : Program} {w : World} {base : Nat} {spare : Nat → Bool} {held : Bool}
theorem open_row {α : Type} (d : Kd α) {Q : α → Prop} {t e : TypeId} {a : Option Addr} {len cap : Nat} {dd : DataW H} {ps : List MemPlace} (ht : P.underlying t = some (.slice e)) (hC : P.cellsOf e = d.sz)
    (hd : ∀ n cs y, DataW.trod enc P w base spare held n e cs = some y → ∃ x, d.K w x cs ∧ Q x)
    (h : DataW.Trod enc P w base spare held t (.slice a len cap) dd ps) : ∃ xs : List α, xs.length = len ∧ len ≤ cap ∧ d.C w a len xs ∧ ∀ x ∈ xs, Q x := by
  obtain ⟨fuel, hf⟩ := h
  rcases open_slice ht hf with ⟨hcs, _⟩ | ⟨x, l, c, m, n, D, Pl, hcs, _, hl, hm, hmm, _, hi⟩
  · simp [Value.cells] at hcs
    obtain ⟨rfl, rfl, rfl⟩ := hcs
    exact ⟨[], rfl, Nat.le_refl _, ⟨rfl, by omega, fun h => by omega⟩, fun x hx => by simp at hx⟩
  · simp [Value.cells] at hcs
    obtain ⟨rfl, rfl, rfl⟩ := hcs
    have hle : len ≤ m := by subst hmm; split <;> omega
    obtain ⟨xs, hxl, hx⟩ := list_of (P := fun i (z : α) => Q z ∧ ∃ cs, d.K w z cs ∧ w.cells? base (x.add (i * d.sz)) d.sz = some cs) len (fun i hil => by
      obtain ⟨cs, h1, h2⟩ := hi i (by omega)
      rw [hC] at h1
      obtain ⟨z, h3, h4⟩ := hd _ _ _ h2
      exact ⟨z, h4, cs, h3, h1⟩)
    refine ⟨xs, hxl, hl, ⟨hxl, by unfold maxLen at hm; omega, fun _ => ⟨x, rfl, fun j p hp => ?_⟩⟩, fun z hz => ?_⟩
    · obtain ⟨_, cs, h1, h2⟩ := hx j p hp
      obtain ⟨_, hlen, hat⟩ := World.cells?_some h2
      refine ⟨cs, hlen, h1, fun i u hu => ?_⟩
      have hil : i < d.sz := by have := (List.getElem?_eq_some_iff.1 hu).1; omega
      rw [← Go.Deep.add_add, hat i hil, hu]
    · obtain ⟨j, hj⟩ := List.getElem?_of_mem hz
      exact (hx j z hj).1
theorem sized_row {t e : TypeId} {a : Option Addr} {len cap : Nat} {d : DataW H} {ps : List MemPlace} {ts : List TypeId} {ds : List (DataW H)} {j : Nat}
    (hsz : (DataW.weightsEach P ts ds).all (· ≤ reachBytes) = true) (ht : ts[j]? = some t) (hd : ds[j]? = some d) (hu : P.underlying t = some (.slice e)) {B : Nat} (hB : P.bytesOf e = B)
    (h : DataW.Trod enc P w base spare held t (.slice a len cap) d ps) : len * B ≤ 140737488351232 := by
  obtain ⟨fuel, hf⟩ := h
  rcases open_slice hu hf with ⟨hcs, _⟩ | ⟨x, l, c, m, n, D, Pl, hcs, _, hl, hm, hmm, hx, hi⟩
  · simp [Value.cells] at hcs
    obtain ⟨rfl, rfl, rfl⟩ := hcs
    simp
  · simp [Value.cells] at hcs
    obtain ⟨rfl, rfl, rfl⟩ := hcs
    obtain ⟨hx, _⟩ := Prod.mk.inj hx
    subst hx
    have z := sized_slice hsz ht hd hu
    rw [hB] at z
    simp only [List.length_map, List.length_range] at z
    have hle : len ≤ m := by subst hmm; split <;> omega
    rw [show len + (m - len) = m by omega] at z
    exact Nat.le_trans (Nat.mul_le_mul_right _ hle) z
theorem one_field {f : Field} {cs : List Value} {o c : Nat} (ho : f.offset = o) (hc : P.cellsOf f.type = c) {n : Nat} {y : Option (DataW H × List MemPlace)} (h : DataW.trod enc P w base spare held n f.type ((cs.drop f.offset).take (P.cellsOf f.type)) = y) : DataW.trod enc P w base spare held n f.type ((cs.drop o).take c) = y := by rw [← ho, ← hc]; exact h
end
theorem len5 {α : Type} : ∀ {l : List α}, l.length = 5 → ∃ x0 x1 x2 x3 x4, l = [x0, x1, x2, x3, x4]
  | [x0, x1, x2, x3, x4], _ => ⟨x0, x1, x2, x3, x4, rfl⟩
end Go.Proofs.YtpojnobgijoddaaDoor.Opens
namespace Go.Proofs.YtpojnobgijoddaaDoor.fnExactCleanLegs
open Go.ChangeShapes Go.WideShapes Go.ChangeAt Go.RowKit
open Go.ChangeMaps (open_string shut_string)
open A YtpojnobgijoddaaDoorW.PrintWords Opens
theorem own : ownKnob Tryd.prog.godebug = none := by kernel_rfl
theorem laidOut : laidOutB Tryd.prog = true := by kernel_rfl
theorem open_47 {H : Type} {enc : TypeId × Value → H} {w : World} {base : Nat} {spare : Nat → Bool} {held : Bool} {n : Nat} {cs : List Value} {y : DataW H × List MemPlace} (h : DataW.trod enc Tryd.prog w base spare held n 47 cs = some y) : ∃ (x0 : Int) (x1 : Int) (x2 : Int) (x3 : Int) (x4 : Int), cs = [.int .i64 x0, .int .i64 x1, .int .i64 x2, .int .i64 x3, .int .i64 x4] ∧ (Lit.int .i64 x0).wf = true ∧ (Lit.int .i64 x1).wf = true ∧ (Lit.int .i64 x2).wf = true ∧ (Lit.int .i64 x3).wf = true ∧ (Lit.int .i64 x4).wf = true := by
  obtain ⟨ys, n', _, _, hlen, hys, hf⟩ := DataW.trod_struct Tryd.underlying47 h
  replace hlen : cs.length = 5 := hlen.trans qz5
  replace hys : ys.length = 5 := hys.trans qz5
  clear h
  obtain ⟨c0, c1, c2, c3, c4, rfl⟩ := len5 hlen
  obtain ⟨y0, y1, y2, y3, y4, rfl⟩ := len5 hys
  have h0 : DataW.trod enc Tryd.prog w base spare held n' 3 [c0] = some y0 := one_field (c := 1) (o := 0) rfl qz5 (hf 0 _ rfl)
  obtain ⟨x0, e0, _, w0⟩ := DataW.trod_int Tryd.underlying3 h0
  obtain rfl : c0 = _ := (List.cons.inj e0).1
  have h1 : DataW.trod enc Tryd.prog w base spare held n' 3 [c1] = some y1 := one_field (c := 1) (o := 1) rfl qz5 (hf 1 _ rfl)
  obtain ⟨x1, e1, _, w1⟩ := DataW.trod_int Tryd.underlying3 h1
  obtain rfl : c1 = _ := (List.cons.inj e1).1
  have h2 : DataW.trod enc Tryd.prog w base spare held n' 3 [c2] = some y2 := one_field (c := 1) (o := 2) rfl qz5 (hf 2 _ rfl)
  obtain ⟨x2, e2, _, w2⟩ := DataW.trod_int Tryd.underlying3 h2
  obtain rfl : c2 = _ := (List.cons.inj e2).1
  have h3 : DataW.trod enc Tryd.prog w base spare held n' 3 [c3] = some y3 := one_field (c := 1) (o := 3) rfl qz5 (hf 3 _ rfl)
  obtain ⟨x3, e3, _, w3⟩ := DataW.trod_int Tryd.underlying3 h3
  obtain rfl : c3 = _ := (List.cons.inj e3).1
  have h4 : DataW.trod enc Tryd.prog w base spare held n' 3 [c4] = some y4 := one_field (c := 1) (o := 4) rfl qz5 (hf 4 _ rfl)
  obtain ⟨x4, e4, _, w4⟩ := DataW.trod_int Tryd.underlying3 h4
  obtain rfl : c4 = _ := (List.cons.inj e4).1
  exact ⟨x0, x1, x2, x3, x4, rfl, w0, w1, w2, w3, w4⟩
theorem lifted (os : Os) (started : os.Started) (H : Type) (enc : TypeId × Value → H) :
    ReturnsInHanded {} Tryd.checked os 9 .any (fun w args => (Rows.fnExactCleanLegsSpec.pre enc Tryd.prog Tryd.f9 [] false w args ∧ laidMetH Tryd.prog LaidT.list w) ∧ sizedMet enc Tryd.prog Tryd.f9 (OpenSpec.ofChange Rows.fnExactCleanLegsSpec) false w args) (Rows.fnExactCleanLegsSpec.post enc Tryd.prog Tryd.f9 false true false false) := by
  refine returnsInHanded_of_change_and (C := Tryd.checked) (X := fun w _ => laidMetH Tryd.prog LaidT.list w) (fun _ _ _ hh h => h.of_heap hh) own started qz5 Tryd.func9
    (ChangeSpec.witness_shaped (enc := enc) (C := Tryd.checked) (os := os) (X := fun w _ => laidMetH Tryd.prog LaidT.list w) false (World.doorLaid Tryd.prog 400 os) #[.slice none 0 0] 8 rfl (World.shaped_of_RefB qz5 qz5) qz5 qz5 qz5 (LaidT.door_met os _)) ?_
  intro W base args ds gs before hval0 hW hcnd hsz0 hL _
  have hsz : (DataW.weightsEach Tryd.prog (Tryd.f9.params.toList ++ Rows.fnExactCleanLegsSpec.plain.varTypes Tryd.prog) (ds ++ gs)).all (· ≤ reachBytes) = true := hsz0
  have hval : ∀ (j : Nat) t v, Tryd.f9.params[j]? = some t → args[j]? = some v → Value.okWide Tryd.prog W .any base t v := hval0
  have hW' := hW
  obtain ⟨p, q, hA0, hV, rfl, hfz, hnd⟩ := hW
  have hA : DataW.TrodAll enc Tryd.prog W 0 (fun _ => true) true Tryd.f9.params.toList args.toList ds p := hA0
  rw [Tryd.params9] at hA hval hsz
  obtain ⟨yl, vs0, d0, ds0, p0, q0, hargs, rfl, rfl, h0, r0⟩ := trodAll_cons hA
  obtain ⟨rfl, rfl, rfl⟩ := trodAll_nil r0
  obtain rfl : args = #[yl] := by cases args; simp_all
  have hV2 := hV
  obtain ⟨_, _, _, _, gd, _, rfl, _, _, _, _, _⟩ := trodVars_one hV
  have k0 := h0
  have lt0 : ∀ x ∈ p0, x.block < W.heap.size := by obtain ⟨m, hm⟩ := k0; exact DataW.trod_lt m _ _ _ hm
  obtain ⟨a0, len0, cap0, rfl⟩ := okWide_slice Tryd.underlying22 (hval 0 22 yl rfl rfl)
  obtain ⟨l0, hl0, hc0, hr0, hw0⟩ := Opens.open_row k47 (Q := fun x => (Lit.int .i64 x.f0).wf = true ∧ (Lit.int .i64 x.f1).wf = true ∧ (Lit.int .i64 x.f2).wf = true ∧ (Lit.int .i64 x.f3).wf = true ∧ (Lit.int .i64 x.f4).wf = true) (e := 47) Tryd.underlying22 qz5 (fun _ _ _ h => by obtain ⟨x0, x1, x2, x3, x4, rfl, hw⟩ := open_47 h; exact ⟨⟨x0, x1, x2, x3, x4⟩, k47_mk _ _, hw⟩) h0
  have y0 : len0 * 40 ≤ 140737488351232 := Opens.sized_row hsz (j := 0) (t := 22) rfl rfl Tryd.underlying22 qz5 h0
  subst hl0
  clear hA0 hval0 hsz0 hsz
  obtain ⟨k, hk⟩ := Pure.FnExactCleanLegs l0 y0 hw0
  refine (laws_FnExactCleanLegs.calls k _ _ l0 true W hr0 hc0 hk (LaidT.of_laid hL)).mono fun e W' ⟨he, hb⟩ => ?_
  have bel : Below W.heap.size W W' := hb
  subst he
  exact ⟨_, rfl, _, _, _, [], _, _, hW', trodAll_mk1 (shut_bool Tryd.underlying4 _), (trodAll_cons_mk (Below.trod laidOut qz5 (of_decide_eq_true qz5) k0 bel lt0) trodAll_mk0), Below.trodVars laidOut bel qz5 hV2, bel.frame _, fun h => by cases h⟩
theorem over : Rows.fnExactCleanLegsRow.holds Tryd.pinned (OpenSpec.ofChange Rows.fnExactCleanLegsSpec) :=
  OpenClaim.holds_of_wide 9 Tryd.f9 rfl rfl rfl rfl rfl rfl rfl ⟨rfl, rfl, rfl, rfl, rfl⟩ rfl rfl rfl rfl rfl qz5 Tryd.func9 qz5
    (of_decide_eq_true qz5) (by unfold Func.isWrapper; first | (rw [if_pos (by decide +kernel)]; kernel_rfl) | (rw [if_neg (by decide +kernel)]; exact ⟨rfl, rfl⟩))
    (fun os started H enc _ => lifted os started H enc)
theorem proved : Rows.FnExactCleanLegsSaid := over
theorem card_holds : Rows.FnExactCleanLegsCardSaid :=
  Claim7.holds_tied_plain_at .later [] [.data] true (true, "f35521ca9b23a7300210d85882e5526660475bb4885cbb0315ff34c42be0a49d") false
    over (fun _ h => by cases h) qz5 (fun _ h => by cases h) fnExactCleanLegs_row_tie rfl ⟨rfl, rfl⟩ qz5 rfl
    (fun f fn hf hfn => by
      obtain rfl : f = 9 := Option.some.inj ((show Tryd.prog.funcNamed "loop.example/g00933/laws.FnExactCleanLegs" = some 9 by kernel_rfl).symm.trans hf) |>.symm
      obtain rfl : fn = Tryd.f9 := (Option.some.inj (Tryd.func9.symm.trans hfn)).symm
      exact ⟨by kernel_rfl, fun j t ht => by
        rw [Tryd.params9] at ht
        have hm : t ∈ [22] := by simpa using Array.mem_of_getElem? ht
        have hall : ([22].all fun u => !Tryd.prog.wantsStandIn u) = true := by kernel_rfl
        exact (show Tryd.prog.wantsStandIn t = false by simpa using List.all_eq_true.1 hall t hm)⟩)
    qz5
#print axioms card_holds
end Go.Proofs.YtpojnobgijoddaaDoor.fnExactCleanLegs
namespace Go.Proofs.YtpojnobgijoddaaDoor
theorem fnExactCleanLegs_holds : Rows.FnExactCleanLegsCardSaid := fnExactCleanLegs.card_holds
end Go.Proofs.YtpojnobgijoddaaDoor
