/- One Lean function and its proof for each Go function, written by a program out of the translation. No conditions. -/
import Derived.Test.YtlipaiabjcaeiaaDoorKFnChains0
import Derived.Test.YtlipaiabjcaeiaaDoorKFnChains1
import Derived.Test.YtlipaiabjcaeiaaDoorKFnChains2
import Derived.Test.YtlipaiabjcaeiaaDoorKFnChains3
import Derived.Test.YtlipaiabjcaeiaaDoorKFnChainsU2
namespace Go.Proofs.YtlipaiabjcaeiaaDoor.A
open Go.Proofs.YtlipaiabjcaeiaaDoor Go.RowKit Go.Proofs.YtlipaiabjcaeiaaDoorW.PrintWords Go.Proofs.YtlipaiabjcaeiaaDoorW.PrintLast Go.Proofs.YtlipaiabjcaeiaaDoorW.PrintMore
attribute [local go_sem] max2_int min2_int max_two min_two max_three min_three max_four min_four   -- for this text's walks alone
set_option linter.unusedVariables false
set_option linter.unusedSimpArgs false

attribute [local go_sem high] eqA27
/-! ### laws_FnChains: function 3 -/
mutual
def laws_FnChains.j0 : Nat → List Int → List (S45) → Bool → Bool → Int → Int → Int → Option (Bool)
 | 0, _, _, _, _, _, _, _ => none
 | k + 1, x0, x3, x5, x49, x351000, x351001, x351002 => if x49 = true then (some false) else (if x5 = true then (if 0 ≤ (wrap64 ((x3.length : Int) / 2)) then (if (wrap64 ((x3.length : Int) / 2)) ≤ (x3.length : Int) then ((impl_ChainShift.f k (x3.take ((wrap64 ((x3.length : Int) / 2)) : Int).toNat)).bind fun bt360 => ((impl_ChainShift.f k (x3.drop ((wrap64 ((x3.length : Int) / 2)) : Int).toNat)).bind fun bt369 => (if bt360.2.2.2 = true then (if bt369.2.2.2 = true then (if (wrap64 (bt360.1 + bt369.1)) = x351000 then (if (wrap64 (bt360.2.1 + bt369.2.1)) = x351001 then (if (wrap64 (bt360.2.2.1 + bt369.2.2.1)) = x351002 then (laws_FnChains.j1 k x0) else (some false)) else (some false)) else (some false)) else (some false)) else (some false)))) else (none)) else (none)) else (laws_FnChains.j1 k x0))
def laws_FnChains.j1 : Nat → List Int → Option (Bool)
 | 0, _ => none
 | k + 1, x0 => (spec_DrawLegsLength.f k x0).bind fun t374 => ((impl_LegsLength.f k t374).bind fun bt377 => ((spec_LegsLength.f k t374).bind fun bt379 => (if bt377.1 = bt379.1 then (laws_FnChains.j2 k x0 t374 bt377.1 bt377.2 (bt377.2 != bt379.2)) else (laws_FnChains.j2 k x0 t374 bt377.1 bt377.2 true))))
def laws_FnChains.j2 : Nat → List Int → List (S45) → Int → Bool → Bool → Option (Bool)
 | 0, _, _, _, _, _ => none
 | k + 1, x0, x13, x14, x15, x123 => if x123 = true then (some false) else (if x15 = true then (laws_FnChains.l0 k x0 x13 x14 0 0) else (laws_FnChains.j4 k x0))
def laws_FnChains.j4 : Nat → List Int → Option (Bool)
 | 0, _ => none
 | k + 1, x0 => (spec_DrawLegsAt.f k x0).bind fun bt385 => ((impl_LegsAt.f k bt385.1 bt385.2).bind fun bt389 => ((spec_LegsAt.f k bt385.1 bt385.2).bind fun bt393 => (if (bt389.2 == bt393.2) = true then ((laws_vInts.f k bt389.1 bt393.1).bind fun t397 => (some t397)) else (some false))))
def laws_FnChains.l0 : Nat → List Int → List (S45) → Int → Int → Int → Option (Bool)
 | 0, _, _, _, _, _ => none
 | k + 1, x0, x13, x14, x18, x19 => if x19 < 8 then ((impl_LegsAt.f k x13 x19).bind fun bt381 => (if bt381.2 = true then (laws_FnChains.l0 k x0 x13 x14 (wrap64 (x18 + (bt381.1.length : Int))) (wrap64 (x19 + 1))) else (some false))) else (if x18 = (wrap64 (2 * (x13.length : Int))) then (if x14 < (x13.length : Int) then (some false) else (laws_FnChains.j4 k x0)) else (some false))
end
def laws_FnChains.f (k : Nat) (l0 : List Int) : Option (Bool) := (laws_vBig.f l0).bind fun t342 => (if t342 = true then (some true) else ((spec_DrawChainShift.f k l0).bind fun t343 => ((impl_ChainShift.f k t343).bind fun bt346 => ((spec_ChainShift.f k t343).bind fun bt351 => (if (!(bt346.1 == bt351.1) || (!(bt346.2.1 == bt351.2.1) || (!(bt346.2.2.1 == bt351.2.2.1)))) = true then (laws_FnChains.j0 k l0 t343 bt346.2.2.2 true bt346.1 bt346.2.1 bt346.2.2.1) else (laws_FnChains.j0 k l0 t343 bt346.2.2.2 (bt346.2.2.2 != bt351.2.2.2) bt346.1 bt346.2.1 bt346.2.2.1))))))
theorem laws_FnChains.mono_l : ∀ k, (∀ y0 y1 y2 y3 y4 y5 y6, LeO (laws_FnChains.j0 k y0 y1 y2 y3 y4 y5 y6) (laws_FnChains.j0 (k + 1) y0 y1 y2 y3 y4 y5 y6)) ∧ (∀ y0, LeO (laws_FnChains.j1 k y0) (laws_FnChains.j1 (k + 1) y0)) ∧ (∀ y0 y1 y2 y3 y4, LeO (laws_FnChains.j2 k y0 y1 y2 y3 y4) (laws_FnChains.j2 (k + 1) y0 y1 y2 y3 y4)) ∧ (∀ y0, LeO (laws_FnChains.j4 k y0) (laws_FnChains.j4 (k + 1) y0)) ∧ (∀ y0 y1 y2 y3 y4, LeO (laws_FnChains.l0 k y0 y1 y2 y3 y4) (laws_FnChains.l0 (k + 1) y0 y1 y2 y3 y4))
 | 0 => ⟨fun _ _ _ _ _ _ _ r h => by simp [laws_FnChains.j0] at h, fun _ r h => by simp [laws_FnChains.j1] at h, fun _ _ _ _ _ r h => by simp [laws_FnChains.j2] at h, fun _ r h => by simp [laws_FnChains.j4] at h, fun _ _ _ _ _ r h => by simp [laws_FnChains.l0] at h⟩
 | k + 1 => by
  obtain ⟨ih0, ih1, ih2, ih3, ih4⟩ := laws_FnChains.mono_l k
  refine ⟨?_, ?_, ?_, ?_, ?_⟩
  ·
   intro y0 y1 y2 y3 y4 y5 y6
   unfold laws_FnChains.j0
   repeat' first
   | (with_reducible exact ih0 _ _ _ _ _ _ _)
   | (with_reducible exact ih1 _)
   | (with_reducible exact ih2 _ _ _ _ _)
   | (with_reducible exact ih3 _)
   | (with_reducible exact ih4 _ _ _ _ _)
   | (with_reducible exact impl_ChainShift.mono _ _)
   | (with_reducible exact impl_LegsAt.mono _ _ _)
   | (with_reducible exact impl_LegsLength.mono _ _)
   | (with_reducible exact laws_vInts.mono _ _ _)
   | (with_reducible exact spec_ChainShift.mono _ _)
   | (with_reducible exact spec_DrawChainShift.mono _ _)
   | (with_reducible exact spec_DrawLegsAt.mono _ _)
   | (with_reducible exact spec_DrawLegsLength.mono _ _)
   | (with_reducible exact spec_LegsAt.mono _ _ _)
   | (with_reducible exact spec_LegsLength.mono _ _)
   | (with_reducible exact LeO.refl _)
   | (with_reducible exact LeO.none _)
   | (with_reducible refine LeO.ite ?_ ?_)
   | (with_reducible refine LeO.bind ?_ (fun _ => ?_))
   | exact ih0 _ _ _ _ _ _ _
   | exact ih1 _
   | exact ih2 _ _ _ _ _
   | exact ih3 _
   | exact ih4 _ _ _ _ _
   | exact impl_ChainShift.mono _ _
   | exact impl_LegsAt.mono _ _ _
   | exact impl_LegsLength.mono _ _
   | exact laws_vInts.mono _ _ _
   | exact spec_ChainShift.mono _ _
   | exact spec_DrawChainShift.mono _ _
   | exact spec_DrawLegsAt.mono _ _
   | exact spec_DrawLegsLength.mono _ _
   | exact spec_LegsAt.mono _ _ _
   | exact spec_LegsLength.mono _ _
   | exact LeO.none _
   | refine LeO.ite ?_ ?_
   | refine LeO.bind ?_ (fun _ => ?_)
  ·
   intro y0
   unfold laws_FnChains.j1
   repeat' first
   | (with_reducible exact ih0 _ _ _ _ _ _ _)
   | (with_reducible exact ih1 _)
   | (with_reducible exact ih2 _ _ _ _ _)
   | (with_reducible exact ih3 _)
   | (with_reducible exact ih4 _ _ _ _ _)
   | (with_reducible exact impl_ChainShift.mono _ _)
   | (with_reducible exact impl_LegsAt.mono _ _ _)
   | (with_reducible exact impl_LegsLength.mono _ _)
   | (with_reducible exact laws_vInts.mono _ _ _)
   | (with_reducible exact spec_ChainShift.mono _ _)
   | (with_reducible exact spec_DrawChainShift.mono _ _)
   | (with_reducible exact spec_DrawLegsAt.mono _ _)
   | (with_reducible exact spec_DrawLegsLength.mono _ _)
   | (with_reducible exact spec_LegsAt.mono _ _ _)
   | (with_reducible exact spec_LegsLength.mono _ _)
   | (with_reducible exact LeO.refl _)
   | (with_reducible exact LeO.none _)
   | (with_reducible refine LeO.ite ?_ ?_)
   | (with_reducible refine LeO.bind ?_ (fun _ => ?_))
   | exact ih0 _ _ _ _ _ _ _
   | exact ih1 _
   | exact ih2 _ _ _ _ _
   | exact ih3 _
   | exact ih4 _ _ _ _ _
   | exact impl_ChainShift.mono _ _
   | exact impl_LegsAt.mono _ _ _
   | exact impl_LegsLength.mono _ _
   | exact laws_vInts.mono _ _ _
   | exact spec_ChainShift.mono _ _
   | exact spec_DrawChainShift.mono _ _
   | exact spec_DrawLegsAt.mono _ _
   | exact spec_DrawLegsLength.mono _ _
   | exact spec_LegsAt.mono _ _ _
   | exact spec_LegsLength.mono _ _
   | exact LeO.none _
   | refine LeO.ite ?_ ?_
   | refine LeO.bind ?_ (fun _ => ?_)
  ·
   intro y0 y1 y2 y3 y4
   unfold laws_FnChains.j2
   repeat' first
   | (with_reducible exact ih0 _ _ _ _ _ _ _)
   | (with_reducible exact ih1 _)
   | (with_reducible exact ih2 _ _ _ _ _)
   | (with_reducible exact ih3 _)
   | (with_reducible exact ih4 _ _ _ _ _)
   | (with_reducible exact impl_ChainShift.mono _ _)
   | (with_reducible exact impl_LegsAt.mono _ _ _)
   | (with_reducible exact impl_LegsLength.mono _ _)
   | (with_reducible exact laws_vInts.mono _ _ _)
   | (with_reducible exact spec_ChainShift.mono _ _)
   | (with_reducible exact spec_DrawChainShift.mono _ _)
   | (with_reducible exact spec_DrawLegsAt.mono _ _)
   | (with_reducible exact spec_DrawLegsLength.mono _ _)
   | (with_reducible exact spec_LegsAt.mono _ _ _)
   | (with_reducible exact spec_LegsLength.mono _ _)
   | (with_reducible exact LeO.refl _)
   | (with_reducible exact LeO.none _)
   | (with_reducible refine LeO.ite ?_ ?_)
   | (with_reducible refine LeO.bind ?_ (fun _ => ?_))
   | exact ih0 _ _ _ _ _ _ _
   | exact ih1 _
   | exact ih2 _ _ _ _ _
   | exact ih3 _
   | exact ih4 _ _ _ _ _
   | exact impl_ChainShift.mono _ _
   | exact impl_LegsAt.mono _ _ _
   | exact impl_LegsLength.mono _ _
   | exact laws_vInts.mono _ _ _
   | exact spec_ChainShift.mono _ _
   | exact spec_DrawChainShift.mono _ _
   | exact spec_DrawLegsAt.mono _ _
   | exact spec_DrawLegsLength.mono _ _
   | exact spec_LegsAt.mono _ _ _
   | exact spec_LegsLength.mono _ _
   | exact LeO.none _
   | refine LeO.ite ?_ ?_
   | refine LeO.bind ?_ (fun _ => ?_)
  ·
   intro y0
   unfold laws_FnChains.j4
   repeat' first
   | (with_reducible exact ih0 _ _ _ _ _ _ _)
   | (with_reducible exact ih1 _)
   | (with_reducible exact ih2 _ _ _ _ _)
   | (with_reducible exact ih3 _)
   | (with_reducible exact ih4 _ _ _ _ _)
   | (with_reducible exact impl_ChainShift.mono _ _)
   | (with_reducible exact impl_LegsAt.mono _ _ _)
   | (with_reducible exact impl_LegsLength.mono _ _)
   | (with_reducible exact laws_vInts.mono _ _ _)
   | (with_reducible exact spec_ChainShift.mono _ _)
   | (with_reducible exact spec_DrawChainShift.mono _ _)
   | (with_reducible exact spec_DrawLegsAt.mono _ _)
   | (with_reducible exact spec_DrawLegsLength.mono _ _)
   | (with_reducible exact spec_LegsAt.mono _ _ _)
   | (with_reducible exact spec_LegsLength.mono _ _)
   | (with_reducible exact LeO.refl _)
   | (with_reducible exact LeO.none _)
   | (with_reducible refine LeO.ite ?_ ?_)
   | (with_reducible refine LeO.bind ?_ (fun _ => ?_))
   | exact ih0 _ _ _ _ _ _ _
   | exact ih1 _
   | exact ih2 _ _ _ _ _
   | exact ih3 _
   | exact ih4 _ _ _ _ _
   | exact impl_ChainShift.mono _ _
   | exact impl_LegsAt.mono _ _ _
   | exact impl_LegsLength.mono _ _
   | exact laws_vInts.mono _ _ _
   | exact spec_ChainShift.mono _ _
   | exact spec_DrawChainShift.mono _ _
   | exact spec_DrawLegsAt.mono _ _
   | exact spec_DrawLegsLength.mono _ _
   | exact spec_LegsAt.mono _ _ _
   | exact spec_LegsLength.mono _ _
   | exact LeO.none _
   | refine LeO.ite ?_ ?_
   | refine LeO.bind ?_ (fun _ => ?_)
  ·
   intro y0 y1 y2 y3 y4
   unfold laws_FnChains.l0
   repeat' first
   | (with_reducible exact ih0 _ _ _ _ _ _ _)
   | (with_reducible exact ih1 _)
   | (with_reducible exact ih2 _ _ _ _ _)
   | (with_reducible exact ih3 _)
   | (with_reducible exact ih4 _ _ _ _ _)
   | (with_reducible exact impl_ChainShift.mono _ _)
   | (with_reducible exact impl_LegsAt.mono _ _ _)
   | (with_reducible exact impl_LegsLength.mono _ _)
   | (with_reducible exact laws_vInts.mono _ _ _)
   | (with_reducible exact spec_ChainShift.mono _ _)
   | (with_reducible exact spec_DrawChainShift.mono _ _)
   | (with_reducible exact spec_DrawLegsAt.mono _ _)
   | (with_reducible exact spec_DrawLegsLength.mono _ _)
   | (with_reducible exact spec_LegsAt.mono _ _ _)
   | (with_reducible exact spec_LegsLength.mono _ _)
   | (with_reducible exact LeO.refl _)
   | (with_reducible exact LeO.none _)
   | (with_reducible refine LeO.ite ?_ ?_)
   | (with_reducible refine LeO.bind ?_ (fun _ => ?_))
   | exact ih0 _ _ _ _ _ _ _
   | exact ih1 _
   | exact ih2 _ _ _ _ _
   | exact ih3 _
   | exact ih4 _ _ _ _ _
   | exact impl_ChainShift.mono _ _
   | exact impl_LegsAt.mono _ _ _
   | exact impl_LegsLength.mono _ _
   | exact laws_vInts.mono _ _ _
   | exact spec_ChainShift.mono _ _
   | exact spec_DrawChainShift.mono _ _
   | exact spec_DrawLegsAt.mono _ _
   | exact spec_DrawLegsLength.mono _ _
   | exact spec_LegsAt.mono _ _ _
   | exact spec_LegsLength.mono _ _
   | exact LeO.none _
   | refine LeO.ite ?_ ?_
   | refine LeO.bind ?_ (fun _ => ?_)
theorem laws_FnChains.mono : ∀ a0 k, LeO (laws_FnChains.f k a0) (laws_FnChains.f (k + 1) a0) := by
 intro a0 k
 obtain ⟨ih0, ih1, ih2, ih3, ih4⟩ := laws_FnChains.mono_l k
 unfold laws_FnChains.f
 repeat' first
   | (with_reducible exact ih0 _ _ _ _ _ _ _)
   | (with_reducible exact ih1 _)
   | (with_reducible exact ih2 _ _ _ _ _)
   | (with_reducible exact ih3 _)
   | (with_reducible exact ih4 _ _ _ _ _)
   | (with_reducible exact impl_ChainShift.mono _ _)
   | (with_reducible exact impl_LegsAt.mono _ _ _)
   | (with_reducible exact impl_LegsLength.mono _ _)
   | (with_reducible exact laws_vInts.mono _ _ _)
   | (with_reducible exact spec_ChainShift.mono _ _)
   | (with_reducible exact spec_DrawChainShift.mono _ _)
   | (with_reducible exact spec_DrawLegsAt.mono _ _)
   | (with_reducible exact spec_DrawLegsLength.mono _ _)
   | (with_reducible exact spec_LegsAt.mono _ _ _)
   | (with_reducible exact spec_LegsLength.mono _ _)
   | (with_reducible exact LeO.refl _)
   | (with_reducible exact LeO.none _)
   | (with_reducible refine LeO.ite ?_ ?_)
   | (with_reducible refine LeO.bind ?_ (fun _ => ?_))
   | exact ih0 _ _ _ _ _ _ _
   | exact ih1 _
   | exact ih2 _ _ _ _ _
   | exact ih3 _
   | exact ih4 _ _ _ _ _
   | exact impl_ChainShift.mono _ _
   | exact impl_LegsAt.mono _ _ _
   | exact impl_LegsLength.mono _ _
   | exact laws_vInts.mono _ _ _
   | exact spec_ChainShift.mono _ _
   | exact spec_DrawChainShift.mono _ _
   | exact spec_DrawLegsAt.mono _ _
   | exact spec_DrawLegsLength.mono _ _
   | exact spec_LegsAt.mono _ _ _
   | exact spec_LegsLength.mono _ _
   | exact LeO.none _
   | refine LeO.ite ?_ ?_
   | refine LeO.bind ?_ (fun _ => ?_)
set_option maxHeartbeats 8000000 in
set_option maxRecDepth 100000 in
theorem laws_FnChains.calls (k : Nat) (A0 : Option Addr) (c0 : Nat) (l0 : List Int) (r : Bool) (w : World) (hr0 : Kd.C (Kd.int .u8) w A0 l0.length l0) (hc0 : l0.length ≤ c0) (h : laws_FnChains.f k l0 = some true) (hL : Net.Sine.Laid w) :
  Calls Tryd.prog 3 #[.slice A0 l0.length c0] w fun e w' => e = .returned (.bool true) ∧ Below w.heap.size w w' := by
 have HL := Aside0.mk hL
 clear hL
 have hu27 := Tryd.underlying27
 have HR0 := Aside0.mk hr0
 have HC0 := Aside0.mk hc0
 clear hr0 hc0
 have HB := Aside0.mk (Below.refl w.heap.size w)
 have H : ((laws_vBig.f l0).bind fun t342 => (if t342 = true then (some true) else ((spec_DrawChainShift.f k l0).bind fun t343 => ((impl_ChainShift.f k t343).bind fun bt346 => ((spec_ChainShift.f k t343).bind fun bt351 => (if (!(bt346.1 == bt351.1) || (!(bt346.2.1 == bt351.2.1) || (!(bt346.2.2.1 == bt351.2.2.1)))) = true then (laws_FnChains.j0 k l0 t343 bt346.2.2.2 true bt346.1 bt346.2.1 bt346.2.2.1) else (laws_FnChains.j0 k l0 t343 bt346.2.2.2 (bt346.2.2.2 != bt351.2.2.2) bt346.1 bt346.2.1 bt346.2.2.1))))))) = some true := h
 clear h
 replace H := Option.bind_eq_some_iff.mp H
 obtain ⟨t342, A20, H⟩ := H
 replace H : (if t342 = true then (some true) else ((spec_DrawChainShift.f k l0).bind fun t343 => ((impl_ChainShift.f k t343).bind fun bt346 => ((spec_ChainShift.f k t343).bind fun bt351 => (if (!(bt346.1 == bt351.1) || (!(bt346.2.1 == bt351.2.1) || (!(bt346.2.2.1 == bt351.2.2.1)))) = true then (laws_FnChains.j0 k l0 t343 bt346.2.2.2 true bt346.1 bt346.2.1 bt346.2.2.1) else (laws_FnChains.j0 k l0 t343 bt346.2.2.2 (bt346.2.2.2 != bt351.2.2.2) bt346.1 bt346.2.1 bt346.2.2.1)))))) = some true := H
 have A2 := Aside0.mk A20
 clear A20
 by_cases c3 : t342 = true
 ·
  subst c3
  have H1 : (some true) = some true := rfl
  clear H
  have H := H1
  clear H1
  go_enter Tryd.func3, Tryd.ntmps3
  go_wp2_with (first | ((with_reducible refine gate_callee (f := 4) rfl ?_); refine goesL_ (some 29) rfl rfl Tryd.func4 (by kernel_rfl) rfl #[.slice A0 l0.length c0] rfl (by (try simp only [List.map_toArray, List.map_cons, List.map_nil]); first | done | rfl | (simp only [List.length_drop, List.length_take]; rfl)) ?_; (with_reducible refine (laws_vBig.calls _ _ l0 true _ ?side1 ?side2 A2.out).mono ?_); (case side1 => repeat (first | exact HR0.out | (with_reducible refine Kd.C_alloc ?_ _) | (with_reducible refine Kd.C_drewN ?_ _) | (with_reducible refine Kd.C_drew ?_))); (case side2 => exact HC0.out); rintro e w' ⟨rfl, ⟨nd, rfl⟩⟩; refine ⟨_, rfl, ?_⟩))
  go_ret
  exact ⟨by first | rfl | (simp [errW_none, errW_some] <;> rfl) | (simp [*, errW_none, errW_some] <;> rfl), by repeat (first | (with_reducible first | exact HB.out | apply below_alloc | apply pw_below_drewN | apply below_drew1) | exact HB.out)⟩
 ·
  replace c3 := Bool.eq_false_iff.mpr c3
  subst c3
  have H1 : ((spec_DrawChainShift.f k l0).bind fun t343 => ((impl_ChainShift.f k t343).bind fun bt346 => ((spec_ChainShift.f k t343).bind fun bt351 => (if (!(bt346.1 == bt351.1) || (!(bt346.2.1 == bt351.2.1) || (!(bt346.2.2.1 == bt351.2.2.1)))) = true then (laws_FnChains.j0 k l0 t343 bt346.2.2.2 true bt346.1 bt346.2.1 bt346.2.2.1) else (laws_FnChains.j0 k l0 t343 bt346.2.2.2 (bt346.2.2.2 != bt351.2.2.2) bt346.1 bt346.2.1 bt346.2.2.1))))) = some true := by rw [if_neg (show ¬ (false = true) by decide)] at H; exact H
  clear H
  have H := H1
  clear H1
  replace H := Option.bind_eq_some_iff.mp H
  obtain ⟨t343, A40, H⟩ := H
  replace H : ((impl_ChainShift.f k t343).bind fun bt346 => ((spec_ChainShift.f k t343).bind fun bt351 => (if (!(bt346.1 == bt351.1) || (!(bt346.2.1 == bt351.2.1) || (!(bt346.2.2.1 == bt351.2.2.1)))) = true then (laws_FnChains.j0 k l0 t343 bt346.2.2.2 true bt346.1 bt346.2.1 bt346.2.2.1) else (laws_FnChains.j0 k l0 t343 bt346.2.2.2 (bt346.2.2.2 != bt351.2.2.2) bt346.1 bt346.2.1 bt346.2.2.1)))) = some true := H
  have A4 := Aside0.mk A40
  clear A40
  replace H := Option.bind_eq_some_iff.mp H
  obtain ⟨⟨t346, t347, t348, t349⟩, A50, H⟩ := H
  replace H : ((spec_ChainShift.f k t343).bind fun bt351 => (if (!(t346 == bt351.1) || (!(t347 == bt351.2.1) || (!(t348 == bt351.2.2.1)))) = true then (laws_FnChains.j0 k l0 t343 t349 true t346 t347 t348) else (laws_FnChains.j0 k l0 t343 t349 (t349 != bt351.2.2.2) t346 t347 t348))) = some true := H
  have A5 := Aside0.mk A50
  clear A50
  replace H := Option.bind_eq_some_iff.mp H
  obtain ⟨⟨t351, t352, t353, t354⟩, A60, H⟩ := H
  replace H : (if (!(t346 == t351) || (!(t347 == t352) || (!(t348 == t353)))) = true then (laws_FnChains.j0 k l0 t343 t349 true t346 t347 t348) else (laws_FnChains.j0 k l0 t343 t349 (t349 != t354) t346 t347 t348)) = some true := H
  have A6 := Aside0.mk A60
  clear A60
  have HC7 := Aside0.mk H
  clear H
  go_enter Tryd.func3, Tryd.ntmps3
  go_upto_region 6 with (first | ((with_reducible refine gate_callee (f := 4) rfl ?_); refine goesL_ (some 29) rfl rfl Tryd.func4 (by kernel_rfl) rfl #[.slice A0 l0.length c0] rfl (by (try simp only [List.map_toArray, List.map_cons, List.map_nil]); first | done | rfl | (simp only [List.length_drop, List.length_take]; rfl)) ?_; (with_reducible refine (laws_vBig.calls _ _ l0 false _ ?side1 ?side2 A2.out).mono ?_); (case side1 => repeat (first | exact HR0.out | (with_reducible refine Kd.C_alloc ?_ _) | (with_reducible refine Kd.C_drewN ?_ _) | (with_reducible refine Kd.C_drew ?_))); (case side2 => exact HC0.out); rintro e w' ⟨rfl, ⟨nd, rfl⟩⟩; refine ⟨_, rfl, ?_⟩) | ((with_reducible refine gate_callee (f := 5) rfl ?_); refine goesL_ (some 31) rfl rfl Tryd.func5 (by kernel_rfl) rfl #[.slice A0 l0.length c0] rfl (by (try simp only [List.map_toArray, List.map_cons, List.map_nil]); first | done | rfl | (simp only [List.length_drop, List.length_take]; rfl)) ?_; (with_reducible refine (spec_DrawChainShift.calls k _ _ l0 t343 _ ?side1 ?side2 A4.out).mono ?_); (case side1 => repeat (first | exact HR0.out | (with_reducible refine Kd.C_alloc ?_ _) | (with_reducible refine Kd.C_drewN ?_ _) | (with_reducible refine Kd.C_drew ?_))); (case side2 => exact HC0.out); rintro e w8 ⟨v344, rfl, ho0, hb⟩; refine ⟨_, rfl, ?_⟩; have n0_ := Aside0.mk (Kd.R_lower ho0 (below_size (by repeat (first | (with_reducible first | exact HB.out | apply below_alloc | apply pw_below_drewN | apply below_drew1) | exact HB.out)))); have n1_ := Aside0.mk (below_step (by repeat (first | (with_reducible first | exact HB.out | apply below_alloc | apply pw_below_drewN | apply below_drew1) | exact HB.out)) hb); clear HB; have HO345 := n0_; have HB := n1_; clear n0_ n1_; (try clear hb); (try clear hb2); (try clear hk); (try clear hi); (try clear ho0); obtain ⟨Ao9, co9, eo9⟩ := Kd.R_slice HO345.out; subst eo9) | ((with_reducible refine gate_callee (f := 6) rfl ?_); refine goesL_ (some 34) rfl rfl Tryd.func6 (by kernel_rfl) rfl #[.slice Ao9 t343.length co9] rfl (by (try simp only [List.map_toArray, List.map_cons, List.map_nil]); first | done | rfl | (simp only [List.length_drop, List.length_take]; rfl)) ?_; (with_reducible refine (impl_ChainShift.calls k _ _ t343 t346 t347 t348 t349 _ ?side1 ?side2 A5.out ?sideL).mono ?_); (case sideL => exact HL.out.keep (by repeat (first | (with_reducible first | exact HB.out | apply below_alloc | apply pw_below_drewN | apply below_drew1 | refine below_set ?_ (Aside0.out (by assumption))) | exact HB.out))); (case side1 => repeat (first | exact (Kd.R_reads' HO345.out).2.2 | (with_reducible refine Kd.C_alloc ?_ _) | (with_reducible refine Kd.C_drewN ?_ _) | (with_reducible refine Kd.C_drew ?_))); (case side2 => exact (Kd.R_reads' HO345.out).2.1); rintro e w10 ⟨rfl, hb⟩; refine ⟨_, rfl, ?_⟩; have n0_ := Aside0.mk (Kd.R_below (by (with_reducible repeat (first | apply Kd.R_alloc | apply Kd.R_drewN | apply Kd.R_drew)); exact HO345.out) hb); have n1_ := Aside0.mk (below_step (by repeat (first | (with_reducible first | exact HB.out | apply below_alloc | apply pw_below_drewN | apply below_drew1) | exact HB.out)) hb); clear HO345; clear HB; have HO345 := n0_; have HB := n1_; clear n0_ n1_; (try clear hb); (try clear hb2); (try clear hk); (try clear hi)) | ((with_reducible refine gate_dst (N := 4) rfl ?_); (try (refine gate_guard (by rfl) ?_; dsimp only)); refine box_event ?hg (N := 4) ?hd (cs := #[.int .i64 0, .int .i64 0, .int .i64 0]) (t := 27) ?hr ?_; (case hd => rfl); (case hg => rfl); (case hr => first | (go_simp; done) | (go_simp; rfl)); intro gb350 hg w11 hbox hb; have n0_ := Aside0.mk (Kd.R_below (by (with_reducible repeat (first | apply Kd.R_alloc | apply Kd.R_drewN | apply Kd.R_drew)); exact HO345.out) hb); have n1_ := Aside0.mk (below_step (by repeat (first | (with_reducible first | exact HB.out | apply below_alloc | apply pw_below_drewN | apply below_drew1) | exact HB.out)) hb); have n2_ := Aside0.mk (hbox); have n3_ := Aside0.mk ((by rw [hg]; exact (below_size (by repeat (first | (with_reducible first | exact HB.out | apply below_alloc | apply pw_below_drewN | apply below_drew1) | exact HB.out))) : w.heap.size ≤ gb350)); have n4_ := Aside0.mk ((by rw [hg]; exact (below_size (by repeat (first | (with_reducible first | exact HB.out | apply below_alloc | apply pw_below_drewN | apply below_drew1) | exact HB.out))) : w.heap.size ≤ gb350)); clear HO345; clear HB; have HO345 := n0_; have HB := n1_; have BK350 := n2_; have GW350 := n3_; have GE350 := n4_; clear n0_ n1_ n2_ n3_ n4_; clear hb hbox hg; have hcz12_0 : w11.cell? ⟨gb350, 0, none⟩ = some (.int .i64 0) := (blk_cell BK350.out 0).trans rfl; have hcz12_1 : w11.cell? ⟨gb350, 1, none⟩ = some (.int .i64 0) := (blk_cell BK350.out 1).trans rfl; have hcz12_2 : w11.cell? ⟨gb350, 2, none⟩ = some (.int .i64 0) := (blk_cell BK350.out 2).trans rfl; have hfz12_0 := blk_frozen BK350.out 0; have hfz12_1 := blk_frozen BK350.out 1; have hfz12_2 := blk_frozen BK350.out 2) | ((with_reducible refine gate_callee (f := 7) rfl ?_); refine goesL_ (some 39) rfl rfl Tryd.func7 (by kernel_rfl) rfl #[.slice Ao9 t343.length co9] rfl (by (try simp only [List.map_toArray, List.map_cons, List.map_nil]); first | done | rfl | (simp only [List.length_drop, List.length_take]; rfl)) ?_; (with_reducible refine (spec_ChainShift.calls k _ _ t343 t351 t352 t353 t354 _ ?side1 ?side2 A6.out).mono ?_); (case side1 => refine (Kd.R_reads' (e := 45) (base := w.heap.size) (ok := fun k_ => True) (n := t343.length) (c := co9) ?_).2.2; exact (by (with_reducible repeat (first | apply Kd.R_alloc | apply Kd.R_drewN | apply Kd.R_drew)); exact (Kd.R_mono (Kd.R_far (p := ⟨gb350, 2, none⟩) (Kd.R_far (p := ⟨gb350, 1, none⟩) (Kd.R_far (p := ⟨gb350, 0, none⟩) (Kd.R_types HO345.out BK350.out (by decide)) (fun _ hk => hk.2) (.int .i64 t346)) (fun _ hk => hk.2) (.int .i64 t347)) (fun _ hk => hk.2) (.int .i64 t348)) (fun _ h_ => h_.1)))); (case side2 => exact (Kd.R_reads' HO345.out).2.1); rintro e w13 ⟨rfl, hb⟩; refine ⟨_, rfl, ?_⟩; have n0_ := Aside0.mk (Kd.R_below (by (with_reducible repeat (first | apply Kd.R_alloc | apply Kd.R_drewN | apply Kd.R_drew)); exact (Kd.R_mono (Kd.R_far (p := ⟨gb350, 2, none⟩) (Kd.R_far (p := ⟨gb350, 1, none⟩) (Kd.R_far (p := ⟨gb350, 0, none⟩) (Kd.R_types HO345.out BK350.out (by decide)) (fun _ hk => hk.2) (.int .i64 t346)) (fun _ hk => hk.2) (.int .i64 t347)) (fun _ hk => hk.2) (.int .i64 t348)) (fun _ h_ => h_.1))) hb); have n1_ := Aside0.mk (blk_below (g := gb350) (o := .cells #[.int .i64 t346, .int .i64 t347, .int .i64 t348] 27 (0, 0)) (by (with_reducible repeat (first | refine blk_drewN ?_ _ | refine blk_drew ?_ | refine blk_alloc ?_ _)); refine blk_put (cs := #[.int .i64 t346, .int .i64 t347, .int .i64 0]) ?_ 2 _ rfl; (with_reducible repeat (first | refine blk_drewN ?_ _ | refine blk_drew ?_ | refine blk_alloc ?_ _)); refine blk_put (cs := #[.int .i64 t346, .int .i64 0, .int .i64 0]) ?_ 1 _ rfl; (with_reducible repeat (first | refine blk_drewN ?_ _ | refine blk_drew ?_ | refine blk_alloc ?_ _)); refine blk_put (cs := #[.int .i64 0, .int .i64 0, .int .i64 0]) ?_ 0 _ rfl; (with_reducible repeat (first | refine blk_drewN ?_ _ | refine blk_drew ?_ | refine blk_alloc ?_ _)); exact BK350.out) hb); have n2_ := Aside0.mk (below_step (by repeat (first | (with_reducible first | exact HB.out | apply below_alloc | apply pw_below_drewN | apply below_drew1 | refine below_set ?_ GE350.out) | exact HB.out)) hb); clear HO345; clear BK350; clear HB; have HO345 := n0_; have BK350 := n1_; have HB := n2_; clear n0_ n1_ n2_; (try clear hb); (try clear hb2); (try clear hk); (try clear hi)) | ((with_reducible refine gate_dst (N := 6) rfl ?_); (try (refine gate_guard (by rfl) ?_; dsimp only)); refine box_event ?hg (N := 6) ?hd (cs := #[.int .i64 0, .int .i64 0, .int .i64 0]) (t := 27) ?hr ?_; (case hd => rfl); (case hg => rfl); (case hr => first | (go_simp; done) | (go_simp; rfl)); intro gb355 hg w14 hbox hb; have n0_ := Aside0.mk (Kd.R_below (by (with_reducible repeat (first | apply Kd.R_alloc | apply Kd.R_drewN | apply Kd.R_drew)); exact HO345.out) hb); have n1_ := Aside0.mk (blk_below (g := gb350) (o := .cells #[.int .i64 t346, .int .i64 t347, .int .i64 t348] 27 (0, 0)) (by (with_reducible repeat (first | refine blk_drewN ?_ _ | refine blk_drew ?_ | refine blk_alloc ?_ _)); exact BK350.out) hb); have n2_ := Aside0.mk (below_step (by repeat (first | (with_reducible first | exact HB.out | apply below_alloc | apply pw_below_drewN | apply below_drew1 | refine below_set ?_ GE350.out) | exact HB.out)) hb); have n3_ := Aside0.mk (hbox); have n4_ := Aside0.mk ((by rw [hg]; exact (below_size (by repeat (first | (with_reducible first | exact HB.out | apply below_alloc | apply pw_below_drewN | apply below_drew1 | refine below_set ?_ GE350.out) | exact HB.out))) : w.heap.size ≤ gb355)); have n5_ := Aside0.mk ((by rw [hg]; exact (below_size (by repeat (first | (with_reducible first | exact HB.out | apply below_alloc | apply pw_below_drewN | apply below_drew1 | refine below_set ?_ GE350.out) | exact HB.out))) : w.heap.size ≤ gb355)); have n6_ := Aside0.mk ((by rw [hg]; exact Nat.ne_of_lt (blk_lt (g := gb350) (o := .cells #[.int .i64 t346, .int .i64 t347, .int .i64 t348] 27 (0, 0)) (by (with_reducible repeat (first | refine blk_drewN ?_ _ | refine blk_drew ?_ | refine blk_alloc ?_ _)); exact BK350.out)) : gb350 ≠ gb355)); have n7_ := Aside0.mk ((by rw [hg]; exact Nat.ne_of_gt (blk_lt (g := gb350) (o := .cells #[.int .i64 t346, .int .i64 t347, .int .i64 t348] 27 (0, 0)) (by (with_reducible repeat (first | refine blk_drewN ?_ _ | refine blk_drew ?_ | refine blk_alloc ?_ _)); exact BK350.out)) : gb355 ≠ gb350)); clear HO345; clear BK350; clear HB; have HO345 := n0_; have BK350 := n1_; have HB := n2_; have BK355 := n3_; have GW355 := n4_; have GE355 := n5_; have NB350_355 := n6_; have NB355_350 := n7_; clear n0_ n1_ n2_ n3_ n4_ n5_ n6_ n7_; clear hb hbox hg; have hnb15 := NB355_350.out; have hnc15 := NB350_355.out; have hcz16_0 : w14.cell? ⟨gb355, 0, none⟩ = some (.int .i64 0) := (blk_cell BK355.out 0).trans rfl; have hcz16_1 : w14.cell? ⟨gb355, 1, none⟩ = some (.int .i64 0) := (blk_cell BK355.out 1).trans rfl; have hcz16_2 : w14.cell? ⟨gb355, 2, none⟩ = some (.int .i64 0) := (blk_cell BK355.out 2).trans rfl; have hfz16_0 := blk_frozen BK355.out 0; have hfz16_1 := blk_frozen BK355.out 1; have hfz16_2 := blk_frozen BK355.out 2))
  (try simp only [Act.put, List.setIfInBounds_toArray, List.set_cons_zero, List.set_cons_succ])
  go_cut [49] (fun v49 wc => ∃ (kq : Nat) (x49_6 : Bool), v49 = .bool x49_6 ∧ Aside0 (laws_FnChains.j0 kq l0 t343 t349 x49_6 t346 t347 t348 = some true) ∧ Aside0 (kq ≤ k) ∧ Aside0 (Kd.R k45 45 wc w.heap.size (fun _ => True) (.slice Ao9 t343.length co9) t343) ∧ Aside0 (wc.heap[gb350]? = some (.cells #[.int .i64 t346, .int .i64 t347, .int .i64 t348] 27 (0, 0))) ∧ Aside0 (wc.heap[gb355]? = some (.cells #[.int .i64 t351, .int .i64 t352, .int .i64 t353] 27 (0, 0))) ∧ Aside0 (Below w.heap.size w wc))
  case first =>
   as_aux_lemma =>
    have H := HC7.out
    clear HC7
    by_cases c17 : (!(t346 == t351) || (!(t347 == t352) || (!(t348 == t353)))) = true
    ·
     rw [if_pos c17] at H
     have c17b0 : (!(t346 == t351) || (!(t347 == t352) || (!(t348 == t353)))) = true := c17
     clear c17
     (first | rw [c17b0] | (simp only [i64_w, i32_w]; rw [c17b0]) | skip)
     have H' := Aside0.mk H
     clear H
     have hnb18 := NB350_355.out
     have hnc18 := NB355_350.out
     have hcz19_0 : w14.cell? ⟨gb350, 0, none⟩ = some (.int .i64 t346) := (blk_cell BK350.out 0).trans rfl
     have hcz19_1 : w14.cell? ⟨gb350, 1, none⟩ = some (.int .i64 t347) := (blk_cell BK350.out 1).trans rfl
     have hcz19_2 : w14.cell? ⟨gb350, 2, none⟩ = some (.int .i64 t348) := (blk_cell BK350.out 2).trans rfl
     have hfz19_0 := blk_frozen BK350.out 0
     have hfz19_1 := blk_frozen BK350.out 1
     have hfz19_2 := blk_frozen BK350.out 2
     have hcz20_0 : w14.cell? ⟨gb355, 0, none⟩ = some (.int .i64 0) := (blk_cell BK355.out 0).trans rfl
     have hcz20_1 : w14.cell? ⟨gb355, 1, none⟩ = some (.int .i64 0) := (blk_cell BK355.out 1).trans rfl
     have hcz20_2 : w14.cell? ⟨gb355, 2, none⟩ = some (.int .i64 0) := (blk_cell BK355.out 2).trans rfl
     have hfz20_0 := blk_frozen BK355.out 0
     have hfz20_1 := blk_frozen BK355.out 1
     have hfz20_2 := blk_frozen BK355.out 2
     go_wp2
     go_meet
     case rel => exact ⟨_, (true), (by first | rfl | (simp; done) | (simp [*]; done)), H', ⟨by first | omega | exact Nat.le_refl _⟩, ⟨by (with_reducible repeat (first | apply Kd.R_alloc | apply Kd.R_drewN | apply Kd.R_drew)); exact Kd.R_mono (Kd.R_far (p := ⟨gb355, 2, none⟩) (Kd.R_far (p := ⟨gb355, 1, none⟩) (Kd.R_far (p := ⟨gb355, 0, none⟩) (Kd.R_types HO345.out BK355.out (by decide)) (fun _ hk => hk.2) (.int .i64 t351)) (fun _ hk => hk.2) (.int .i64 t352)) (fun _ hk => hk.2) (.int .i64 t353)) (fun _ hk => trivial)⟩, ⟨by (with_reducible repeat (first | refine blk_drewN ?_ _ | refine blk_drew ?_ | refine blk_alloc ?_ _)); refine blk_far ?_ NB350_355.out _; (with_reducible repeat (first | refine blk_drewN ?_ _ | refine blk_drew ?_ | refine blk_alloc ?_ _)); refine blk_far ?_ NB350_355.out _; (with_reducible repeat (first | refine blk_drewN ?_ _ | refine blk_drew ?_ | refine blk_alloc ?_ _)); refine blk_far ?_ NB350_355.out _; (with_reducible repeat (first | refine blk_drewN ?_ _ | refine blk_drew ?_ | refine blk_alloc ?_ _)); exact BK350.out⟩, ⟨by (with_reducible repeat (first | refine blk_drewN ?_ _ | refine blk_drew ?_ | refine blk_alloc ?_ _)); refine blk_put (cs := #[.int .i64 t351, .int .i64 t352, .int .i64 0]) ?_ 2 _ rfl; (with_reducible repeat (first | refine blk_drewN ?_ _ | refine blk_drew ?_ | refine blk_alloc ?_ _)); refine blk_put (cs := #[.int .i64 t351, .int .i64 0, .int .i64 0]) ?_ 1 _ rfl; (with_reducible repeat (first | refine blk_drewN ?_ _ | refine blk_drew ?_ | refine blk_alloc ?_ _)); refine blk_put (cs := #[.int .i64 0, .int .i64 0, .int .i64 0]) ?_ 0 _ rfl; (with_reducible repeat (first | refine blk_drewN ?_ _ | refine blk_drew ?_ | refine blk_alloc ?_ _)); exact BK355.out⟩, ⟨by repeat (first | (with_reducible first | exact HB.out | apply below_alloc | apply pw_below_drewN | apply below_drew1 | refine below_set ?_ GE350.out | refine below_set ?_ GE355.out) | exact HB.out)⟩⟩
    ·
     rw [if_neg c17] at H
     have c17b0 : (!(t346 == t351) || (!(t347 == t352) || (!(t348 == t353)))) = false := by simpa using c17
     clear c17
     (first | rw [c17b0] | (simp only [i64_w, i32_w]; rw [c17b0]) | skip)
     have H' := Aside0.mk H
     clear H
     have hnb21 := NB350_355.out
     have hnc21 := NB355_350.out
     have hcz22_0 : w14.cell? ⟨gb350, 0, none⟩ = some (.int .i64 t346) := (blk_cell BK350.out 0).trans rfl
     have hcz22_1 : w14.cell? ⟨gb350, 1, none⟩ = some (.int .i64 t347) := (blk_cell BK350.out 1).trans rfl
     have hcz22_2 : w14.cell? ⟨gb350, 2, none⟩ = some (.int .i64 t348) := (blk_cell BK350.out 2).trans rfl
     have hfz22_0 := blk_frozen BK350.out 0
     have hfz22_1 := blk_frozen BK350.out 1
     have hfz22_2 := blk_frozen BK350.out 2
     have hcz23_0 : w14.cell? ⟨gb355, 0, none⟩ = some (.int .i64 0) := (blk_cell BK355.out 0).trans rfl
     have hcz23_1 : w14.cell? ⟨gb355, 1, none⟩ = some (.int .i64 0) := (blk_cell BK355.out 1).trans rfl
     have hcz23_2 : w14.cell? ⟨gb355, 2, none⟩ = some (.int .i64 0) := (blk_cell BK355.out 2).trans rfl
     have hfz23_0 := blk_frozen BK355.out 0
     have hfz23_1 := blk_frozen BK355.out 1
     have hfz23_2 := blk_frozen BK355.out 2
     go_wp2
     go_meet
     case rel => exact ⟨_, ((t349 != t354)), (by first | rfl | (simp; done) | (simp [*]; done)), H', ⟨by first | omega | exact Nat.le_refl _⟩, ⟨by (with_reducible repeat (first | apply Kd.R_alloc | apply Kd.R_drewN | apply Kd.R_drew)); exact Kd.R_mono (Kd.R_far (p := ⟨gb355, 2, none⟩) (Kd.R_far (p := ⟨gb355, 1, none⟩) (Kd.R_far (p := ⟨gb355, 0, none⟩) (Kd.R_types HO345.out BK355.out (by decide)) (fun _ hk => hk.2) (.int .i64 t351)) (fun _ hk => hk.2) (.int .i64 t352)) (fun _ hk => hk.2) (.int .i64 t353)) (fun _ hk => trivial)⟩, ⟨by (with_reducible repeat (first | refine blk_drewN ?_ _ | refine blk_drew ?_ | refine blk_alloc ?_ _)); refine blk_far ?_ NB350_355.out _; (with_reducible repeat (first | refine blk_drewN ?_ _ | refine blk_drew ?_ | refine blk_alloc ?_ _)); refine blk_far ?_ NB350_355.out _; (with_reducible repeat (first | refine blk_drewN ?_ _ | refine blk_drew ?_ | refine blk_alloc ?_ _)); refine blk_far ?_ NB350_355.out _; (with_reducible repeat (first | refine blk_drewN ?_ _ | refine blk_drew ?_ | refine blk_alloc ?_ _)); exact BK350.out⟩, ⟨by (with_reducible repeat (first | refine blk_drewN ?_ _ | refine blk_drew ?_ | refine blk_alloc ?_ _)); refine blk_put (cs := #[.int .i64 t351, .int .i64 t352, .int .i64 0]) ?_ 2 _ rfl; (with_reducible repeat (first | refine blk_drewN ?_ _ | refine blk_drew ?_ | refine blk_alloc ?_ _)); refine blk_put (cs := #[.int .i64 t351, .int .i64 0, .int .i64 0]) ?_ 1 _ rfl; (with_reducible repeat (first | refine blk_drewN ?_ _ | refine blk_drew ?_ | refine blk_alloc ?_ _)); refine blk_put (cs := #[.int .i64 0, .int .i64 0, .int .i64 0]) ?_ 0 _ rfl; (with_reducible repeat (first | refine blk_drewN ?_ _ | refine blk_drew ?_ | refine blk_alloc ?_ _)); exact BK355.out⟩, ⟨by repeat (first | (with_reducible first | exact HB.out | apply below_alloc | apply pw_below_drewN | apply below_drew1 | refine below_set ?_ GE350.out | refine below_set ?_ GE355.out) | exact HB.out)⟩⟩
  case rest =>
   as_aux_lemma =>
    clear HC7
    try clear c1
    try clear c2
    try clear p2
    try clear c3
    try clear c4
    try clear c5
    try clear c6
    try clear c7
    try clear c15
    try clear c17
    try clear c17b0
    try clear c18
    try clear c21
    try clear hcz12_0
    try clear hcz12_1
    try clear hcz12_2
    try clear hcz16_0
    try clear hcz16_1
    try clear hcz16_2
    try clear hcz19_0
    try clear hcz19_1
    try clear hcz19_2
    try clear hcz20_0
    try clear hcz20_1
    try clear hcz20_2
    try clear hcz22_0
    try clear hcz22_1
    try clear hcz22_2
    try clear hcz23_0
    try clear hcz23_1
    try clear hcz23_2
    try clear hfz12_0
    try clear hfz12_1
    try clear hfz12_2
    try clear hfz16_0
    try clear hfz16_1
    try clear hfz16_2
    try clear hfz19_0
    try clear hfz19_1
    try clear hfz19_2
    try clear hfz20_0
    try clear hfz20_1
    try clear hfz20_2
    try clear hfz22_0
    try clear hfz22_1
    try clear hfz22_2
    try clear hfz23_0
    try clear hfz23_1
    try clear hfz23_2
    obtain ⟨kq, x49_6, rfl, HA, HJ6, HO_3, BK350, BK355, HB⟩ := hcut
    cases kq with
    | zero => exact absurd HA.out (by simp [laws_FnChains.j0])
    | succ kj6 =>
     have H := HA.out
     clear HA
     simp only [laws_FnChains.j0] at H
     by_cases c24 : x49_6 = true
     ·
      subst c24
      have H1 : (some false) = some true := by rw [if_pos rfl] at H; exact H
      clear H
      have H := H1
      clear H1
      exact absurd (Option.some.inj H) (by decide)
     ·
      replace c24 := Bool.eq_false_iff.mpr c24
      subst c24
      have H1 : (if t349 = true then (if 0 ≤ (wrap64 ((t343.length : Int) / 2)) then (if (wrap64 ((t343.length : Int) / 2)) ≤ (t343.length : Int) then ((impl_ChainShift.f kj6 (t343.take ((wrap64 ((t343.length : Int) / 2)) : Int).toNat)).bind fun bt360 => ((impl_ChainShift.f kj6 (t343.drop ((wrap64 ((t343.length : Int) / 2)) : Int).toNat)).bind fun bt369 => (if bt360.2.2.2 = true then (if bt369.2.2.2 = true then (if (wrap64 (bt360.1 + bt369.1)) = t346 then (if (wrap64 (bt360.2.1 + bt369.2.1)) = t347 then (if (wrap64 (bt360.2.2.1 + bt369.2.2.1)) = t348 then (laws_FnChains.j1 kj6 l0) else (some false)) else (some false)) else (some false)) else (some false)) else (some false)))) else (none)) else (none)) else (laws_FnChains.j1 kj6 l0)) = some true := by rw [if_neg (show ¬ (false = true) by decide)] at H; exact H
      clear H
      have H := H1
      clear H1
      have HC25 := Aside0.mk H
      clear H
      go_upto_if 50 with (fail)
      go_cut [] (fun wc => ∃ (kq : Nat), Aside0 (laws_FnChains.j1 kq l0 = some true) ∧ Aside0 (kq ≤ kj6) ∧ Aside0 (wc.heap[gb350]? = some (.cells #[.int .i64 t346, .int .i64 t347, .int .i64 t348] 27 (0, 0))) ∧ Aside0 (wc.heap[gb355]? = some (.cells #[.int .i64 t351, .int .i64 t352, .int .i64 t353] 27 (0, 0))) ∧ Aside0 (Below w.heap.size w wc))
      case first =>
       as_aux_lemma =>
        have H := HC25.out
        clear HC25
        by_cases c26 : t349 = true
        ·
         subst c26
         have H1 : (if 0 ≤ (wrap64 ((t343.length : Int) / 2)) then (if (wrap64 ((t343.length : Int) / 2)) ≤ (t343.length : Int) then ((impl_ChainShift.f kj6 (t343.take ((wrap64 ((t343.length : Int) / 2)) : Int).toNat)).bind fun bt360 => ((impl_ChainShift.f kj6 (t343.drop ((wrap64 ((t343.length : Int) / 2)) : Int).toNat)).bind fun bt369 => (if bt360.2.2.2 = true then (if bt369.2.2.2 = true then (if (wrap64 (bt360.1 + bt369.1)) = t346 then (if (wrap64 (bt360.2.1 + bt369.2.1)) = t347 then (if (wrap64 (bt360.2.2.1 + bt369.2.2.1)) = t348 then (laws_FnChains.j1 kj6 l0) else (some false)) else (some false)) else (some false)) else (some false)) else (some false)))) else (none)) else (none)) = some true := by rw [if_pos rfl] at H; exact H
         clear H
         have H := H1
         clear H1
         obtain ⟨ji27, hji27⟩ : ∃ j_ : Int, (wrap64 ((t343.length : Int) / 2)) = j_ := ⟨_, rfl⟩
         replace H : (if 0 ≤ (ji27) then (if (ji27) ≤ (t343.length : Int) then ((impl_ChainShift.f kj6 (t343.take ((ji27) : Int).toNat)).bind fun bt360 => ((impl_ChainShift.f kj6 (t343.drop ((ji27) : Int).toNat)).bind fun bt369 => (if bt360.2.2.2 = true then (if bt369.2.2.2 = true then (if (wrap64 (bt360.1 + bt369.1)) = t346 then (if (wrap64 (bt360.2.1 + bt369.2.1)) = t347 then (if (wrap64 (bt360.2.2.1 + bt369.2.2.1)) = t348 then (laws_FnChains.j1 kj6 l0) else (some false)) else (some false)) else (some false)) else (some false)) else (some false)))) else (none)) else (none)) = some true := by first | (rw [hji27] at H; exact H) | (simp only [hji27] at H ⊢; exact H)
         have hji27w : (IntKind.i64.wrap ((t343.length : Int) / 2)) = ji27 := (i64_w _).trans hji27
         by_cases c28 : 0 ≤ (ji27)
         ·
          rw [if_pos c28] at H
          have c28b0 := eq_true c28
          have c28b1 : decide (0 ≤ (ji27)) = true := decide_eq_true c28
          clear c28
          by_cases c29 : (ji27) ≤ (t343.length : Int)
          ·
           rw [if_pos c29] at H
           have c29b0 := eq_true c29
           have c29b1 : decide ((ji27) ≤ (t343.length : Int)) = true := decide_eq_true c29
           clear c29
           obtain ⟨y356, hy356⟩ : ∃ y_ : List (S45), y_ = (t343.take ((ji27) : Int).toNat) := ⟨_, rfl⟩
           replace H : ((impl_ChainShift.f kj6 y356).bind fun bt360 => ((impl_ChainShift.f kj6 (t343.drop ((ji27) : Int).toNat)).bind fun bt369 => (if bt360.2.2.2 = true then (if bt369.2.2.2 = true then (if (wrap64 (bt360.1 + bt369.1)) = t346 then (if (wrap64 (bt360.2.1 + bt369.2.1)) = t347 then (if (wrap64 (bt360.2.2.1 + bt369.2.2.1)) = t348 then (laws_FnChains.j1 kj6 l0) else (some false)) else (some false)) else (some false)) else (some false)) else (some false)))) = some true := by first | (rw [hy356]; with_reducible exact H) | (have H2_ := (Option.bind_some _ _).symm.trans H; rw [hy356]; with_reducible exact H2_) | (have H2_ := (Option.bind_some _ _).symm.trans H; with_reducible exact H2_) | with_reducible exact H | (rw [hy356]; exact H) | exact H
           have Ny356 := Aside0.mk hy356
           clear hy356
           replace H := Option.bind_eq_some_iff.mp H
           obtain ⟨⟨t360, t361, t362, t363⟩, A300, H⟩ := H
           replace H : ((impl_ChainShift.f kj6 (t343.drop ((ji27) : Int).toNat)).bind fun bt369 => (if t363 = true then (if bt369.2.2.2 = true then (if (wrap64 (t360 + bt369.1)) = t346 then (if (wrap64 (t361 + bt369.2.1)) = t347 then (if (wrap64 (t362 + bt369.2.2.1)) = t348 then (laws_FnChains.j1 kj6 l0) else (some false)) else (some false)) else (some false)) else (some false)) else (some false))) = some true := H
           have A30 := Aside0.mk A300
           clear A300
           have c31b0 := eq_true (of_decide_eq_true (by first | (with_reducible assumption) | assumption) : 0 ≤ (ji27))
           have c32b0 := eq_true (of_decide_eq_true (by first | (with_reducible assumption) | assumption) : (ji27) ≤ (t343.length : Int))
           obtain ⟨y365, hy365⟩ : ∃ y_ : List (S45), y_ = (t343.drop ((ji27) : Int).toNat) := ⟨_, rfl⟩
           replace H : ((impl_ChainShift.f kj6 y365).bind fun bt369 => (if t363 = true then (if bt369.2.2.2 = true then (if (wrap64 (t360 + bt369.1)) = t346 then (if (wrap64 (t361 + bt369.2.1)) = t347 then (if (wrap64 (t362 + bt369.2.2.1)) = t348 then (laws_FnChains.j1 kj6 l0) else (some false)) else (some false)) else (some false)) else (some false)) else (some false))) = some true := by first | (rw [hy365]; with_reducible exact H) | (have H2_ := (Option.bind_some _ _).symm.trans H; rw [hy365]; with_reducible exact H2_) | (have H2_ := (Option.bind_some _ _).symm.trans H; with_reducible exact H2_) | with_reducible exact H | (rw [hy365]; exact H) | exact H
           have Ny365 := Aside0.mk hy365
           clear hy365
           replace H := Option.bind_eq_some_iff.mp H
           obtain ⟨⟨t369, t370, t371, t372⟩, A330, H⟩ := H
           replace H : (if t363 = true then (if t372 = true then (if (wrap64 (t360 + t369)) = t346 then (if (wrap64 (t361 + t370)) = t347 then (if (wrap64 (t362 + t371)) = t348 then (laws_FnChains.j1 kj6 l0) else (some false)) else (some false)) else (some false)) else (some false)) else (some false)) = some true := H
           have A33 := Aside0.mk A330
           clear A330
           by_cases c34 : t363 = true
           ·
            subst c34
            have H1 : (if t372 = true then (if (wrap64 (t360 + t369)) = t346 then (if (wrap64 (t361 + t370)) = t347 then (if (wrap64 (t362 + t371)) = t348 then (laws_FnChains.j1 kj6 l0) else (some false)) else (some false)) else (some false)) else (some false)) = some true := by rw [if_pos rfl] at H; exact H
            clear H
            have H := H1
            clear H1
            by_cases c35 : t372 = true
            ·
             subst c35
             have H1 : (if (wrap64 (t360 + t369)) = t346 then (if (wrap64 (t361 + t370)) = t347 then (if (wrap64 (t362 + t371)) = t348 then (laws_FnChains.j1 kj6 l0) else (some false)) else (some false)) else (some false)) = some true := by rw [if_pos rfl] at H; exact H
             clear H
             have H := H1
             clear H1
             by_cases c36 : (wrap64 (t360 + t369)) = t346
             ·
              rw [if_pos c36] at H
              have c36b0 : ((wrap64 (t360 + t369)) == t346) = true := beq_iff_eq.mpr c36
              have c36b1 : ((wrap64 (t360 + t369)) != t346) = false := bne_eq_false_iff_eq.mpr c36
              clear c36
              (first | rw [c36b0] | (simp only [i64_w, i32_w]; rw [c36b0]) | skip)
              by_cases c37 : (wrap64 (t361 + t370)) = t347
              ·
               rw [if_pos c37] at H
               have c37b0 : ((wrap64 (t361 + t370)) == t347) = true := beq_iff_eq.mpr c37
               have c37b1 : ((wrap64 (t361 + t370)) != t347) = false := bne_eq_false_iff_eq.mpr c37
               clear c37
               by_cases c38 : (wrap64 (t362 + t371)) = t348
               ·
                rw [if_pos c38] at H
                have c38b0 : ((wrap64 (t362 + t371)) == t348) = true := beq_iff_eq.mpr c38
                have c38b1 : ((wrap64 (t362 + t371)) != t348) = false := bne_eq_false_iff_eq.mpr c38
                clear c38
                have H' := Aside0.mk H
                clear H
                have q39 : ((ji27) : Int) ≤ ((t343.length : Int) : Int) := of_decide_eq_true (by first | (with_reducible assumption) | assumption)
                obtain ⟨i039, hi039, _, hsz39, _⟩ := info_parts info45
                have hroom39 : t343.length ≤ co9 := (Kd.R_reads' HO_3.out).2.1
                have hC39 : Kd.C k45 _ Ao9 t343.length t343 := (Kd.R_reads' HO_3.out).2.2
                have hcut39 := cut_to (P := Tryd.prog) 24 45 .i64 Tryd.underlying24 hi039 Ao9 t343.length co9 (ji27) (of_decide_eq_true (by first | (with_reducible assumption) | assumption)) q39 hroom39
                have hr39 := Kd.C_take (m := ((ji27) : Int).toNat) hC39 (by omega)
                have hy39 : y356.length = ((ji27) : Int).toNat := (by rw [Ny356.out, List.length_take]; omega)
                rw [← Ny356.out] at hr39
                rw [← hy39] at hcut39
                have HR359 := Aside0.mk hr39
                have HC359 := Aside0.mk (show y356.length ≤ co9 from by omega)
                clear hr39 hC39 hroom39 hi039 hsz39
                have KY39 := Aside0.mk hy39
                clear hy39
                have KL39 := Aside0.mk (show ((ji27) : Int).toNat ≤ t343.length from by omega)
                replace q39 := eq_true q39
                go_wp2_with (first | ((with_reducible refine gate_callee (f := 6) rfl ?_); refine goesL_ (some 58) rfl rfl Tryd.func6 (by kernel_rfl) rfl #[.slice Ao9 y356.length co9] rfl (by (try simp only [List.map_toArray, List.map_cons, List.map_nil]); first | done | rfl | (simp only [List.length_drop, List.length_take]; rfl)) ?_; (with_reducible refine (impl_ChainShift.calls kj6 _ _ y356 t360 t361 t362 true _ ?side1 ?side2 A30.out ?sideL).mono ?_); (case sideL => exact HL.out.keep (by repeat (first | (with_reducible first | exact HB.out | apply below_alloc | apply pw_below_drewN | apply below_drew1 | refine below_set ?_ (Aside0.out (by assumption))) | exact HB.out))); (case side1 => repeat (first | exact (by repeat (first | (with_reducible exact HR359.out) | (with_reducible refine Kd.C_alloc ?_ _) | (with_reducible refine Kd.C_drewN ?_ _) | (with_reducible refine Kd.C_drew ?_) | exact HR359.out)) | (with_reducible refine Kd.C_alloc ?_ _) | (with_reducible refine Kd.C_drewN ?_ _) | (with_reducible refine Kd.C_drew ?_))); (case side2 => exact HC359.out); rintro e w40 ⟨rfl, hb⟩; refine ⟨_, rfl, ?_⟩; have n0_ := Aside0.mk (Kd.R_below (by (with_reducible repeat (first | apply Kd.R_alloc | apply Kd.R_drewN | apply Kd.R_drew)); exact HO_3.out) hb); have n1_ := Aside0.mk (blk_below (g := gb350) (o := .cells #[.int .i64 t346, .int .i64 t347, .int .i64 t348] 27 (0, 0)) (by (with_reducible repeat (first | refine blk_drewN ?_ _ | refine blk_drew ?_ | refine blk_alloc ?_ _)); exact BK350.out) hb); have n2_ := Aside0.mk (blk_below (g := gb355) (o := .cells #[.int .i64 t351, .int .i64 t352, .int .i64 t353] 27 (0, 0)) (by (with_reducible repeat (first | refine blk_drewN ?_ _ | refine blk_drew ?_ | refine blk_alloc ?_ _)); exact BK355.out) hb); have n3_ := Aside0.mk (Kd.C_below (by repeat (first | (with_reducible exact HR359.out) | (with_reducible refine Kd.C_alloc ?_ _) | (with_reducible refine Kd.C_drewN ?_ _) | (with_reducible refine Kd.C_drew ?_) | exact HR359.out)) hb); have n4_ := Aside0.mk (below_step (by repeat (first | (with_reducible first | exact HB.out | apply below_alloc | apply pw_below_drewN | apply below_drew1 | refine below_set ?_ GE350.out | refine below_set ?_ GE355.out) | exact HB.out)) hb); clear HO_3; clear BK350; clear BK355; clear HR359; clear HB; have HO_3 := n0_; have BK350 := n1_; have BK355 := n2_; have HR359 := n3_; have HB := n4_; clear n0_ n1_ n2_ n3_ n4_; (try clear hb); (try clear hb2); (try clear hk); (try clear hi)) | ((with_reducible refine gate_dst (N := 9) rfl ?_); (try (refine gate_guard (by rfl) ?_; dsimp only)); refine box_event ?hg (N := 9) ?hd (cs := #[.int .i64 0, .int .i64 0, .int .i64 0]) (t := 27) ?hr ?_; (case hd => rfl); (case hg => rfl); (case hr => first | (go_simp; done) | (go_simp; rfl)); intro gb364 hg w41 hbox hb; have n0_ := Aside0.mk (Kd.R_below (by (with_reducible repeat (first | apply Kd.R_alloc | apply Kd.R_drewN | apply Kd.R_drew)); exact HO_3.out) hb); have n1_ := Aside0.mk (blk_below (g := gb350) (o := .cells #[.int .i64 t346, .int .i64 t347, .int .i64 t348] 27 (0, 0)) (by (with_reducible repeat (first | refine blk_drewN ?_ _ | refine blk_drew ?_ | refine blk_alloc ?_ _)); exact BK350.out) hb); have n2_ := Aside0.mk (blk_below (g := gb355) (o := .cells #[.int .i64 t351, .int .i64 t352, .int .i64 t353] 27 (0, 0)) (by (with_reducible repeat (first | refine blk_drewN ?_ _ | refine blk_drew ?_ | refine blk_alloc ?_ _)); exact BK355.out) hb); have n3_ := Aside0.mk (Kd.C_below (by repeat (first | (with_reducible exact HR359.out) | (with_reducible refine Kd.C_alloc ?_ _) | (with_reducible refine Kd.C_drewN ?_ _) | (with_reducible refine Kd.C_drew ?_) | exact HR359.out)) hb); have n4_ := Aside0.mk (below_step (by repeat (first | (with_reducible first | exact HB.out | apply below_alloc | apply pw_below_drewN | apply below_drew1 | refine below_set ?_ GE350.out | refine below_set ?_ GE355.out) | exact HB.out)) hb); have n5_ := Aside0.mk (hbox); have n6_ := Aside0.mk ((by rw [hg]; exact (below_size (by repeat (first | (with_reducible first | exact HB.out | apply below_alloc | apply pw_below_drewN | apply below_drew1 | refine below_set ?_ GE350.out | refine below_set ?_ GE355.out) | exact HB.out))) : w.heap.size ≤ gb364)); have n7_ := Aside0.mk ((by rw [hg]; exact (below_size (by repeat (first | (with_reducible first | exact HB.out | apply below_alloc | apply pw_below_drewN | apply below_drew1 | refine below_set ?_ GE350.out | refine below_set ?_ GE355.out) | exact HB.out))) : w.heap.size ≤ gb364)); have n8_ := Aside0.mk ((by rw [hg]; exact Nat.ne_of_lt (blk_lt (g := gb350) (o := .cells #[.int .i64 t346, .int .i64 t347, .int .i64 t348] 27 (0, 0)) (by (with_reducible repeat (first | refine blk_drewN ?_ _ | refine blk_drew ?_ | refine blk_alloc ?_ _)); exact BK350.out)) : gb350 ≠ gb364)); have n9_ := Aside0.mk ((by rw [hg]; exact Nat.ne_of_gt (blk_lt (g := gb350) (o := .cells #[.int .i64 t346, .int .i64 t347, .int .i64 t348] 27 (0, 0)) (by (with_reducible repeat (first | refine blk_drewN ?_ _ | refine blk_drew ?_ | refine blk_alloc ?_ _)); exact BK350.out)) : gb364 ≠ gb350)); have n10_ := Aside0.mk ((by rw [hg]; exact Nat.ne_of_lt (blk_lt (g := gb355) (o := .cells #[.int .i64 t351, .int .i64 t352, .int .i64 t353] 27 (0, 0)) (by (with_reducible repeat (first | refine blk_drewN ?_ _ | refine blk_drew ?_ | refine blk_alloc ?_ _)); exact BK355.out)) : gb355 ≠ gb364)); have n11_ := Aside0.mk ((by rw [hg]; exact Nat.ne_of_gt (blk_lt (g := gb355) (o := .cells #[.int .i64 t351, .int .i64 t352, .int .i64 t353] 27 (0, 0)) (by (with_reducible repeat (first | refine blk_drewN ?_ _ | refine blk_drew ?_ | refine blk_alloc ?_ _)); exact BK355.out)) : gb364 ≠ gb355)); clear HO_3; clear BK350; clear BK355; clear HR359; clear HB; have HO_3 := n0_; have BK350 := n1_; have BK355 := n2_; have HR359 := n3_; have HB := n4_; have BK364 := n5_; have GW364 := n6_; have GE364 := n7_; have NB350_364 := n8_; have NB364_350 := n9_; have NB355_364 := n10_; have NB364_355 := n11_; clear n0_ n1_ n2_ n3_ n4_ n5_ n6_ n7_ n8_ n9_ n10_ n11_; clear hb hbox hg; have hnb42 := NB364_350.out; have hnc42 := NB350_364.out; have hnb43 := NB364_355.out; have hnc43 := NB355_364.out; have hcz44_0 : w41.cell? ⟨gb364, 0, none⟩ = some (.int .i64 0) := (blk_cell BK364.out 0).trans rfl; have hcz44_1 : w41.cell? ⟨gb364, 1, none⟩ = some (.int .i64 0) := (blk_cell BK364.out 1).trans rfl; have hcz44_2 : w41.cell? ⟨gb364, 2, none⟩ = some (.int .i64 0) := (blk_cell BK364.out 2).trans rfl; have hfz44_0 := blk_frozen BK364.out 0; have hfz44_1 := blk_frozen BK364.out 1; have hfz44_2 := blk_frozen BK364.out 2; have q45 : ((ji27) : Int) ≤ ((t343.length : Int) : Int) := of_decide_eq_true (by first | (with_reducible assumption) | assumption); obtain ⟨i045, hi045, _, hsz45, _⟩ := info_parts info45; have hroom45 : t343.length ≤ co9 := (Kd.R_reads' HO_3.out).2.1; have hC45 : Kd.C k45 _ Ao9 t343.length t343 := (Kd.R_reads' HO_3.out).2.2; have q045 : (0 : Int) ≤ ((ji27) : Int) := of_decide_eq_true (by first | (with_reducible assumption) | assumption); have hcut45 := cut_from (P := Tryd.prog) 24 45 .i64 Tryd.underlying24 hi045 5 hsz45 Ao9 t343.length co9 (ji27) q045 q45; have hr45 := Kd.C_drop (m := ((ji27) : Int).toNat) (c := co9) hC45 (by omega) hroom45; obtain ⟨A45, hA45⟩ : ∃ A1, A1 = (if co9 = ((ji27) : Int).toNat then Ao9 else (Ao9 : Option Addr).map (·.add (((ji27) : Int).toNat * 5))) := ⟨_, rfl⟩; obtain ⟨c45, hc45⟩ : ∃ c1, c1 = co9 - ((ji27) : Int).toNat := ⟨_, rfl⟩; have hy45 : y365.length = t343.length - ((ji27) : Int).toNat := (by rw [Ny365.out, List.length_drop] <;> omega); rw [show (t343).drop ((ji27) : Int).toNat = y365 from Ny365.out.symm] at hr45; replace hr45 : Kd.C k45 _ A45 y365.length y365 := (by rw [hA45]; exact hr45); rw [← hy45, ← hA45, ← hc45] at hcut45; have HR368 := Aside0.mk hr45; have HC368 := Aside0.mk (show y365.length ≤ c45 from by rw [hy45, hc45]; exact Nat.sub_le_sub_right hroom45 _); clear hr45 hC45 hroom45 hi045 hsz45 hc45; have KY45 := Aside0.mk hy45; have KA45 := Aside0.mk hA45; clear hy45 hA45; have KL45 := Aside0.mk (show ((ji27) : Int).toNat ≤ t343.length from by omega); replace q45 := eq_true q45) | ((with_reducible refine gate_callee (f := 6) rfl ?_); refine goesL_ (some 65) rfl rfl Tryd.func6 (by kernel_rfl) rfl #[.slice A45 y365.length c45] rfl (by (try simp only [List.map_toArray, List.map_cons, List.map_nil]); first | done | rfl | (simp only [List.length_drop, List.length_take]; rfl)) ?_; (with_reducible refine (impl_ChainShift.calls kj6 _ _ y365 t369 t370 t371 true _ ?side1 ?side2 A33.out ?sideL).mono ?_); (case sideL => exact HL.out.keep (by repeat (first | (with_reducible first | exact HB.out | apply below_alloc | apply pw_below_drewN | apply below_drew1 | refine below_set ?_ (Aside0.out (by assumption))) | exact HB.out))); (case side1 => repeat (first | exact ((show Kd.C k45 _ A45 y365.length y365 from by rw [Ny365.out, KA45.out]; exact Kd.C_drop (m := ((ji27) : Int).toNat) (c := co9) ((Kd.R_reads' (by (with_reducible repeat (first | apply Kd.R_alloc | apply Kd.R_drewN | apply Kd.R_drew)); exact (Kd.R_mono (Kd.R_far (p := ⟨gb364, 2, none⟩) (Kd.R_far (p := ⟨gb364, 1, none⟩) (Kd.R_far (p := ⟨gb364, 0, none⟩) (Kd.R_types HO_3.out BK364.out (by decide)) (fun _ hk => hk.2) (.int .i64 t360)) (fun _ hk => hk.2) (.int .i64 t361)) (fun _ hk => hk.2) (.int .i64 t362)) (fun _ h_ => h_.1)))).2.2) KL45.out ((Kd.R_reads' HO_3.out).2.1))) | (with_reducible refine Kd.C_alloc ?_ _) | (with_reducible refine Kd.C_drewN ?_ _) | (with_reducible refine Kd.C_drew ?_))); (case side2 => exact HC368.out); rintro e w46 ⟨rfl, hb⟩; refine ⟨_, rfl, ?_⟩; have n0_ := Aside0.mk (Kd.R_below (by (with_reducible repeat (first | apply Kd.R_alloc | apply Kd.R_drewN | apply Kd.R_drew)); exact (Kd.R_mono (Kd.R_far (p := ⟨gb364, 2, none⟩) (Kd.R_far (p := ⟨gb364, 1, none⟩) (Kd.R_far (p := ⟨gb364, 0, none⟩) (Kd.R_types HO_3.out BK364.out (by decide)) (fun _ hk => hk.2) (.int .i64 t360)) (fun _ hk => hk.2) (.int .i64 t361)) (fun _ hk => hk.2) (.int .i64 t362)) (fun _ h_ => h_.1))) hb); have n1_ := Aside0.mk (blk_below (g := gb350) (o := .cells #[.int .i64 t346, .int .i64 t347, .int .i64 t348] 27 (0, 0)) (by (with_reducible repeat (first | refine blk_drewN ?_ _ | refine blk_drew ?_ | refine blk_alloc ?_ _)); refine blk_far ?_ NB350_364.out _; (with_reducible repeat (first | refine blk_drewN ?_ _ | refine blk_drew ?_ | refine blk_alloc ?_ _)); refine blk_far ?_ NB350_364.out _; (with_reducible repeat (first | refine blk_drewN ?_ _ | refine blk_drew ?_ | refine blk_alloc ?_ _)); refine blk_far ?_ NB350_364.out _; (with_reducible repeat (first | refine blk_drewN ?_ _ | refine blk_drew ?_ | refine blk_alloc ?_ _)); exact BK350.out) hb); have n2_ := Aside0.mk (blk_below (g := gb355) (o := .cells #[.int .i64 t351, .int .i64 t352, .int .i64 t353] 27 (0, 0)) (by (with_reducible repeat (first | refine blk_drewN ?_ _ | refine blk_drew ?_ | refine blk_alloc ?_ _)); refine blk_far ?_ NB355_364.out _; (with_reducible repeat (first | refine blk_drewN ?_ _ | refine blk_drew ?_ | refine blk_alloc ?_ _)); refine blk_far ?_ NB355_364.out _; (with_reducible repeat (first | refine blk_drewN ?_ _ | refine blk_drew ?_ | refine blk_alloc ?_ _)); refine blk_far ?_ NB355_364.out _; (with_reducible repeat (first | refine blk_drewN ?_ _ | refine blk_drew ?_ | refine blk_alloc ?_ _)); exact BK355.out) hb); have n3_ := Aside0.mk (Kd.C_below ((show Kd.C k45 _ Ao9 y356.length y356 from by rw [Ny356.out]; exact Kd.C_take (m := ((ji27) : Int).toNat) ((Kd.R_reads' (by (with_reducible repeat (first | apply Kd.R_alloc | apply Kd.R_drewN | apply Kd.R_drew)); exact (Kd.R_mono (Kd.R_far (p := ⟨gb364, 2, none⟩) (Kd.R_far (p := ⟨gb364, 1, none⟩) (Kd.R_far (p := ⟨gb364, 0, none⟩) (Kd.R_types HO_3.out BK364.out (by decide)) (fun _ hk => hk.2) (.int .i64 t360)) (fun _ hk => hk.2) (.int .i64 t361)) (fun _ hk => hk.2) (.int .i64 t362)) (fun _ h_ => h_.1)))).2.2) KL39.out)) hb); have n4_ := Aside0.mk (blk_below (g := gb364) (o := .cells #[.int .i64 t360, .int .i64 t361, .int .i64 t362] 27 (0, 0)) (by (with_reducible repeat (first | refine blk_drewN ?_ _ | refine blk_drew ?_ | refine blk_alloc ?_ _)); refine blk_put (cs := #[.int .i64 t360, .int .i64 t361, .int .i64 0]) ?_ 2 _ rfl; (with_reducible repeat (first | refine blk_drewN ?_ _ | refine blk_drew ?_ | refine blk_alloc ?_ _)); refine blk_put (cs := #[.int .i64 t360, .int .i64 0, .int .i64 0]) ?_ 1 _ rfl; (with_reducible repeat (first | refine blk_drewN ?_ _ | refine blk_drew ?_ | refine blk_alloc ?_ _)); refine blk_put (cs := #[.int .i64 0, .int .i64 0, .int .i64 0]) ?_ 0 _ rfl; (with_reducible repeat (first | refine blk_drewN ?_ _ | refine blk_drew ?_ | refine blk_alloc ?_ _)); exact BK364.out) hb); have n5_ := Aside0.mk (Kd.C_below ((show Kd.C k45 _ A45 y365.length y365 from by rw [Ny365.out, KA45.out]; exact Kd.C_drop (m := ((ji27) : Int).toNat) (c := co9) ((Kd.R_reads' (by (with_reducible repeat (first | apply Kd.R_alloc | apply Kd.R_drewN | apply Kd.R_drew)); exact (Kd.R_mono (Kd.R_far (p := ⟨gb364, 2, none⟩) (Kd.R_far (p := ⟨gb364, 1, none⟩) (Kd.R_far (p := ⟨gb364, 0, none⟩) (Kd.R_types HO_3.out BK364.out (by decide)) (fun _ hk => hk.2) (.int .i64 t360)) (fun _ hk => hk.2) (.int .i64 t361)) (fun _ hk => hk.2) (.int .i64 t362)) (fun _ h_ => h_.1)))).2.2) KL45.out ((Kd.R_reads' HO_3.out).2.1))) hb); have n6_ := Aside0.mk (below_step (by repeat (first | (with_reducible first | exact HB.out | apply below_alloc | apply pw_below_drewN | apply below_drew1 | refine below_set ?_ GE350.out | refine below_set ?_ GE355.out | refine below_set ?_ GE364.out) | exact HB.out)) hb); clear HO_3; clear BK350; clear BK355; clear HR359; clear BK364; clear HR368; clear HB; have HO_3 := n0_; have BK350 := n1_; have BK355 := n2_; have HR359 := n3_; have BK364 := n4_; have HR368 := n5_; have HB := n6_; clear n0_ n1_ n2_ n3_ n4_ n5_ n6_; (try clear hb); (try clear hb2); (try clear hk); (try clear hi)) | ((with_reducible refine gate_dst (N := 11) rfl ?_); (try (refine gate_guard (by rfl) ?_; dsimp only)); refine box_event ?hg (N := 11) ?hd (cs := #[.int .i64 0, .int .i64 0, .int .i64 0]) (t := 27) ?hr ?_; (case hd => rfl); (case hg => rfl); (case hr => first | (go_simp; done) | (go_simp; rfl)); intro gb373 hg w47 hbox hb; have n0_ := Aside0.mk (Kd.R_below (by (with_reducible repeat (first | apply Kd.R_alloc | apply Kd.R_drewN | apply Kd.R_drew)); exact HO_3.out) hb); have n1_ := Aside0.mk (blk_below (g := gb350) (o := .cells #[.int .i64 t346, .int .i64 t347, .int .i64 t348] 27 (0, 0)) (by (with_reducible repeat (first | refine blk_drewN ?_ _ | refine blk_drew ?_ | refine blk_alloc ?_ _)); exact BK350.out) hb); have n2_ := Aside0.mk (blk_below (g := gb355) (o := .cells #[.int .i64 t351, .int .i64 t352, .int .i64 t353] 27 (0, 0)) (by (with_reducible repeat (first | refine blk_drewN ?_ _ | refine blk_drew ?_ | refine blk_alloc ?_ _)); exact BK355.out) hb); have n3_ := Aside0.mk (Kd.C_below (by repeat (first | (with_reducible exact HR359.out) | (with_reducible refine Kd.C_alloc ?_ _) | (with_reducible refine Kd.C_drewN ?_ _) | (with_reducible refine Kd.C_drew ?_) | exact HR359.out)) hb); have n4_ := Aside0.mk (blk_below (g := gb364) (o := .cells #[.int .i64 t360, .int .i64 t361, .int .i64 t362] 27 (0, 0)) (by (with_reducible repeat (first | refine blk_drewN ?_ _ | refine blk_drew ?_ | refine blk_alloc ?_ _)); exact BK364.out) hb); have n5_ := Aside0.mk (Kd.C_below (by repeat (first | (with_reducible exact HR368.out) | (with_reducible refine Kd.C_alloc ?_ _) | (with_reducible refine Kd.C_drewN ?_ _) | (with_reducible refine Kd.C_drew ?_) | exact HR368.out)) hb); have n6_ := Aside0.mk (below_step (by repeat (first | (with_reducible first | exact HB.out | apply below_alloc | apply pw_below_drewN | apply below_drew1 | refine below_set ?_ GE350.out | refine below_set ?_ GE355.out | refine below_set ?_ GE364.out) | exact HB.out)) hb); have n7_ := Aside0.mk (hbox); have n8_ := Aside0.mk ((by rw [hg]; exact (below_size (by repeat (first | (with_reducible first | exact HB.out | apply below_alloc | apply pw_below_drewN | apply below_drew1 | refine below_set ?_ GE350.out | refine below_set ?_ GE355.out | refine below_set ?_ GE364.out) | exact HB.out))) : w.heap.size ≤ gb373)); have n9_ := Aside0.mk ((by rw [hg]; exact (below_size (by repeat (first | (with_reducible first | exact HB.out | apply below_alloc | apply pw_below_drewN | apply below_drew1 | refine below_set ?_ GE350.out | refine below_set ?_ GE355.out | refine below_set ?_ GE364.out) | exact HB.out))) : w.heap.size ≤ gb373)); have n10_ := Aside0.mk ((by rw [hg]; exact Nat.ne_of_lt (blk_lt (g := gb350) (o := .cells #[.int .i64 t346, .int .i64 t347, .int .i64 t348] 27 (0, 0)) (by (with_reducible repeat (first | refine blk_drewN ?_ _ | refine blk_drew ?_ | refine blk_alloc ?_ _)); exact BK350.out)) : gb350 ≠ gb373)); have n11_ := Aside0.mk ((by rw [hg]; exact Nat.ne_of_gt (blk_lt (g := gb350) (o := .cells #[.int .i64 t346, .int .i64 t347, .int .i64 t348] 27 (0, 0)) (by (with_reducible repeat (first | refine blk_drewN ?_ _ | refine blk_drew ?_ | refine blk_alloc ?_ _)); exact BK350.out)) : gb373 ≠ gb350)); have n12_ := Aside0.mk ((by rw [hg]; exact Nat.ne_of_lt (blk_lt (g := gb355) (o := .cells #[.int .i64 t351, .int .i64 t352, .int .i64 t353] 27 (0, 0)) (by (with_reducible repeat (first | refine blk_drewN ?_ _ | refine blk_drew ?_ | refine blk_alloc ?_ _)); exact BK355.out)) : gb355 ≠ gb373)); have n13_ := Aside0.mk ((by rw [hg]; exact Nat.ne_of_gt (blk_lt (g := gb355) (o := .cells #[.int .i64 t351, .int .i64 t352, .int .i64 t353] 27 (0, 0)) (by (with_reducible repeat (first | refine blk_drewN ?_ _ | refine blk_drew ?_ | refine blk_alloc ?_ _)); exact BK355.out)) : gb373 ≠ gb355)); have n14_ := Aside0.mk ((by rw [hg]; exact Nat.ne_of_lt (blk_lt (g := gb364) (o := .cells #[.int .i64 t360, .int .i64 t361, .int .i64 t362] 27 (0, 0)) (by (with_reducible repeat (first | refine blk_drewN ?_ _ | refine blk_drew ?_ | refine blk_alloc ?_ _)); exact BK364.out)) : gb364 ≠ gb373)); have n15_ := Aside0.mk ((by rw [hg]; exact Nat.ne_of_gt (blk_lt (g := gb364) (o := .cells #[.int .i64 t360, .int .i64 t361, .int .i64 t362] 27 (0, 0)) (by (with_reducible repeat (first | refine blk_drewN ?_ _ | refine blk_drew ?_ | refine blk_alloc ?_ _)); exact BK364.out)) : gb373 ≠ gb364)); clear HO_3; clear BK350; clear BK355; clear HR359; clear BK364; clear HR368; clear HB; have HO_3 := n0_; have BK350 := n1_; have BK355 := n2_; have HR359 := n3_; have BK364 := n4_; have HR368 := n5_; have HB := n6_; have BK373 := n7_; have GW373 := n8_; have GE373 := n9_; have NB350_373 := n10_; have NB373_350 := n11_; have NB355_373 := n12_; have NB373_355 := n13_; have NB364_373 := n14_; have NB373_364 := n15_; clear n0_ n1_ n2_ n3_ n4_ n5_ n6_ n7_ n8_ n9_ n10_ n11_ n12_ n13_ n14_ n15_; clear hb hbox hg; have hnb48 := NB373_350.out; have hnc48 := NB350_373.out; have hnb49 := NB373_355.out; have hnc49 := NB355_373.out; have hnb50 := NB373_364.out; have hnc50 := NB364_373.out; have hcz51_0 : w47.cell? ⟨gb373, 0, none⟩ = some (.int .i64 0) := (blk_cell BK373.out 0).trans rfl; have hcz51_1 : w47.cell? ⟨gb373, 1, none⟩ = some (.int .i64 0) := (blk_cell BK373.out 1).trans rfl; have hcz51_2 : w47.cell? ⟨gb373, 2, none⟩ = some (.int .i64 0) := (blk_cell BK373.out 2).trans rfl; have hfz51_0 := blk_frozen BK373.out 0; have hfz51_1 := blk_frozen BK373.out 1; have hfz51_2 := blk_frozen BK373.out 2; have hcz52_0 : w47.cell? ⟨gb364, 0, none⟩ = some (.int .i64 t360) := (blk_cell BK364.out 0).trans rfl; have hcz52_1 : w47.cell? ⟨gb364, 1, none⟩ = some (.int .i64 t361) := (blk_cell BK364.out 1).trans rfl; have hcz52_2 : w47.cell? ⟨gb364, 2, none⟩ = some (.int .i64 t362) := (blk_cell BK364.out 2).trans rfl; have hfz52_0 := blk_frozen BK364.out 0; have hfz52_1 := blk_frozen BK364.out 1; have hfz52_2 := blk_frozen BK364.out 2; have hnb53 := NB350_355.out; have hnc53 := NB355_350.out; have hcz54_0 : w47.cell? ⟨gb350, 0, none⟩ = some (.int .i64 t346) := (blk_cell BK350.out 0).trans rfl; have hcz54_1 : w47.cell? ⟨gb350, 1, none⟩ = some (.int .i64 t347) := (blk_cell BK350.out 1).trans rfl; have hcz54_2 : w47.cell? ⟨gb350, 2, none⟩ = some (.int .i64 t348) := (blk_cell BK350.out 2).trans rfl; have hfz54_0 := blk_frozen BK350.out 0; have hfz54_1 := blk_frozen BK350.out 1; have hfz54_2 := blk_frozen BK350.out 2))
                go_meet
                case rel => exact ⟨_, H', ⟨by have := HJ6.out; first | omega | exact Nat.le_refl _⟩, ⟨by (with_reducible repeat (first | refine blk_drewN ?_ _ | refine blk_drew ?_ | refine blk_alloc ?_ _)); refine blk_far ?_ NB350_373.out _; (with_reducible repeat (first | refine blk_drewN ?_ _ | refine blk_drew ?_ | refine blk_alloc ?_ _)); refine blk_far ?_ NB350_373.out _; (with_reducible repeat (first | refine blk_drewN ?_ _ | refine blk_drew ?_ | refine blk_alloc ?_ _)); refine blk_far ?_ NB350_373.out _; (with_reducible repeat (first | refine blk_drewN ?_ _ | refine blk_drew ?_ | refine blk_alloc ?_ _)); exact BK350.out⟩, ⟨by (with_reducible repeat (first | refine blk_drewN ?_ _ | refine blk_drew ?_ | refine blk_alloc ?_ _)); refine blk_far ?_ NB355_373.out _; (with_reducible repeat (first | refine blk_drewN ?_ _ | refine blk_drew ?_ | refine blk_alloc ?_ _)); refine blk_far ?_ NB355_373.out _; (with_reducible repeat (first | refine blk_drewN ?_ _ | refine blk_drew ?_ | refine blk_alloc ?_ _)); refine blk_far ?_ NB355_373.out _; (with_reducible repeat (first | refine blk_drewN ?_ _ | refine blk_drew ?_ | refine blk_alloc ?_ _)); exact BK355.out⟩, ⟨by repeat (first | (with_reducible first | exact HB.out | apply below_alloc | apply pw_below_drewN | apply below_drew1 | refine below_set ?_ GE350.out | refine below_set ?_ GE355.out | refine below_set ?_ GE364.out | refine below_set ?_ GE373.out) | exact HB.out)⟩⟩
               ·
                rw [if_neg c38] at H
                have c38b0 : ((wrap64 (t362 + t371)) == t348) = false := beq_eq_false_iff_ne.mpr c38
                have c38b1 : ((wrap64 (t362 + t371)) != t348) = true := bne_iff_ne.mpr c38
                exact absurd (Option.some.inj H) (by decide)
              ·
               rw [if_neg c37] at H
               have c37b0 : ((wrap64 (t361 + t370)) == t347) = false := beq_eq_false_iff_ne.mpr c37
               have c37b1 : ((wrap64 (t361 + t370)) != t347) = true := bne_iff_ne.mpr c37
               exact absurd (Option.some.inj H) (by decide)
             ·
              rw [if_neg c36] at H
              have c36b0 : ((wrap64 (t360 + t369)) == t346) = false := beq_eq_false_iff_ne.mpr c36
              have c36b1 : ((wrap64 (t360 + t369)) != t346) = true := bne_iff_ne.mpr c36
              (first | rw [c36b0] | (simp only [i64_w, i32_w]; rw [c36b0]) | skip)
              exact absurd (Option.some.inj H) (by decide)
            ·
             replace c35 := Bool.eq_false_iff.mpr c35
             subst c35
             have H1 : (some false) = some true := by rw [if_neg (show ¬ (false = true) by decide)] at H; exact H
             clear H
             have H := H1
             clear H1
             exact absurd (Option.some.inj H) (by decide)
           ·
            replace c34 := Bool.eq_false_iff.mpr c34
            subst c34
            have H1 : (some false) = some true := by rw [if_neg (show ¬ (false = true) by decide)] at H; exact H
            clear H
            have H := H1
            clear H1
            exact absurd (Option.some.inj H) (by decide)
          ·
           rw [if_neg c29] at H
           exact absurd H (by simp)
         ·
          rw [if_neg c28] at H
          exact absurd H (by simp)
        ·
         replace c26 := Bool.eq_false_iff.mpr c26
         subst c26
         have H1 : (laws_FnChains.j1 kj6 l0) = some true := by rw [if_neg (show ¬ (false = true) by decide)] at H; exact H
         clear H
         have H := H1
         clear H1
         have H' := Aside0.mk H
         clear H
         go_wp2
         go_meet
         case rel => exact ⟨_, H', ⟨by have := HJ6.out; first | omega | exact Nat.le_refl _⟩, ⟨by (with_reducible repeat (first | refine blk_drewN ?_ _ | refine blk_drew ?_ | refine blk_alloc ?_ _)); exact BK350.out⟩, ⟨by (with_reducible repeat (first | refine blk_drewN ?_ _ | refine blk_drew ?_ | refine blk_alloc ?_ _)); exact BK355.out⟩, ⟨by repeat (first | (with_reducible first | exact HB.out | apply below_alloc | apply pw_below_drewN | apply below_drew1 | refine below_set ?_ GE350.out | refine below_set ?_ GE355.out) | exact HB.out)⟩⟩
      case rest =>
       as_aux_lemma =>
        clear HC25
        try clear c1
        try clear q1
        try clear c2
        try clear p2
        try clear c3
        try clear q3
        try clear c4
        try clear q4
        try clear c5
        try clear q5
        try clear c6
        try clear p6
        try clear q6
        try clear c7
        try clear q7
        try clear c8
        try clear q8
        try clear c9
        try clear q9
        try clear c10
        try clear q10
        try clear c11
        try clear q11
        try clear c12
        try clear q12
        try clear c15
        try clear c17
        try clear c17b0
        try clear c18
        try clear c21
        try clear c24
        try clear c26
        try clear c28
        try clear c28b0
        try clear c28b1
        try clear c29
        try clear c29b0
        try clear c29b1
        try clear c31
        try clear c31b0
        try clear c32
        try clear c32b0
        try clear c34
        try clear c35
        try clear c36
        try clear c36b0
        try clear c36b1
        try clear c37
        try clear c37b0
        try clear c37b1
        try clear c38
        try clear c38b0
        try clear c38b1
        try clear q39
        try clear c42
        try clear c43
        try clear c45
        try clear q45
        try clear c48
        try clear c49
        try clear c50
        try clear c53
        try clear q55
        try clear c58
        try clear c59
        try clear c61
        try clear q61
        try clear c64
        try clear p64
        try clear c65
        try clear c66
        try clear c69
        try clear q71
        try clear c74
        try clear c75
        try clear c77
        try clear q77
        try clear c80
        try clear c81
        try clear c82
        try clear c85
        try clear q87
        try clear c90
        try clear c91
        try clear c93
        try clear q93
        try clear c96
        try clear c97
        try clear c98
        try clear c101
        try clear q103
        try clear c106
        try clear c107
        try clear c109
        try clear q109
        try clear c112
        try clear c113
        try clear c114
        try clear q116
        try clear c119
        try clear c120
        try clear c122
        try clear q122
        try clear c125
        try clear c126
        try clear c127
        try clear hcz100_0
        try clear hcz100_1
        try clear hcz100_2
        try clear hcz102_0
        try clear hcz102_1
        try clear hcz102_2
        try clear hcz108_0
        try clear hcz108_1
        try clear hcz108_2
        try clear hcz115_0
        try clear hcz115_1
        try clear hcz115_2
        try clear hcz121_0
        try clear hcz121_1
        try clear hcz121_2
        try clear hcz128_0
        try clear hcz128_1
        try clear hcz128_2
        try clear hcz12_0
        try clear hcz12_1
        try clear hcz12_2
        try clear hcz16_0
        try clear hcz16_1
        try clear hcz16_2
        try clear hcz19_0
        try clear hcz19_1
        try clear hcz19_2
        try clear hcz20_0
        try clear hcz20_1
        try clear hcz20_2
        try clear hcz22_0
        try clear hcz22_1
        try clear hcz22_2
        try clear hcz23_0
        try clear hcz23_1
        try clear hcz23_2
        try clear hcz44_0
        try clear hcz44_1
        try clear hcz44_2
        try clear hcz51_0
        try clear hcz51_1
        try clear hcz51_2
        try clear hcz52_0
        try clear hcz52_1
        try clear hcz52_2
        try clear hcz54_0
        try clear hcz54_1
        try clear hcz54_2
        try clear hcz60_0
        try clear hcz60_1
        try clear hcz60_2
        try clear hcz67_0
        try clear hcz67_1
        try clear hcz67_2
        try clear hcz68_0
        try clear hcz68_1
        try clear hcz68_2
        try clear hcz70_0
        try clear hcz70_1
        try clear hcz70_2
        try clear hcz76_0
        try clear hcz76_1
        try clear hcz76_2
        try clear hcz83_0
        try clear hcz83_1
        try clear hcz83_2
        try clear hcz84_0
        try clear hcz84_1
        try clear hcz84_2
        try clear hcz86_0
        try clear hcz86_1
        try clear hcz86_2
        try clear hcz92_0
        try clear hcz92_1
        try clear hcz92_2
        try clear hcz99_0
        try clear hcz99_1
        try clear hcz99_2
        try clear hfz100_0
        try clear hfz100_1
        try clear hfz100_2
        try clear hfz102_0
        try clear hfz102_1
        try clear hfz102_2
        try clear hfz108_0
        try clear hfz108_1
        try clear hfz108_2
        try clear hfz115_0
        try clear hfz115_1
        try clear hfz115_2
        try clear hfz121_0
        try clear hfz121_1
        try clear hfz121_2
        try clear hfz128_0
        try clear hfz128_1
        try clear hfz128_2
        try clear hfz12_0
        try clear hfz12_1
        try clear hfz12_2
        try clear hfz16_0
        try clear hfz16_1
        try clear hfz16_2
        try clear hfz19_0
        try clear hfz19_1
        try clear hfz19_2
        try clear hfz20_0
        try clear hfz20_1
        try clear hfz20_2
        try clear hfz22_0
        try clear hfz22_1
        try clear hfz22_2
        try clear hfz23_0
        try clear hfz23_1
        try clear hfz23_2
        try clear hfz44_0
        try clear hfz44_1
        try clear hfz44_2
        try clear hfz51_0
        try clear hfz51_1
        try clear hfz51_2
        try clear hfz52_0
        try clear hfz52_1
        try clear hfz52_2
        try clear hfz54_0
        try clear hfz54_1
        try clear hfz54_2
        try clear hfz60_0
        try clear hfz60_1
        try clear hfz60_2
        try clear hfz67_0
        try clear hfz67_1
        try clear hfz67_2
        try clear hfz68_0
        try clear hfz68_1
        try clear hfz68_2
        try clear hfz70_0
        try clear hfz70_1
        try clear hfz70_2
        try clear hfz76_0
        try clear hfz76_1
        try clear hfz76_2
        try clear hfz83_0
        try clear hfz83_1
        try clear hfz83_2
        try clear hfz84_0
        try clear hfz84_1
        try clear hfz84_2
        try clear hfz86_0
        try clear hfz86_1
        try clear hfz86_2
        try clear hfz92_0
        try clear hfz92_1
        try clear hfz92_2
        try clear hfz99_0
        try clear hfz99_1
        try clear hfz99_2
        try clear p2
        try clear q0109
        try clear q0122
        try clear q045
        try clear q061
        try clear q077
        try clear q093
        try clear q103
        try clear q109
        try clear q116
        try clear q122
        try clear q39
        try clear q45
        try clear q55
        try clear q61
        try clear q71
        try clear q77
        try clear q87
        try clear q93
        obtain ⟨kq, HA, HJ24, BK350, BK355, HB⟩ := hcut
        cases kq with
        | zero => exact absurd HA.out (by simp [laws_FnChains.j1])
        | succ kj24 =>
         have H := HA.out
         clear HA
         simp only [laws_FnChains.j1] at H
         replace H := Option.bind_eq_some_iff.mp H
         obtain ⟨t374, A1290, H⟩ := H
         replace H : ((impl_LegsLength.f kj24 t374).bind fun bt377 => ((spec_LegsLength.f kj24 t374).bind fun bt379 => (if bt377.1 = bt379.1 then (laws_FnChains.j2 kj24 l0 t374 bt377.1 bt377.2 (bt377.2 != bt379.2)) else (laws_FnChains.j2 kj24 l0 t374 bt377.1 bt377.2 true)))) = some true := H
         have A129 := Aside0.mk A1290
         clear A1290
         replace H := Option.bind_eq_some_iff.mp H
         obtain ⟨⟨t377, t378⟩, A1300, H⟩ := H
         replace H : ((spec_LegsLength.f kj24 t374).bind fun bt379 => (if t377 = bt379.1 then (laws_FnChains.j2 kj24 l0 t374 t377 t378 (t378 != bt379.2)) else (laws_FnChains.j2 kj24 l0 t374 t377 t378 true))) = some true := H
         have A130 := Aside0.mk A1300
         clear A1300
         replace H := Option.bind_eq_some_iff.mp H
         obtain ⟨⟨t379, t380⟩, A1310, H⟩ := H
         replace H : (if t377 = t379 then (laws_FnChains.j2 kj24 l0 t374 t377 t378 (t378 != t380)) else (laws_FnChains.j2 kj24 l0 t374 t377 t378 true)) = some true := H
         have A131 := Aside0.mk A1310
         clear A1310
         have HC132 := Aside0.mk H
         clear H
         go_upto_region 17 with (first | ((with_reducible refine gate_callee (f := 8) rfl ?_); refine goesL_ (some 105) rfl rfl Tryd.func8 (by kernel_rfl) rfl #[.slice A0 l0.length c0] rfl (by (try simp only [List.map_toArray, List.map_cons, List.map_nil]); first | done | rfl | (simp only [List.length_drop, List.length_take]; rfl)) ?_; (with_reducible refine (spec_DrawLegsLength.calls kj24 _ _ l0 t374 _ ?side1 ?side2 A129.out).mono ?_); (case side1 => repeat (first | exact (Kd.C_below HR0.out HB.out) | (with_reducible refine Kd.C_alloc ?_ _) | (with_reducible refine Kd.C_drewN ?_ _) | (with_reducible refine Kd.C_drew ?_))); (case side2 => exact HC0.out); rintro e w133 ⟨v375, rfl, ho0, hb⟩; refine ⟨_, rfl, ?_⟩; have n0_ := Aside0.mk (Kd.R_lower ho0 (below_size (by repeat (first | (with_reducible first | exact HB.out | apply below_alloc | apply pw_below_drewN | apply below_drew1 | refine below_set ?_ GE350.out | refine below_set ?_ GE355.out) | exact HB.out)))); have n1_ := Aside0.mk (blk_below (g := gb350) (o := .cells #[.int .i64 t346, .int .i64 t347, .int .i64 t348] 27 (0, 0)) (by (with_reducible repeat (first | refine blk_drewN ?_ _ | refine blk_drew ?_ | refine blk_alloc ?_ _)); exact BK350.out) hb); have n2_ := Aside0.mk (blk_below (g := gb355) (o := .cells #[.int .i64 t351, .int .i64 t352, .int .i64 t353] 27 (0, 0)) (by (with_reducible repeat (first | refine blk_drewN ?_ _ | refine blk_drew ?_ | refine blk_alloc ?_ _)); exact BK355.out) hb); have n3_ := Aside0.mk (below_step (by repeat (first | (with_reducible first | exact HB.out | apply below_alloc | apply pw_below_drewN | apply below_drew1 | refine below_set ?_ GE350.out | refine below_set ?_ GE355.out) | exact HB.out)) hb); clear BK350; clear BK355; clear HB; have HO376 := n0_; have BK350 := n1_; have BK355 := n2_; have HB := n3_; clear n0_ n1_ n2_ n3_; (try clear hb); (try clear hb2); (try clear hk); (try clear hi); (try clear ho0); obtain ⟨Ao134, co134, eo134⟩ := Kd.R_slice HO376.out; subst eo134) | ((with_reducible refine gate_callee (f := 9) rfl ?_); refine goesL_ (some 108) rfl rfl Tryd.func9 (by kernel_rfl) rfl #[.slice Ao134 t374.length co134] rfl (by (try simp only [List.map_toArray, List.map_cons, List.map_nil]); first | done | rfl | (simp only [List.length_drop, List.length_take]; rfl)) ?_; (with_reducible refine (impl_LegsLength.calls kj24 _ _ t374 t377 t378 _ ?side1 ?side2 A130.out).mono ?_); (case side1 => repeat (first | exact (Kd.R_reads' HO376.out).2.2 | (with_reducible refine Kd.C_alloc ?_ _) | (with_reducible refine Kd.C_drewN ?_ _) | (with_reducible refine Kd.C_drew ?_))); (case side2 => exact (Kd.R_reads' HO376.out).2.1); rintro e w135 ⟨rfl, hb⟩; refine ⟨_, rfl, ?_⟩; have n0_ := Aside0.mk (Kd.R_below (by (with_reducible repeat (first | apply Kd.R_alloc | apply Kd.R_drewN | apply Kd.R_drew)); exact HO376.out) hb); have n1_ := Aside0.mk (blk_below (g := gb350) (o := .cells #[.int .i64 t346, .int .i64 t347, .int .i64 t348] 27 (0, 0)) (by (with_reducible repeat (first | refine blk_drewN ?_ _ | refine blk_drew ?_ | refine blk_alloc ?_ _)); exact BK350.out) hb); have n2_ := Aside0.mk (blk_below (g := gb355) (o := .cells #[.int .i64 t351, .int .i64 t352, .int .i64 t353] 27 (0, 0)) (by (with_reducible repeat (first | refine blk_drewN ?_ _ | refine blk_drew ?_ | refine blk_alloc ?_ _)); exact BK355.out) hb); have n3_ := Aside0.mk (below_step (by repeat (first | (with_reducible first | exact HB.out | apply below_alloc | apply pw_below_drewN | apply below_drew1 | refine below_set ?_ GE350.out | refine below_set ?_ GE355.out) | exact HB.out)) hb); clear HO376; clear BK350; clear BK355; clear HB; have HO376 := n0_; have BK350 := n1_; have BK355 := n2_; have HB := n3_; clear n0_ n1_ n2_ n3_; (try clear hb); (try clear hb2); (try clear hk); (try clear hi)) | ((with_reducible refine gate_callee (f := 10) rfl ?_); refine goesL_ (some 113) rfl rfl Tryd.func10 (by kernel_rfl) rfl #[.slice Ao134 t374.length co134] rfl (by (try simp only [List.map_toArray, List.map_cons, List.map_nil]); first | done | rfl | (simp only [List.length_drop, List.length_take]; rfl)) ?_; (with_reducible refine (spec_LegsLength.calls kj24 _ _ t374 t379 t380 _ ?side1 ?side2 A131.out).mono ?_); (case side1 => repeat (first | exact (Kd.R_reads' HO376.out).2.2 | (with_reducible refine Kd.C_alloc ?_ _) | (with_reducible refine Kd.C_drewN ?_ _) | (with_reducible refine Kd.C_drew ?_))); (case side2 => exact (Kd.R_reads' HO376.out).2.1); rintro e w136 ⟨rfl, hb⟩; refine ⟨_, rfl, ?_⟩; have n0_ := Aside0.mk (Kd.R_below (by (with_reducible repeat (first | apply Kd.R_alloc | apply Kd.R_drewN | apply Kd.R_drew)); exact HO376.out) hb); have n1_ := Aside0.mk (blk_below (g := gb350) (o := .cells #[.int .i64 t346, .int .i64 t347, .int .i64 t348] 27 (0, 0)) (by (with_reducible repeat (first | refine blk_drewN ?_ _ | refine blk_drew ?_ | refine blk_alloc ?_ _)); exact BK350.out) hb); have n2_ := Aside0.mk (blk_below (g := gb355) (o := .cells #[.int .i64 t351, .int .i64 t352, .int .i64 t353] 27 (0, 0)) (by (with_reducible repeat (first | refine blk_drewN ?_ _ | refine blk_drew ?_ | refine blk_alloc ?_ _)); exact BK355.out) hb); have n3_ := Aside0.mk (below_step (by repeat (first | (with_reducible first | exact HB.out | apply below_alloc | apply pw_below_drewN | apply below_drew1 | refine below_set ?_ GE350.out | refine below_set ?_ GE355.out) | exact HB.out)) hb); clear HO376; clear BK350; clear BK355; clear HB; have HO376 := n0_; have BK350 := n1_; have BK355 := n2_; have HB := n3_; clear n0_ n1_ n2_ n3_; (try clear hb); (try clear hb2); (try clear hk); (try clear hi)))
         (try simp only [Act.put, List.setIfInBounds_toArray, List.set_cons_zero, List.set_cons_succ])
         go_cut [123] (fun v123 wc => ∃ (kq : Nat) (x123_131 : Bool), v123 = .bool x123_131 ∧ Aside0 (laws_FnChains.j2 kq l0 t374 t377 t378 x123_131 = some true) ∧ Aside0 (kq ≤ kj24) ∧ Aside0 (Kd.R k45 45 wc w.heap.size (fun _ => True) (.slice Ao134 t374.length co134) t374) ∧ Aside0 (wc.heap[gb350]? = some (.cells #[.int .i64 t346, .int .i64 t347, .int .i64 t348] 27 (0, 0))) ∧ Aside0 (wc.heap[gb355]? = some (.cells #[.int .i64 t351, .int .i64 t352, .int .i64 t353] 27 (0, 0))) ∧ Aside0 (Below w.heap.size w wc))
         case first =>
          as_aux_lemma =>
           have H := HC132.out
           clear HC132
           by_cases c137 : t377 = t379
           ·
            rw [if_pos c137] at H
            have c137b0 : (t377 == t379) = true := beq_iff_eq.mpr c137
            have c137b1 : (t377 != t379) = false := bne_eq_false_iff_eq.mpr c137
            clear c137
            (first | rw [c137b0] | (simp only [i64_w, i32_w]; rw [c137b0]) | skip)
            have H' := Aside0.mk H
            clear H
            go_wp2
            go_meet
            case rel => exact ⟨_, ((t378 != t380)), (by first | rfl | (simp; done) | (simp [*]; done)), H', ⟨by have := HJ6.out; have := HJ24.out; first | omega | exact Nat.le_refl _⟩, ⟨by (with_reducible repeat (first | apply Kd.R_alloc | apply Kd.R_drewN | apply Kd.R_drew)); exact HO376.out⟩, ⟨by (with_reducible repeat (first | refine blk_drewN ?_ _ | refine blk_drew ?_ | refine blk_alloc ?_ _)); exact BK350.out⟩, ⟨by (with_reducible repeat (first | refine blk_drewN ?_ _ | refine blk_drew ?_ | refine blk_alloc ?_ _)); exact BK355.out⟩, ⟨by repeat (first | (with_reducible first | exact HB.out | apply below_alloc | apply pw_below_drewN | apply below_drew1 | refine below_set ?_ GE350.out | refine below_set ?_ GE355.out) | exact HB.out)⟩⟩
           ·
            rw [if_neg c137] at H
            have c137b0 : (t377 == t379) = false := beq_eq_false_iff_ne.mpr c137
            have c137b1 : (t377 != t379) = true := bne_iff_ne.mpr c137
            (first | rw [c137b0] | (simp only [i64_w, i32_w]; rw [c137b0]) | skip)
            exact absurd H (by cases kj24 <;> simp [laws_FnChains.j2])
         case rest =>
          as_aux_lemma =>
           clear HC132
           try clear c1
           try clear q1
           try clear c2
           try clear p2
           try clear c3
           try clear q3
           try clear c4
           try clear q4
           try clear c5
           try clear q5
           try clear c6
           try clear p6
           try clear q6
           try clear c7
           try clear q7
           try clear c8
           try clear q8
           try clear c9
           try clear q9
           try clear c10
           try clear q10
           try clear c11
           try clear q11
           try clear c12
           try clear q12
           try clear c13
           try clear c15
           try clear c17
           try clear c17b0
           try clear c18
           try clear c21
           try clear c24
           try clear c26
           try clear c28
           try clear c28b0
           try clear c28b1
           try clear c29
           try clear c29b0
           try clear c29b1
           try clear c31
           try clear c31b0
           try clear c32
           try clear c32b0
           try clear c34
           try clear c35
           try clear c36
           try clear c36b0
           try clear c36b1
           try clear c37
           try clear c37b0
           try clear c37b1
           try clear c38
           try clear c38b0
           try clear c38b1
           try clear q39
           try clear c42
           try clear c43
           try clear c45
           try clear q45
           try clear c48
           try clear c49
           try clear c50
           try clear c53
           try clear q55
           try clear c58
           try clear c59
           try clear c61
           try clear q61
           try clear c64
           try clear p64
           try clear c65
           try clear c66
           try clear c69
           try clear q71
           try clear c74
           try clear c75
           try clear c77
           try clear q77
           try clear c80
           try clear c81
           try clear c82
           try clear c85
           try clear q87
           try clear c90
           try clear c91
           try clear c93
           try clear q93
           try clear c96
           try clear c97
           try clear c98
           try clear c101
           try clear q103
           try clear c106
           try clear c107
           try clear c109
           try clear q109
           try clear c112
           try clear c113
           try clear c114
           try clear q116
           try clear c119
           try clear c120
           try clear c122
           try clear q122
           try clear c125
           try clear c126
           try clear c127
           try clear c137
           try clear c137b0
           try clear c137b1
           try clear hcz100_0
           try clear hcz100_1
           try clear hcz100_2
           try clear hcz102_0
           try clear hcz102_1
           try clear hcz102_2
           try clear hcz108_0
           try clear hcz108_1
           try clear hcz108_2
           try clear hcz115_0
           try clear hcz115_1
           try clear hcz115_2
           try clear hcz121_0
           try clear hcz121_1
           try clear hcz121_2
           try clear hcz128_0
           try clear hcz128_1
           try clear hcz128_2
           try clear hcz12_0
           try clear hcz12_1
           try clear hcz12_2
           try clear hcz16_0
           try clear hcz16_1
           try clear hcz16_2
           try clear hcz19_0
           try clear hcz19_1
           try clear hcz19_2
           try clear hcz20_0
           try clear hcz20_1
           try clear hcz20_2
           try clear hcz22_0
           try clear hcz22_1
           try clear hcz22_2
           try clear hcz23_0
           try clear hcz23_1
           try clear hcz23_2
           try clear hcz44_0
           try clear hcz44_1
           try clear hcz44_2
           try clear hcz51_0
           try clear hcz51_1
           try clear hcz51_2
           try clear hcz52_0
           try clear hcz52_1
           try clear hcz52_2
           try clear hcz54_0
           try clear hcz54_1
           try clear hcz54_2
           try clear hcz60_0
           try clear hcz60_1
           try clear hcz60_2
           try clear hcz67_0
           try clear hcz67_1
           try clear hcz67_2
           try clear hcz68_0
           try clear hcz68_1
           try clear hcz68_2
           try clear hcz70_0
           try clear hcz70_1
           try clear hcz70_2
           try clear hcz76_0
           try clear hcz76_1
           try clear hcz76_2
           try clear hcz83_0
           try clear hcz83_1
           try clear hcz83_2
           try clear hcz84_0
           try clear hcz84_1
           try clear hcz84_2
           try clear hcz86_0
           try clear hcz86_1
           try clear hcz86_2
           try clear hcz92_0
           try clear hcz92_1
           try clear hcz92_2
           try clear hcz99_0
           try clear hcz99_1
           try clear hcz99_2
           try clear hfz100_0
           try clear hfz100_1
           try clear hfz100_2
           try clear hfz102_0
           try clear hfz102_1
           try clear hfz102_2
           try clear hfz108_0
           try clear hfz108_1
           try clear hfz108_2
           try clear hfz115_0
           try clear hfz115_1
           try clear hfz115_2
           try clear hfz121_0
           try clear hfz121_1
           try clear hfz121_2
           try clear hfz128_0
           try clear hfz128_1
           try clear hfz128_2
           try clear hfz12_0
           try clear hfz12_1
           try clear hfz12_2
           try clear hfz16_0
           try clear hfz16_1
           try clear hfz16_2
           try clear hfz19_0
           try clear hfz19_1
           try clear hfz19_2
           try clear hfz20_0
           try clear hfz20_1
           try clear hfz20_2
           try clear hfz22_0
           try clear hfz22_1
           try clear hfz22_2
           try clear hfz23_0
           try clear hfz23_1
           try clear hfz23_2
           try clear hfz44_0
           try clear hfz44_1
           try clear hfz44_2
           try clear hfz51_0
           try clear hfz51_1
           try clear hfz51_2
           try clear hfz52_0
           try clear hfz52_1
           try clear hfz52_2
           try clear hfz54_0
           try clear hfz54_1
           try clear hfz54_2
           try clear hfz60_0
           try clear hfz60_1
           try clear hfz60_2
           try clear hfz67_0
           try clear hfz67_1
           try clear hfz67_2
           try clear hfz68_0
           try clear hfz68_1
           try clear hfz68_2
           try clear hfz70_0
           try clear hfz70_1
           try clear hfz70_2
           try clear hfz76_0
           try clear hfz76_1
           try clear hfz76_2
           try clear hfz83_0
           try clear hfz83_1
           try clear hfz83_2
           try clear hfz84_0
           try clear hfz84_1
           try clear hfz84_2
           try clear hfz86_0
           try clear hfz86_1
           try clear hfz86_2
           try clear hfz92_0
           try clear hfz92_1
           try clear hfz92_2
           try clear hfz99_0
           try clear hfz99_1
           try clear hfz99_2
           try clear p2
           try clear p6
           try clear p64
           try clear q0109
           try clear q0122
           try clear q045
           try clear q061
           try clear q077
           try clear q093
           try clear q1
           try clear q10
           try clear q103
           try clear q109
           try clear q11
           try clear q116
           try clear q12
           try clear q122
           try clear q3
           try clear q39
           try clear q4
           try clear q45
           try clear q5
           try clear q55
           try clear q6
           try clear q61
           try clear q7
           try clear q71
           try clear q77
           try clear q8
           try clear q87
           try clear q9
           try clear q93
           obtain ⟨kq, x123_131, rfl, HA, HJ131, HO_13, BK350, BK355, HB⟩ := hcut
           cases kq with
           | zero => exact absurd HA.out (by simp [laws_FnChains.j2])
           | succ kj131 =>
            have H := HA.out
            clear HA
            simp only [laws_FnChains.j2] at H
            by_cases c138 : x123_131 = true
            ·
             subst c138
             have H1 : (some false) = some true := by rw [if_pos rfl] at H; exact H
             clear H
             have H := H1
             clear H1
             exact absurd (Option.some.inj H) (by decide)
            ·
             replace c138 := Bool.eq_false_iff.mpr c138
             subst c138
             have H1 : (if t378 = true then (laws_FnChains.l0 kj131 l0 t374 t377 0 0) else (laws_FnChains.j4 kj131 l0)) = some true := by rw [if_neg (show ¬ (false = true) by decide)] at H; exact H
             clear H
             have H := H1
             clear H1
             have HC139 := Aside0.mk H
             clear H
             go_upto_if 124 with (fail)
             go_cut [] (fun wc => ∃ (kq : Nat), Aside0 (laws_FnChains.j4 kq l0 = some true) ∧ Aside0 (kq ≤ kj131) ∧ Aside0 (wc.heap[gb350]? = some (.cells #[.int .i64 t346, .int .i64 t347, .int .i64 t348] 27 (0, 0))) ∧ Aside0 (wc.heap[gb355]? = some (.cells #[.int .i64 t351, .int .i64 t352, .int .i64 t353] 27 (0, 0))) ∧ Aside0 (Below w.heap.size w wc))
             case first =>
              as_aux_lemma =>
               have H := HC139.out
               clear HC139
               by_cases c140 : t378 = true
               ·
                subst c140
                have H1 : (laws_FnChains.l0 kj131 l0 t374 t377 0 0) = some true := by rw [if_pos rfl] at H; exact H
                clear H
                have H := H1
                clear H1
                have H' := Aside0.mk H
                clear H
                go_wp2
                go_loopg [18, 19] kj131 (fun kq v18 v19 w' => ∃ (x18_4 : Int) (x19_4 : Int), v18 = .int .i64 x18_4 ∧ v19 = .int .i64 x19_4 ∧ Aside0 (laws_FnChains.l0 kq l0 t374 t377 x18_4 x19_4 = some true) ∧ Aside0 (kq ≤ kj131) ∧ Aside0 (Kd.R k45 45 w' w.heap.size (fun _ => True) (.slice Ao134 t374.length co134) t374) ∧ Aside0 (w'.heap[gb350]? = some (.cells #[.int .i64 t346, .int .i64 t347, .int .i64 t348] 27 (0, 0))) ∧ Aside0 (w'.heap[gb355]? = some (.cells #[.int .i64 t351, .int .i64 t352, .int .i64 t353] 27 (0, 0))) ∧ Aside0 (Below w.heap.size w w'))
                case atStart => exact ⟨(0), (0), (by first | rfl | (simp; done) | (simp [*]; done)), (by first | rfl | (simp; done) | (simp [*]; done)), H', ⟨Nat.le_refl _⟩, ⟨by (with_reducible repeat (first | apply Kd.R_alloc | apply Kd.R_drewN | apply Kd.R_drew)); exact HO_13.out⟩, ⟨by (with_reducible repeat (first | refine blk_drewN ?_ _ | refine blk_drew ?_ | refine blk_alloc ?_ _)); exact BK350.out⟩, ⟨by (with_reducible repeat (first | refine blk_drewN ?_ _ | refine blk_drew ?_ | refine blk_alloc ?_ _)); exact BK355.out⟩, ⟨by repeat (first | (with_reducible first | exact HB.out | apply below_alloc | apply pw_below_drewN | apply below_drew1 | refine below_set ?_ GE350.out | refine below_set ?_ GE355.out) | exact HB.out)⟩⟩
                case round =>
                 clear H'
                 try clear c1
                 try clear q1
                 try clear c2
                 try clear p2
                 try clear c3
                 try clear q3
                 try clear c4
                 try clear q4
                 try clear c5
                 try clear q5
                 try clear c6
                 try clear p6
                 try clear q6
                 try clear c7
                 try clear q7
                 try clear c8
                 try clear q8
                 try clear c9
                 try clear q9
                 try clear c10
                 try clear q10
                 try clear c11
                 try clear q11
                 try clear c12
                 try clear q12
                 try clear c13
                 try clear c14
                 try clear c15
                 try clear c17
                 try clear c17b0
                 try clear c18
                 try clear c21
                 try clear c24
                 try clear c26
                 try clear c28
                 try clear c28b0
                 try clear c28b1
                 try clear c29
                 try clear c29b0
                 try clear c29b1
                 try clear c31
                 try clear c31b0
                 try clear c32
                 try clear c32b0
                 try clear c34
                 try clear c35
                 try clear c36
                 try clear c36b0
                 try clear c36b1
                 try clear c37
                 try clear c37b0
                 try clear c37b1
                 try clear c38
                 try clear c38b0
                 try clear c38b1
                 try clear q39
                 try clear c42
                 try clear c43
                 try clear c45
                 try clear q45
                 try clear c48
                 try clear c49
                 try clear c50
                 try clear c53
                 try clear q55
                 try clear c58
                 try clear c59
                 try clear c61
                 try clear q61
                 try clear c64
                 try clear p64
                 try clear c65
                 try clear c66
                 try clear c69
                 try clear q71
                 try clear c74
                 try clear c75
                 try clear c77
                 try clear q77
                 try clear c80
                 try clear c81
                 try clear c82
                 try clear c85
                 try clear q87
                 try clear c90
                 try clear c91
                 try clear c93
                 try clear q93
                 try clear c96
                 try clear c97
                 try clear c98
                 try clear c101
                 try clear q103
                 try clear c106
                 try clear c107
                 try clear c109
                 try clear q109
                 try clear c112
                 try clear c113
                 try clear c114
                 try clear q116
                 try clear c119
                 try clear c120
                 try clear c122
                 try clear q122
                 try clear c125
                 try clear c126
                 try clear c127
                 try clear c137
                 try clear c137b0
                 try clear c137b1
                 try clear c138
                 try clear c140
                 try clear hcz100_0
                 try clear hcz100_1
                 try clear hcz100_2
                 try clear hcz102_0
                 try clear hcz102_1
                 try clear hcz102_2
                 try clear hcz108_0
                 try clear hcz108_1
                 try clear hcz108_2
                 try clear hcz115_0
                 try clear hcz115_1
                 try clear hcz115_2
                 try clear hcz121_0
                 try clear hcz121_1
                 try clear hcz121_2
                 try clear hcz128_0
                 try clear hcz128_1
                 try clear hcz128_2
                 try clear hcz12_0
                 try clear hcz12_1
                 try clear hcz12_2
                 try clear hcz16_0
                 try clear hcz16_1
                 try clear hcz16_2
                 try clear hcz19_0
                 try clear hcz19_1
                 try clear hcz19_2
                 try clear hcz20_0
                 try clear hcz20_1
                 try clear hcz20_2
                 try clear hcz22_0
                 try clear hcz22_1
                 try clear hcz22_2
                 try clear hcz23_0
                 try clear hcz23_1
                 try clear hcz23_2
                 try clear hcz44_0
                 try clear hcz44_1
                 try clear hcz44_2
                 try clear hcz51_0
                 try clear hcz51_1
                 try clear hcz51_2
                 try clear hcz52_0
                 try clear hcz52_1
                 try clear hcz52_2
                 try clear hcz54_0
                 try clear hcz54_1
                 try clear hcz54_2
                 try clear hcz60_0
                 try clear hcz60_1
                 try clear hcz60_2
                 try clear hcz67_0
                 try clear hcz67_1
                 try clear hcz67_2
                 try clear hcz68_0
                 try clear hcz68_1
                 try clear hcz68_2
                 try clear hcz70_0
                 try clear hcz70_1
                 try clear hcz70_2
                 try clear hcz76_0
                 try clear hcz76_1
                 try clear hcz76_2
                 try clear hcz83_0
                 try clear hcz83_1
                 try clear hcz83_2
                 try clear hcz84_0
                 try clear hcz84_1
                 try clear hcz84_2
                 try clear hcz86_0
                 try clear hcz86_1
                 try clear hcz86_2
                 try clear hcz92_0
                 try clear hcz92_1
                 try clear hcz92_2
                 try clear hcz99_0
                 try clear hcz99_1
                 try clear hcz99_2
                 try clear hfz100_0
                 try clear hfz100_1
                 try clear hfz100_2
                 try clear hfz102_0
                 try clear hfz102_1
                 try clear hfz102_2
                 try clear hfz108_0
                 try clear hfz108_1
                 try clear hfz108_2
                 try clear hfz115_0
                 try clear hfz115_1
                 try clear hfz115_2
                 try clear hfz121_0
                 try clear hfz121_1
                 try clear hfz121_2
                 try clear hfz128_0
                 try clear hfz128_1
                 try clear hfz128_2
                 try clear hfz12_0
                 try clear hfz12_1
                 try clear hfz12_2
                 try clear hfz16_0
                 try clear hfz16_1
                 try clear hfz16_2
                 try clear hfz19_0
                 try clear hfz19_1
                 try clear hfz19_2
                 try clear hfz20_0
                 try clear hfz20_1
                 try clear hfz20_2
                 try clear hfz22_0
                 try clear hfz22_1
                 try clear hfz22_2
                 try clear hfz23_0
                 try clear hfz23_1
                 try clear hfz23_2
                 try clear hfz44_0
                 try clear hfz44_1
                 try clear hfz44_2
                 try clear hfz51_0
                 try clear hfz51_1
                 try clear hfz51_2
                 try clear hfz52_0
                 try clear hfz52_1
                 try clear hfz52_2
                 try clear hfz54_0
                 try clear hfz54_1
                 try clear hfz54_2
                 try clear hfz60_0
                 try clear hfz60_1
                 try clear hfz60_2
                 try clear hfz67_0
                 try clear hfz67_1
                 try clear hfz67_2
                 try clear hfz68_0
                 try clear hfz68_1
                 try clear hfz68_2
                 try clear hfz70_0
                 try clear hfz70_1
                 try clear hfz70_2
                 try clear hfz76_0
                 try clear hfz76_1
                 try clear hfz76_2
                 try clear hfz83_0
                 try clear hfz83_1
                 try clear hfz83_2
                 try clear hfz84_0
                 try clear hfz84_1
                 try clear hfz84_2
                 try clear hfz86_0
                 try clear hfz86_1
                 try clear hfz86_2
                 try clear hfz92_0
                 try clear hfz92_1
                 try clear hfz92_2
                 try clear hfz99_0
                 try clear hfz99_1
                 try clear hfz99_2
                 try clear p2
                 try clear p6
                 try clear p64
                 try clear q0109
                 try clear q0122
                 try clear q045
                 try clear q061
                 try clear q077
                 try clear q093
                 try clear q1
                 try clear q10
                 try clear q103
                 try clear q109
                 try clear q11
                 try clear q116
                 try clear q12
                 try clear q122
                 try clear q3
                 try clear q39
                 try clear q4
                 try clear q45
                 try clear q5
                 try clear q55
                 try clear q6
                 try clear q61
                 try clear q7
                 try clear q71
                 try clear q77
                 try clear q8
                 try clear q87
                 try clear q9
                 try clear q93
                 obtain ⟨x18_4, x19_4, rfl, rfl, HA, HK4, HO_13, BK350, BK355, HB⟩ := hrel
                 cases gk with
                 | zero => exact absurd HA.out (by simp [laws_FnChains.l0])
                 | succ k4 =>
                  have H := HA.out
                  clear HA
                  simp only [laws_FnChains.l0] at H
                  by_cases c141 : x19_4 < 8
                  ·
                   rw [if_pos c141] at H
                   have c141b0 : decide (x19_4 < 8) = true := decide_eq_true c141
                   clear c141
                   (first | rw [c141b0] | (simp only [i64_w, i32_w]; rw [c141b0]) | skip)
                   replace H := Option.bind_eq_some_iff.mp H
                   obtain ⟨⟨t381, t382⟩, A1420, H⟩ := H
                   replace H : (if t382 = true then (laws_FnChains.l0 k4 l0 t374 t377 (wrap64 (x18_4 + (t381.length : Int))) (wrap64 (x19_4 + 1))) else (some false)) = some true := H
                   have A142 := Aside0.mk A1420
                   clear A1420
                   by_cases c143 : t382 = true
                   ·
                    subst c143
                    have H1 : (laws_FnChains.l0 k4 l0 t374 t377 (wrap64 (x18_4 + (t381.length : Int))) (wrap64 (x19_4 + 1))) = some true := by rw [if_pos rfl] at H; exact H
                    clear H
                    have H := H1
                    clear H1
                    have H' := Aside0.mk H
                    clear H
                    go_wp2_with (first | ((with_reducible refine gate_callee (f := 11) rfl ?_); refine goesL_ (some 132) rfl rfl Tryd.func11 (by kernel_rfl) rfl #[.slice Ao134 t374.length co134, .int .i64 x19_4] rfl (by (try simp only [List.map_toArray, List.map_cons, List.map_nil]); first | done | rfl | (simp only [List.length_drop, List.length_take]; rfl)) ?_; (with_reducible refine (impl_LegsAt.calls k4 _ _ t374 x19_4 t381 true _ ?side1 ?side2 A142.out).mono ?_); (case side1 => repeat (first | exact (Kd.R_reads' HO_13.out).2.2 | (with_reducible refine Kd.C_alloc ?_ _) | (with_reducible refine Kd.C_drewN ?_ _) | (with_reducible refine Kd.C_drew ?_))); (case side2 => exact (Kd.R_reads' HO_13.out).2.1); rintro e w144 ⟨v383, rfl, ho0, hb⟩; refine ⟨_, rfl, ?_⟩; have n0_ := Aside0.mk (Kd.R_below (by (with_reducible repeat (first | apply Kd.R_alloc | apply Kd.R_drewN | apply Kd.R_drew)); exact HO_13.out) hb); have n1_ := Aside0.mk (Kd.R_lower ho0 (below_size (by repeat (first | (with_reducible first | exact HB.out | apply below_alloc | apply pw_below_drewN | apply below_drew1 | refine below_set ?_ GE350.out | refine below_set ?_ GE355.out) | exact HB.out)))); have n2_ := Aside0.mk (blk_below (g := gb350) (o := .cells #[.int .i64 t346, .int .i64 t347, .int .i64 t348] 27 (0, 0)) (by (with_reducible repeat (first | refine blk_drewN ?_ _ | refine blk_drew ?_ | refine blk_alloc ?_ _)); exact BK350.out) hb); have n3_ := Aside0.mk (blk_below (g := gb355) (o := .cells #[.int .i64 t351, .int .i64 t352, .int .i64 t353] 27 (0, 0)) (by (with_reducible repeat (first | refine blk_drewN ?_ _ | refine blk_drew ?_ | refine blk_alloc ?_ _)); exact BK355.out) hb); have n4_ := Aside0.mk (below_step (by repeat (first | (with_reducible first | exact HB.out | apply below_alloc | apply pw_below_drewN | apply below_drew1 | refine below_set ?_ GE350.out | refine below_set ?_ GE355.out) | exact HB.out)) hb); clear HO_13; clear BK350; clear BK355; clear HB; have HO_13 := n0_; have HO384 := n1_; have BK350 := n2_; have BK355 := n3_; have HB := n4_; clear n0_ n1_ n2_ n3_ n4_; (try clear hb); (try clear hb2); (try clear hk); (try clear hi); (try clear ho0); obtain ⟨Ao145, co145, eo145⟩ := Kd.R_slice HO384.out; subst eo145))
                    go_roundg k4
                    case measure => have := HJ6.out; have := HJ24.out; have := HJ131.out; have := HK4.out; omega
                    case rel => exact ⟨(wrap64 (x18_4 + (t381.length : Int))), (wrap64 (x19_4 + 1)), (by first | rfl | (simp; done) | (simp [*]; done)), (by first | rfl | (simp; done) | (simp [*]; done)), H', ⟨by have := HJ6.out; have := HJ24.out; have := HJ131.out; have := HK4.out; omega⟩, ⟨by (with_reducible repeat (first | apply Kd.R_alloc | apply Kd.R_drewN | apply Kd.R_drew)); exact HO_13.out⟩, ⟨by (with_reducible repeat (first | refine blk_drewN ?_ _ | refine blk_drew ?_ | refine blk_alloc ?_ _)); exact BK350.out⟩, ⟨by (with_reducible repeat (first | refine blk_drewN ?_ _ | refine blk_drew ?_ | refine blk_alloc ?_ _)); exact BK355.out⟩, ⟨by repeat (first | (with_reducible first | exact HB.out | apply below_alloc | apply pw_below_drewN | apply below_drew1 | refine below_set ?_ GE350.out | refine below_set ?_ GE355.out) | exact HB.out)⟩⟩
                   ·
                    replace c143 := Bool.eq_false_iff.mpr c143
                    subst c143
                    have H1 : (some false) = some true := by rw [if_neg (show ¬ (false = true) by decide)] at H; exact H
                    clear H
                    have H := H1
                    clear H1
                    exact absurd (Option.some.inj H) (by decide)
                  ·
                   rw [if_neg c141] at H
                   have c141b0 : decide (x19_4 < 8) = false := decide_eq_false c141
                   clear c141
                   (first | rw [c141b0] | (simp only [i64_w, i32_w]; rw [c141b0]) | skip)
                   by_cases c147 : x18_4 = (wrap64 (2 * (t374.length : Int)))
                   ·
                    rw [if_pos c147] at H
                    have c147b0 : (x18_4 == (wrap64 (2 * (t374.length : Int)))) = true := beq_iff_eq.mpr c147
                    have c147b1 : (x18_4 != (wrap64 (2 * (t374.length : Int)))) = false := bne_eq_false_iff_eq.mpr c147
                    clear c147
                    by_cases c148 : t377 < (t374.length : Int)
                    ·
                     rw [if_pos c148] at H
                     have c148b0 : decide (t377 < (t374.length : Int)) = true := decide_eq_true c148
                     clear c148
                     try exact absurd (Option.some.inj H) (by decide)
                     all_goals (have hr_ := Option.some.inj H)
                     all_goals go_wp2
                     all_goals go_ret
                     all_goals exact ⟨by first | rfl | (simp [errW_none, errW_some] <;> rfl) | (simp [*, errW_none, errW_some] <;> rfl), by repeat (first | (with_reducible first | exact HB.out | apply below_alloc | apply pw_below_drewN | apply below_drew1 | refine below_set ?_ GE350.out | refine below_set ?_ GE355.out) | exact HB.out)⟩
                    ·
                     rw [if_neg c148] at H
                     have c148b0 : decide (t377 < (t374.length : Int)) = false := decide_eq_false c148
                     clear c148
                     have H' := Aside0.mk H
                     clear H
                     go_wp2
                     go_meet
                     case rel => exact ⟨_, H', ⟨by have := HJ6.out; have := HJ24.out; have := HJ131.out; have := HK4.out; first | omega | exact Nat.le_refl _⟩, ⟨by (with_reducible repeat (first | refine blk_drewN ?_ _ | refine blk_drew ?_ | refine blk_alloc ?_ _)); exact BK350.out⟩, ⟨by (with_reducible repeat (first | refine blk_drewN ?_ _ | refine blk_drew ?_ | refine blk_alloc ?_ _)); exact BK355.out⟩, ⟨by repeat (first | (with_reducible first | exact HB.out | apply below_alloc | apply pw_below_drewN | apply below_drew1 | refine below_set ?_ GE350.out | refine below_set ?_ GE355.out) | exact HB.out)⟩⟩
                   ·
                    rw [if_neg c147] at H
                    have c147b0 : (x18_4 == (wrap64 (2 * (t374.length : Int)))) = false := beq_eq_false_iff_ne.mpr c147
                    have c147b1 : (x18_4 != (wrap64 (2 * (t374.length : Int)))) = true := bne_iff_ne.mpr c147
                    try exact absurd (Option.some.inj H) (by decide)
                    all_goals (have hr_ := Option.some.inj H)
                    all_goals go_wp2
                    all_goals go_ret
                    all_goals exact ⟨by first | rfl | (simp [errW_none, errW_some] <;> rfl) | (simp [*, errW_none, errW_some] <;> rfl), by repeat (first | (with_reducible first | exact HB.out | apply below_alloc | apply pw_below_drewN | apply below_drew1 | refine below_set ?_ GE350.out | refine below_set ?_ GE355.out) | exact HB.out)⟩
               ·
                replace c140 := Bool.eq_false_iff.mpr c140
                subst c140
                have H1 : (laws_FnChains.j4 kj131 l0) = some true := by rw [if_neg (show ¬ (false = true) by decide)] at H; exact H
                clear H
                have H := H1
                clear H1
                have H' := Aside0.mk H
                clear H
                go_wp2
                go_meet
                case rel => exact ⟨_, H', ⟨by have := HJ6.out; have := HJ24.out; have := HJ131.out; first | omega | exact Nat.le_refl _⟩, ⟨by (with_reducible repeat (first | refine blk_drewN ?_ _ | refine blk_drew ?_ | refine blk_alloc ?_ _)); exact BK350.out⟩, ⟨by (with_reducible repeat (first | refine blk_drewN ?_ _ | refine blk_drew ?_ | refine blk_alloc ?_ _)); exact BK355.out⟩, ⟨by repeat (first | (with_reducible first | exact HB.out | apply below_alloc | apply pw_below_drewN | apply below_drew1 | refine below_set ?_ GE350.out | refine below_set ?_ GE355.out) | exact HB.out)⟩⟩
             case rest =>
              as_aux_lemma =>
               clear HC139
               try clear c1
               try clear q1
               try clear c2
               try clear p2
               try clear c3
               try clear q3
               try clear c4
               try clear q4
               try clear c5
               try clear q5
               try clear c6
               try clear p6
               try clear q6
               try clear c7
               try clear q7
               try clear c8
               try clear q8
               try clear c9
               try clear q9
               try clear c10
               try clear q10
               try clear c11
               try clear q11
               try clear c12
               try clear q12
               try clear c13
               try clear c14
               try clear c15
               try clear c17
               try clear c17b0
               try clear c18
               try clear c21
               try clear c24
               try clear c26
               try clear c28
               try clear c28b0
               try clear c28b1
               try clear c29
               try clear c29b0
               try clear c29b1
               try clear c31
               try clear c31b0
               try clear c32
               try clear c32b0
               try clear c34
               try clear c35
               try clear c36
               try clear c36b0
               try clear c36b1
               try clear c37
               try clear c37b0
               try clear c37b1
               try clear c38
               try clear c38b0
               try clear c38b1
               try clear q39
               try clear c42
               try clear c43
               try clear c45
               try clear q45
               try clear c48
               try clear c49
               try clear c50
               try clear c53
               try clear q55
               try clear c58
               try clear c59
               try clear c61
               try clear q61
               try clear c64
               try clear p64
               try clear c65
               try clear c66
               try clear c69
               try clear q71
               try clear c74
               try clear c75
               try clear c77
               try clear q77
               try clear c80
               try clear c81
               try clear c82
               try clear c85
               try clear q87
               try clear c90
               try clear c91
               try clear c93
               try clear q93
               try clear c96
               try clear c97
               try clear c98
               try clear c101
               try clear q103
               try clear c106
               try clear c107
               try clear c109
               try clear q109
               try clear c112
               try clear c113
               try clear c114
               try clear q116
               try clear c119
               try clear c120
               try clear c122
               try clear q122
               try clear c125
               try clear c126
               try clear c127
               try clear c137
               try clear c137b0
               try clear c137b1
               try clear c138
               try clear c140
               try clear c141
               try clear c141b0
               try clear c143
               try clear c147
               try clear c147b0
               try clear c147b1
               try clear c148
               try clear c148b0
               try clear hcz100_0
               try clear hcz100_1
               try clear hcz100_2
               try clear hcz102_0
               try clear hcz102_1
               try clear hcz102_2
               try clear hcz108_0
               try clear hcz108_1
               try clear hcz108_2
               try clear hcz115_0
               try clear hcz115_1
               try clear hcz115_2
               try clear hcz121_0
               try clear hcz121_1
               try clear hcz121_2
               try clear hcz128_0
               try clear hcz128_1
               try clear hcz128_2
               try clear hcz12_0
               try clear hcz12_1
               try clear hcz12_2
               try clear hcz16_0
               try clear hcz16_1
               try clear hcz16_2
               try clear hcz19_0
               try clear hcz19_1
               try clear hcz19_2
               try clear hcz20_0
               try clear hcz20_1
               try clear hcz20_2
               try clear hcz22_0
               try clear hcz22_1
               try clear hcz22_2
               try clear hcz23_0
               try clear hcz23_1
               try clear hcz23_2
               try clear hcz44_0
               try clear hcz44_1
               try clear hcz44_2
               try clear hcz51_0
               try clear hcz51_1
               try clear hcz51_2
               try clear hcz52_0
               try clear hcz52_1
               try clear hcz52_2
               try clear hcz54_0
               try clear hcz54_1
               try clear hcz54_2
               try clear hcz60_0
               try clear hcz60_1
               try clear hcz60_2
               try clear hcz67_0
               try clear hcz67_1
               try clear hcz67_2
               try clear hcz68_0
               try clear hcz68_1
               try clear hcz68_2
               try clear hcz70_0
               try clear hcz70_1
               try clear hcz70_2
               try clear hcz76_0
               try clear hcz76_1
               try clear hcz76_2
               try clear hcz83_0
               try clear hcz83_1
               try clear hcz83_2
               try clear hcz84_0
               try clear hcz84_1
               try clear hcz84_2
               try clear hcz86_0
               try clear hcz86_1
               try clear hcz86_2
               try clear hcz92_0
               try clear hcz92_1
               try clear hcz92_2
               try clear hcz99_0
               try clear hcz99_1
               try clear hcz99_2
               try clear hfz100_0
               try clear hfz100_1
               try clear hfz100_2
               try clear hfz102_0
               try clear hfz102_1
               try clear hfz102_2
               try clear hfz108_0
               try clear hfz108_1
               try clear hfz108_2
               try clear hfz115_0
               try clear hfz115_1
               try clear hfz115_2
               try clear hfz121_0
               try clear hfz121_1
               try clear hfz121_2
               try clear hfz128_0
               try clear hfz128_1
               try clear hfz128_2
               try clear hfz12_0
               try clear hfz12_1
               try clear hfz12_2
               try clear hfz16_0
               try clear hfz16_1
               try clear hfz16_2
               try clear hfz19_0
               try clear hfz19_1
               try clear hfz19_2
               try clear hfz20_0
               try clear hfz20_1
               try clear hfz20_2
               try clear hfz22_0
               try clear hfz22_1
               try clear hfz22_2
               try clear hfz23_0
               try clear hfz23_1
               try clear hfz23_2
               try clear hfz44_0
               try clear hfz44_1
               try clear hfz44_2
               try clear hfz51_0
               try clear hfz51_1
               try clear hfz51_2
               try clear hfz52_0
               try clear hfz52_1
               try clear hfz52_2
               try clear hfz54_0
               try clear hfz54_1
               try clear hfz54_2
               try clear hfz60_0
               try clear hfz60_1
               try clear hfz60_2
               try clear hfz67_0
               try clear hfz67_1
               try clear hfz67_2
               try clear hfz68_0
               try clear hfz68_1
               try clear hfz68_2
               try clear hfz70_0
               try clear hfz70_1
               try clear hfz70_2
               try clear hfz76_0
               try clear hfz76_1
               try clear hfz76_2
               try clear hfz83_0
               try clear hfz83_1
               try clear hfz83_2
               try clear hfz84_0
               try clear hfz84_1
               try clear hfz84_2
               try clear hfz86_0
               try clear hfz86_1
               try clear hfz86_2
               try clear hfz92_0
               try clear hfz92_1
               try clear hfz92_2
               try clear hfz99_0
               try clear hfz99_1
               try clear hfz99_2
               try clear p2
               try clear p6
               try clear p64
               try clear q0109
               try clear q0122
               try clear q045
               try clear q061
               try clear q077
               try clear q093
               try clear q1
               try clear q10
               try clear q103
               try clear q109
               try clear q11
               try clear q116
               try clear q12
               try clear q122
               try clear q3
               try clear q39
               try clear q4
               try clear q45
               try clear q5
               try clear q55
               try clear q6
               try clear q61
               try clear q7
               try clear q71
               try clear q77
               try clear q8
               try clear q87
               try clear q9
               try clear q93
               obtain ⟨kq, HA, HJ138, BK350, BK355, HB⟩ := hcut
               cases kq with
               | zero => exact absurd HA.out (by simp [laws_FnChains.j4])
               | succ kj138 =>
                have H := HA.out
                clear HA
                simp only [laws_FnChains.j4] at H
                replace H := Option.bind_eq_some_iff.mp H
                obtain ⟨⟨t385, t386⟩, A1490, H⟩ := H
                replace H : ((impl_LegsAt.f kj138 t385 t386).bind fun bt389 => ((spec_LegsAt.f kj138 t385 t386).bind fun bt393 => (if (bt389.2 == bt393.2) = true then ((laws_vInts.f kj138 bt389.1 bt393.1).bind fun t397 => (some t397)) else (some false)))) = some true := H
                have A149 := Aside0.mk A1490
                clear A1490
                replace H := Option.bind_eq_some_iff.mp H
                obtain ⟨⟨t389, t390⟩, A1500, H⟩ := H
                replace H : ((spec_LegsAt.f kj138 t385 t386).bind fun bt393 => (if (t390 == bt393.2) = true then ((laws_vInts.f kj138 t389 bt393.1).bind fun t397 => (some t397)) else (some false))) = some true := H
                have A150 := Aside0.mk A1500
                clear A1500
                replace H := Option.bind_eq_some_iff.mp H
                obtain ⟨⟨t393, t394⟩, A1510, H⟩ := H
                replace H : (if (t390 == t394) = true then ((laws_vInts.f kj138 t389 t393).bind fun t397 => (some t397)) else (some false)) = some true := H
                have A151 := Aside0.mk A1510
                clear A1510
                by_cases c152 : (t390 == t394) = true
                ·
                 rw [if_pos c152] at H
                 have c152b0 : (t390 == t394) = true := c152
                 (try (have c152b1 : decide (t390 = t394) = true := by simpa using c152))
                 (try (have c152b2 : (t390 == t394) = true := by simpa using c152))
                 clear c152
                 replace H := Option.bind_eq_some_iff.mp H
                 obtain ⟨t397, A1530, H⟩ := H
                 replace H : (some t397) = some true := H
                 have A153 := Aside0.mk A1530
                 clear A1530
                 try exact absurd (Option.some.inj H) (by decide)
                 all_goals (have hr_ := Option.some.inj H)
                 all_goals go_wp2_with (first | ((with_reducible refine gate_callee (f := 12) rfl ?_); refine goesL_ (some 154) rfl rfl Tryd.func12 (by kernel_rfl) rfl #[.slice A0 l0.length c0] rfl (by (try simp only [List.map_toArray, List.map_cons, List.map_nil]); first | done | rfl | (simp only [List.length_drop, List.length_take]; rfl)) ?_; (with_reducible refine (spec_DrawLegsAt.calls kj138 _ _ l0 t385 t386 _ ?side1 ?side2 A149.out).mono ?_); (case side1 => repeat (first | exact (Kd.C_below HR0.out HB.out) | (with_reducible refine Kd.C_alloc ?_ _) | (with_reducible refine Kd.C_drewN ?_ _) | (with_reducible refine Kd.C_drew ?_))); (case side2 => exact HC0.out); rintro e w154 ⟨v387, rfl, ho0, hb⟩; refine ⟨_, rfl, ?_⟩; have n0_ := Aside0.mk (Kd.R_lower ho0 (below_size (by repeat (first | (with_reducible first | exact HB.out | apply below_alloc | apply pw_below_drewN | apply below_drew1 | refine below_set ?_ GE350.out | refine below_set ?_ GE355.out) | exact HB.out)))); have n1_ := Aside0.mk (blk_below (g := gb350) (o := .cells #[.int .i64 t346, .int .i64 t347, .int .i64 t348] 27 (0, 0)) (by (with_reducible repeat (first | refine blk_drewN ?_ _ | refine blk_drew ?_ | refine blk_alloc ?_ _)); exact BK350.out) hb); have n2_ := Aside0.mk (blk_below (g := gb355) (o := .cells #[.int .i64 t351, .int .i64 t352, .int .i64 t353] 27 (0, 0)) (by (with_reducible repeat (first | refine blk_drewN ?_ _ | refine blk_drew ?_ | refine blk_alloc ?_ _)); exact BK355.out) hb); have n3_ := Aside0.mk (below_step (by repeat (first | (with_reducible first | exact HB.out | apply below_alloc | apply pw_below_drewN | apply below_drew1 | refine below_set ?_ GE350.out | refine below_set ?_ GE355.out) | exact HB.out)) hb); clear BK350; clear BK355; clear HB; have HO388 := n0_; have BK350 := n1_; have BK355 := n2_; have HB := n3_; clear n0_ n1_ n2_ n3_; (try clear hb); (try clear hb2); (try clear hk); (try clear hi); (try clear ho0); obtain ⟨Ao155, co155, eo155⟩ := Kd.R_slice HO388.out; subst eo155) | ((with_reducible refine gate_callee (f := 11) rfl ?_); refine goesL_ (some 160) rfl rfl Tryd.func11 (by kernel_rfl) rfl #[.slice Ao155 t385.length co155, .int .i64 t386] rfl (by (try simp only [List.map_toArray, List.map_cons, List.map_nil]); first | done | rfl | (simp only [List.length_drop, List.length_take]; rfl)) ?_; (with_reducible refine (impl_LegsAt.calls kj138 _ _ t385 t386 t389 t390 _ ?side1 ?side2 A150.out).mono ?_); (case side1 => repeat (first | exact (Kd.R_reads' HO388.out).2.2 | (with_reducible refine Kd.C_alloc ?_ _) | (with_reducible refine Kd.C_drewN ?_ _) | (with_reducible refine Kd.C_drew ?_))); (case side2 => exact (Kd.R_reads' HO388.out).2.1); rintro e w156 ⟨v391, rfl, ho0, hb⟩; refine ⟨_, rfl, ?_⟩; have n0_ := Aside0.mk (Kd.R_below (by (with_reducible repeat (first | apply Kd.R_alloc | apply Kd.R_drewN | apply Kd.R_drew)); exact HO388.out) hb); have n1_ := Aside0.mk (Kd.R_lower ho0 (below_size (by repeat (first | (with_reducible first | exact HB.out | apply below_alloc | apply pw_below_drewN | apply below_drew1 | refine below_set ?_ GE350.out | refine below_set ?_ GE355.out) | exact HB.out)))); have n2_ := Aside0.mk (blk_below (g := gb350) (o := .cells #[.int .i64 t346, .int .i64 t347, .int .i64 t348] 27 (0, 0)) (by (with_reducible repeat (first | refine blk_drewN ?_ _ | refine blk_drew ?_ | refine blk_alloc ?_ _)); exact BK350.out) hb); have n3_ := Aside0.mk (blk_below (g := gb355) (o := .cells #[.int .i64 t351, .int .i64 t352, .int .i64 t353] 27 (0, 0)) (by (with_reducible repeat (first | refine blk_drewN ?_ _ | refine blk_drew ?_ | refine blk_alloc ?_ _)); exact BK355.out) hb); have n4_ := Aside0.mk (below_step (by repeat (first | (with_reducible first | exact HB.out | apply below_alloc | apply pw_below_drewN | apply below_drew1 | refine below_set ?_ GE350.out | refine below_set ?_ GE355.out) | exact HB.out)) hb); clear HO388; clear BK350; clear BK355; clear HB; have HO388 := n0_; have HO392 := n1_; have BK350 := n2_; have BK355 := n3_; have HB := n4_; clear n0_ n1_ n2_ n3_ n4_; (try clear hb); (try clear hb2); (try clear hk); (try clear hi); (try clear ho0)) | ((with_reducible refine gate_callee (f := 13) rfl ?_); refine goesL_ (some 166) rfl rfl Tryd.func13 (by kernel_rfl) rfl #[.slice Ao155 t385.length co155, .int .i64 t386] rfl (by (try simp only [List.map_toArray, List.map_cons, List.map_nil]); first | done | rfl | (simp only [List.length_drop, List.length_take]; rfl)) ?_; (with_reducible refine (spec_LegsAt.calls kj138 _ _ t385 t386 t393 t394 _ ?side1 ?side2 A151.out).mono ?_); (case side1 => repeat (first | exact (Kd.R_reads' HO388.out).2.2 | (with_reducible refine Kd.C_alloc ?_ _) | (with_reducible refine Kd.C_drewN ?_ _) | (with_reducible refine Kd.C_drew ?_))); (case side2 => exact (Kd.R_reads' HO388.out).2.1); rintro e w157 ⟨v395, rfl, ho0, hb⟩; refine ⟨_, rfl, ?_⟩; have n0_ := Aside0.mk (Kd.R_below (by (with_reducible repeat (first | apply Kd.R_alloc | apply Kd.R_drewN | apply Kd.R_drew)); exact HO388.out) hb); have n1_ := Aside0.mk (Kd.R_elder' (by (with_reducible repeat (first | apply Kd.R_alloc | apply Kd.R_drewN | apply Kd.R_drew)); exact HO392.out) (Kd.R_base ho0) hb); have n2_ := Aside0.mk (Kd.R_lower (Kd.R_new' ho0 (Kd.R_lt (by (with_reducible repeat (first | apply Kd.R_alloc | apply Kd.R_drewN | apply Kd.R_drew)); exact HO392.out))) (below_size (by repeat (first | (with_reducible first | exact HB.out | apply below_alloc | apply pw_below_drewN | apply below_drew1 | refine below_set ?_ GE350.out | refine below_set ?_ GE355.out) | exact HB.out)))); have n3_ := Aside0.mk (blk_below (g := gb350) (o := .cells #[.int .i64 t346, .int .i64 t347, .int .i64 t348] 27 (0, 0)) (by (with_reducible repeat (first | refine blk_drewN ?_ _ | refine blk_drew ?_ | refine blk_alloc ?_ _)); exact BK350.out) hb); have n4_ := Aside0.mk (blk_below (g := gb355) (o := .cells #[.int .i64 t351, .int .i64 t352, .int .i64 t353] 27 (0, 0)) (by (with_reducible repeat (first | refine blk_drewN ?_ _ | refine blk_drew ?_ | refine blk_alloc ?_ _)); exact BK355.out) hb); have n5_ := Aside0.mk (below_step (by repeat (first | (with_reducible first | exact HB.out | apply below_alloc | apply pw_below_drewN | apply below_drew1 | refine below_set ?_ GE350.out | refine below_set ?_ GE355.out) | exact HB.out)) hb); clear HO388; clear HO392; clear BK350; clear BK355; clear HB; have HO388 := n0_; have HO392 := n1_; have HO396 := n2_; have BK350 := n3_; have BK355 := n4_; have HB := n5_; clear n0_ n1_ n2_ n3_ n4_ n5_; (try clear hb); (try clear hb2); (try clear hk); (try clear hi); (try clear ho0); obtain ⟨Ao158, co158, eo158⟩ := Kd.R_slice HO392.out; subst eo158; obtain ⟨Ao159, co159, eo159⟩ := Kd.R_slice HO396.out; subst eo159) | (go_at_call 14; (with_reducible refine (laws_vInts.calls kj138 _ _ t389 _ _ t393 t397 _ ?side1 ?side2 ?side3 ?side4 A153.out).mono ?_); (case side1 => repeat (first | exact (Kd.R_reads' HO392.out).2.2 | (with_reducible refine Kd.C_alloc ?_ _) | (with_reducible refine Kd.C_drewN ?_ _) | (with_reducible refine Kd.C_drew ?_))); (case side2 => exact (Kd.R_reads' HO392.out).2.1); (case side3 => repeat (first | exact (Kd.R_reads' HO396.out).2.2 | (with_reducible refine Kd.C_alloc ?_ _) | (with_reducible refine Kd.C_drewN ?_ _) | (with_reducible refine Kd.C_drew ?_))); (case side4 => exact (Kd.R_reads' HO396.out).2.1); rintro e w' ⟨rfl, ⟨nd, rfl⟩⟩))
                 all_goals go_ret
                 all_goals exact ⟨by first | rfl | (simp [errW_none, errW_some] <;> rfl) | (simp [*, errW_none, errW_some] <;> rfl), by repeat (first | (with_reducible first | exact HB.out | apply below_alloc | apply pw_below_drewN | apply below_drew1 | refine below_set ?_ GE350.out | refine below_set ?_ GE355.out) | exact HB.out)⟩
                ·
                 rw [if_neg c152] at H
                 have c152b0 : (t390 == t394) = false := by simpa using c152
                 (try (have c152b1 : decide (t390 = t394) = false := by simpa using c152))
                 (try (have c152b2 : (t390 == t394) = false := by simpa using c152))
                 (try (have c152b3 : ¬ (t390 = t394) := by simpa using c152))
                 clear c152
                 exact absurd (Option.some.inj H) (by decide)
/-- THE ONE PURE STATEMENT of laws_FnChains: yours. -/
def laws_FnChains.Pure : Prop := ∀ (l0 : List Int), l0.length ≤ maxLen → l0.length * 1 ≤ 140737488351232 → (∀ x ∈ l0, (Lit.int .u8 x).wf = true) → ∃ k, laws_FnChains.f k l0 = some true
end Go.Proofs.YtlipaiabjcaeiaaDoor.A
