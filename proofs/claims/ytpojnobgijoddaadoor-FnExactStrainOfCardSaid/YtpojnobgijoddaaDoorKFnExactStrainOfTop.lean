/- The row of the law FnExactStrainOf: whatever the input, it returns true; its arguments read as they did. No conditions. -/
import Derived.Deep.Slices
import Derived.Deep.Fields
import Derived.ChangeSame
import Derived.SizedLaws
import Derived.Test.YtpojnobgijoddaaDoorKFnExactStrainOfVMore
import Derived.Test.YtpojnobgijoddaaDoorCards
import Derived.Test.YtpojnobgijoddaaDoorTie
import Derived.OpenVars
import Derived.ChangeVars
import Derived.SevenTiedAt
import Derived.Stop.Joined
import Derived.LaidMore
import Derived.Test.YtpojnobgijoddaaDoorRows
import Derived.WalkKit
import Derived.ProofKit
import Derived.OpenShut
import Derived.ShutString
import Derived.ChangeOld
import Derived.Below
import Derived.Test.YtpojnobgijoddaaDoorKFnExactStrainOf0
import Derived.Test.YtpojnobgijoddaaDoorKFnExactStrainOf1
import Derived.Test.YtpojnobgijoddaaDoorKFnExactStrainOf2
import Derived.Test.YtpojnobgijoddaaDoorKFnExactStrainOf3
import Derived.Test.YtpojnobgijoddaaDoorKFnExactStrainOfU1
import Derived.Test.YtpojnobgijoddaaDoorKFnExactStrainOfU4
import Derived.Test.YtpojnobgijoddaaDoorKFnExactStrainOfU5
import Derived.Test.YtpojnobgijoddaaDoorKFnExactStrainOfU6
/- The program's StrainOf, in the form of the printed functions, over the laid table of sines. -/
namespace Go.Proofs.YtpojnobgijoddaaDoor.A
open Go Go.RowKit Go.Proofs.YtpojnobgijoddaaDoorW.PrintWords Go.Proofs.YtpojnobgijoddaaDoorW.PrintLast Go.Proofs.YtpojnobgijoddaaDoorW.PrintMore
open Go.Proofs.YtpojnobgijoddaaDoor.Net (L Sine.Laid legsB legsB_iff areLegs_ev sNum sDen strainW StrainPost)
set_option linter.unusedVariables false
set_option linter.unusedSimpArgs false
def strM (ls : L) : Int × Int × Bool := if legsB ls = true then (sNum ls, sDen ls, true) else (0, 0, false)
def impl_StrainOf.f (l0 : List (S45)) : Option (Int × Int × Bool) := if l0.length ≤ 140737488351232 then some (strM l0) else none
set_option maxHeartbeats 2000000 in
set_option maxRecDepth 100000 in
theorem impl_StrainOf.calls (A0 : Option Addr) (c : Nat) (ls : List (S45)) (r1 : Int) (r2 : Int) (r3 : Bool) (w : World) (hr0 : Kd.C k45 w A0 ls.length ls) (hc : ls.length ≤ c) (h : impl_StrainOf.f ls = some (r1, r2, r3)) (hL : Sine.Laid w) :
    Calls Tryd.prog 13 #[.slice A0 ls.length c] w fun e w' => e = .returned (.tuple #[.int .i64 r1, .int .i64 r2, .bool r3]) ∧ Below w.heap.size w w' := by
  unfold impl_StrainOf.f at h
  by_cases hb : ls.length ≤ 140737488351232
  case neg => rw [if_neg hb] at h; cases h
  rw [if_pos hb] at h
  obtain ⟨K, hK⟩ := areLegs_ev ls hb
  have HA := Aside0.mk (hK K (Nat.le_refl _))
  have HR := Aside0.mk hr0
  have HL := Aside0.mk hL
  have HB := Aside0.mk (Below.refl w.heap.size w)
  clear hK hr0 hL hb
  unfold strM at h
  cases hv : legsB ls
  · rw [if_neg (by rw [hv]; simp)] at h
    simp only [Option.some.injEq, Prod.mk.injEq] at h
    obtain ⟨rfl, rfl, rfl⟩ := h
    rw [hv] at HA
    clear hv
    go_enter Tryd.func13, Tryd.ntmps13
    go_wp2_with (go_at_call 32; (with_reducible refine (impl_areLegs.calls K _ _ ls false _ ?s1 ?s2 HA.out).mono ?_); (case s1 => exact Kd.C_below HR.out (by (repeat (first | exact HB.out | exact Below.refl _ _ | apply below_alloc | apply pw_below_drewN | apply below_drew1)); done)); (case s2 => exact hc); rintro e w' ⟨rfl, hw⟩; replace HB := Aside0.mk (below_step (show Below w.heap.size w _ from by (repeat (first | exact HB.out | exact Below.refl _ _ | apply below_alloc | apply pw_below_drewN | apply below_drew1)); done) hw); clear hw)
    exact bodyPost_ret (v := .tuple #[.int .i64 0, .int .i64 0, .bool false]) (by simp [results, Tryd.results13, go_sem]) rfl ⟨rfl, by repeat (first | exact HB.out | apply below_drew1)⟩
  · rw [hv] at HA
    rw [if_pos hv] at h
    simp only [Option.some.injEq, Prod.mk.injEq] at h
    obtain ⟨rfl, rfl, rfl⟩ := h
    have hv' := legsB_iff.mp hv
    have HG := Aside0.mk hv'.1
    have hn := hv'.2
    clear hv hv'
    go_enter Tryd.func13, Tryd.ntmps13
    go_wp2_with (first
      | (go_at_call 32; (with_reducible refine (impl_areLegs.calls K _ _ ls true _ ?s1 ?s2 HA.out).mono ?_); (case s1 => exact Kd.C_below HR.out (by (repeat (first | exact HB.out | exact Below.refl _ _ | apply below_alloc | apply pw_below_drewN | apply below_drew1)); done)); (case s2 => exact hc); rintro e w' ⟨rfl, hw⟩; replace HB := Aside0.mk (below_step (show Below w.heap.size w _ from by (repeat (first | exact HB.out | exact Below.refl _ _ | apply below_alloc | apply pw_below_drewN | apply below_drew1)); done) hw); clear hw)
      | (go_at_call 33; (with_reducible refine (strainW A0 c ls _ ?s1 ?s2 hc hn HG.out).mono ?_); (case s1 => exact HL.out.keep (by (repeat (first | exact HB.out | exact Below.refl _ _ | apply below_alloc | apply pw_below_drewN | apply below_drew1)); done)); (case s2 => exact Kd.C_below HR.out (by (repeat (first | exact HB.out | exact Below.refl _ _ | apply below_alloc | apply pw_below_drewN | apply below_drew1)); done)); rintro e w2 ⟨rfl, hw⟩; replace HB := Aside0.mk (below_step (show Below w.heap.size w _ from by (repeat (first | exact HB.out | exact Below.refl _ _ | apply below_alloc | apply pw_below_drewN | apply below_drew1)); done) hw); clear hw))
    have c0 : (w2.alloc (Obj.cells #[Value.int IntKind.i64 (sNum ls), Value.int IntKind.i64 (sDen ls)] 49)).cell? ⟨w2.heap.size, 0, none⟩ = some (.int .i64 (sNum ls)) := by go_simp
    have c1 : (w2.alloc (Obj.cells #[Value.int IntKind.i64 (sNum ls), Value.int IntKind.i64 (sDen ls)] 49)).cell? ⟨w2.heap.size, 1, none⟩ = some (.int .i64 (sDen ls)) := by go_simp
    replace HB : Aside0 (Below w.heap.size w (w2.alloc (Obj.cells #[Value.int IntKind.i64 (sNum ls), Value.int IntKind.i64 (sDen ls)] 49))) := ⟨by (repeat (first | exact HB.out | exact Below.refl _ _ | apply below_alloc | apply pw_below_drewN | apply below_drew1)); done⟩
    generalize w2.alloc (Obj.cells #[Value.int IntKind.i64 (sNum ls), Value.int IntKind.i64 (sDen ls)] 49) = w3 at *
    go_region_held3 (fun w' => w'.cell? ⟨w2.heap.size, 0, none⟩ = some (.int .i64 (sNum ls)) ∧ w'.cell? ⟨w2.heap.size, 1, none⟩ = some (.int .i64 (sDen ls)))
      ((repeat' refine And.intro ?_ ?_) <;> first | assumption | exact Net.Sine.keepc (w := w3) (by assumption) (by (repeat (first | exact Below.refl _ _ | apply pw_below_drewN | apply below_drew1 | exact HB.out | refine below_step ?_ (by assumption))); done))
      (fail)
    all_goals go_wp2
    all_goals exact bodyPost_ret (v := .tuple #[.int .i64 (sNum ls), .int .i64 (sDen ls), .bool true]) (by simp [results, Tryd.results13, go_sem]) rfl ⟨rfl, by (repeat (first | exact HB.out | exact Below.refl _ _ | apply below_alloc | apply pw_below_drewN | apply below_drew1)); done⟩
end Go.Proofs.YtpojnobgijoddaaDoor.A

/- One Lean function and its proof for each Go function, written by a program out of the translation. No conditions. -/
namespace Go.Proofs.YtpojnobgijoddaaDoor.A
open Go.Proofs.YtpojnobgijoddaaDoor Go.RowKit Go.Proofs.YtpojnobgijoddaaDoorW.PrintWords Go.Proofs.YtpojnobgijoddaaDoorW.PrintLast Go.Proofs.YtpojnobgijoddaaDoorW.PrintMore
attribute [local go_sem] max2_int min2_int max_two min_two max_three min_three max_four min_four   -- for this text's walks alone
set_option linter.unusedVariables false
set_option linter.unusedSimpArgs false

/-! ### laws_FnExactStrainOf: function 3 -/
def laws_FnExactStrainOf.j0 : Nat → List (S47) → List (S45) → Bool → Option (Bool)
 | 0, _, _, _ => none
 | k + 1, x0, x7, x43 => if x43 = true then (some false) else ((laws_toLegS.f k x0).bind fun t315 => ((laws_eqLegS.f k x7 t315).bind fun t318 => (if t318 = true then (some true) else (some false))))
def laws_FnExactStrainOf.f (k : Nat) (l0 : List (S47)) : Option (Bool) := (laws_szLegS.f l0 1048576).bind fun t302 => (if t302 < 0 then (some true) else ((laws_toLegS.f k l0).bind fun t303 => ((spec_StrainOf.f k t303).bind fun bt306 => ((laws_toLegS.f k l0).bind fun t309 => ((impl_StrainOf.f t309).bind fun bt312 => (if bt312.1 = bt306.1 then (if bt312.2.1 = bt306.2.1 then (laws_FnExactStrainOf.j0 k l0 t309 (bt312.2.2 != bt306.2.2)) else (laws_FnExactStrainOf.j0 k l0 t309 true)) else (laws_FnExactStrainOf.j0 k l0 t309 true)))))))
theorem laws_FnExactStrainOf.mono_l : ∀ k, (∀ y0 y1 y2, LeO (laws_FnExactStrainOf.j0 k y0 y1 y2) (laws_FnExactStrainOf.j0 (k + 1) y0 y1 y2))
 | 0 => fun _ _ _ r h => by simp [laws_FnExactStrainOf.j0] at h
 | k + 1 => by
  have ih0 := laws_FnExactStrainOf.mono_l k
  ·
   intro y0 y1 y2
   unfold laws_FnExactStrainOf.j0
   repeat' first
   | (with_reducible exact ih0 _ _ _)
   | (with_reducible exact laws_eqLegS.mono _ _ _)
   | (with_reducible exact laws_toLegS.mono _ _)
   | (with_reducible exact spec_StrainOf.mono _ _)
   | (with_reducible exact LeO.refl _)
   | (with_reducible exact LeO.none _)
   | (with_reducible refine LeO.ite ?_ ?_)
   | (with_reducible refine LeO.bind ?_ (fun _ => ?_))
   | exact ih0 _ _ _
   | exact laws_eqLegS.mono _ _ _
   | exact laws_toLegS.mono _ _
   | exact spec_StrainOf.mono _ _
   | exact LeO.none _
   | refine LeO.ite ?_ ?_
   | refine LeO.bind ?_ (fun _ => ?_)
theorem laws_FnExactStrainOf.mono : ∀ a0 k, LeO (laws_FnExactStrainOf.f k a0) (laws_FnExactStrainOf.f (k + 1) a0) := by
 intro a0 k
 have ih0 := laws_FnExactStrainOf.mono_l k
 unfold laws_FnExactStrainOf.f
 repeat' first
   | (with_reducible exact ih0 _ _ _)
   | (with_reducible exact laws_eqLegS.mono _ _ _)
   | (with_reducible exact laws_toLegS.mono _ _)
   | (with_reducible exact spec_StrainOf.mono _ _)
   | (with_reducible exact LeO.refl _)
   | (with_reducible exact LeO.none _)
   | (with_reducible refine LeO.ite ?_ ?_)
   | (with_reducible refine LeO.bind ?_ (fun _ => ?_))
   | exact ih0 _ _ _
   | exact laws_eqLegS.mono _ _ _
   | exact laws_toLegS.mono _ _
   | exact spec_StrainOf.mono _ _
   | exact LeO.none _
   | refine LeO.ite ?_ ?_
   | refine LeO.bind ?_ (fun _ => ?_)
set_option maxHeartbeats 8000000 in
set_option maxRecDepth 100000 in
theorem laws_FnExactStrainOf.calls (k : Nat) (A0 : Option Addr) (c0 : Nat) (l0 : List (S47)) (r : Bool) (w : World) (hr0 : Kd.C k47 w A0 l0.length l0) (hc0 : l0.length ≤ c0) (h : laws_FnExactStrainOf.f k l0 = some r) (hL : Net.Sine.Laid w) :
  Calls Tryd.prog 3 #[.slice A0 l0.length c0] w fun e w' => e = .returned (.bool r) ∧ Below w.heap.size w w' := by
 have HL := Aside0.mk hL
 clear hL
 have HR0 := Aside0.mk hr0
 have HC0 := Aside0.mk hc0
 clear hr0 hc0
 have HB := Aside0.mk (Below.refl w.heap.size w)
 have H : ((laws_szLegS.f l0 1048576).bind fun t302 => (if t302 < 0 then (some true) else ((laws_toLegS.f k l0).bind fun t303 => ((spec_StrainOf.f k t303).bind fun bt306 => ((laws_toLegS.f k l0).bind fun t309 => ((impl_StrainOf.f t309).bind fun bt312 => (if bt312.1 = bt306.1 then (if bt312.2.1 = bt306.2.1 then (laws_FnExactStrainOf.j0 k l0 t309 (bt312.2.2 != bt306.2.2)) else (laws_FnExactStrainOf.j0 k l0 t309 true)) else (laws_FnExactStrainOf.j0 k l0 t309 true)))))))) = some r := h
 clear h
 replace H := Option.bind_eq_some_iff.mp H
 obtain ⟨t302, A20, H⟩ := H
 replace H : (if t302 < 0 then (some true) else ((laws_toLegS.f k l0).bind fun t303 => ((spec_StrainOf.f k t303).bind fun bt306 => ((laws_toLegS.f k l0).bind fun t309 => ((impl_StrainOf.f t309).bind fun bt312 => (if bt312.1 = bt306.1 then (if bt312.2.1 = bt306.2.1 then (laws_FnExactStrainOf.j0 k l0 t309 (bt312.2.2 != bt306.2.2)) else (laws_FnExactStrainOf.j0 k l0 t309 true)) else (laws_FnExactStrainOf.j0 k l0 t309 true))))))) = some r := H
 have A2 := Aside0.mk A20
 clear A20
 by_cases c3 : t302 < 0
 ·
  rw [if_pos c3] at H
  have c3b0 : decide (t302 < 0) = true := decide_eq_true c3
  clear c3
  obtain rfl := Option.some.inj H
  go_enter Tryd.func3, Tryd.ntmps3
  go_wp2_with (first | ((with_reducible refine gate_callee (f := 10) rfl ?_); refine goesL_ (some 13) rfl rfl Tryd.func10 (by kernel_rfl) rfl #[.slice A0 l0.length c0, .int .i64 1048576] rfl (by (try simp only [List.map_toArray, List.map_cons, List.map_nil]); first | done | rfl | (simp only [List.length_drop, List.length_take]; rfl)) ?_; (with_reducible refine (laws_szLegS.calls _ _ l0 1048576 t302 _ ?side1 ?side2 A2.out).mono ?_); (case side1 => repeat (first | exact HR0.out | (with_reducible refine Kd.C_alloc ?_ _) | (with_reducible refine Kd.C_drewN ?_ _) | (with_reducible refine Kd.C_drew ?_))); (case side2 => exact HC0.out); rintro e w' ⟨rfl, ⟨nd, rfl⟩⟩; refine ⟨_, rfl, ?_⟩))
  go_ret
  exact ⟨by first | rfl | (simp [errW_none, errW_some] <;> rfl) | (simp [*, errW_none, errW_some] <;> rfl), by repeat (first | (with_reducible first | exact HB.out | apply below_alloc | apply pw_below_drewN | apply below_drew1) | exact HB.out)⟩
 ·
  rw [if_neg c3] at H
  have c3b0 : decide (t302 < 0) = false := decide_eq_false c3
  clear c3
  replace H := Option.bind_eq_some_iff.mp H
  obtain ⟨t303, A40, H⟩ := H
  replace H : ((spec_StrainOf.f k t303).bind fun bt306 => ((laws_toLegS.f k l0).bind fun t309 => ((impl_StrainOf.f t309).bind fun bt312 => (if bt312.1 = bt306.1 then (if bt312.2.1 = bt306.2.1 then (laws_FnExactStrainOf.j0 k l0 t309 (bt312.2.2 != bt306.2.2)) else (laws_FnExactStrainOf.j0 k l0 t309 true)) else (laws_FnExactStrainOf.j0 k l0 t309 true))))) = some r := H
  have A4 := Aside0.mk A40
  clear A40
  replace H := Option.bind_eq_some_iff.mp H
  obtain ⟨⟨t306, t307, t308⟩, A50, H⟩ := H
  replace H : ((laws_toLegS.f k l0).bind fun t309 => ((impl_StrainOf.f t309).bind fun bt312 => (if bt312.1 = t306 then (if bt312.2.1 = t307 then (laws_FnExactStrainOf.j0 k l0 t309 (bt312.2.2 != t308)) else (laws_FnExactStrainOf.j0 k l0 t309 true)) else (laws_FnExactStrainOf.j0 k l0 t309 true)))) = some r := H
  have A5 := Aside0.mk A50
  clear A50
  replace H := Option.bind_eq_some_iff.mp H
  obtain ⟨t309, A60, H⟩ := H
  replace H : ((impl_StrainOf.f t309).bind fun bt312 => (if bt312.1 = t306 then (if bt312.2.1 = t307 then (laws_FnExactStrainOf.j0 k l0 t309 (bt312.2.2 != t308)) else (laws_FnExactStrainOf.j0 k l0 t309 true)) else (laws_FnExactStrainOf.j0 k l0 t309 true))) = some r := H
  have A6 := Aside0.mk A60
  clear A60
  replace H := Option.bind_eq_some_iff.mp H
  obtain ⟨⟨t312, t313, t314⟩, A70, H⟩ := H
  replace H : (if t312 = t306 then (if t313 = t307 then (laws_FnExactStrainOf.j0 k l0 t309 (t314 != t308)) else (laws_FnExactStrainOf.j0 k l0 t309 true)) else (laws_FnExactStrainOf.j0 k l0 t309 true)) = some r := H
  have A7 := Aside0.mk A70
  clear A70
  have HC8 := Aside0.mk H
  clear H
  go_enter Tryd.func3, Tryd.ntmps3
  go_upto_region 8 with (first | ((with_reducible refine gate_callee (f := 10) rfl ?_); refine goesL_ (some 13) rfl rfl Tryd.func10 (by kernel_rfl) rfl #[.slice A0 l0.length c0, .int .i64 1048576] rfl (by (try simp only [List.map_toArray, List.map_cons, List.map_nil]); first | done | rfl | (simp only [List.length_drop, List.length_take]; rfl)) ?_; (with_reducible refine (laws_szLegS.calls _ _ l0 1048576 t302 _ ?side1 ?side2 A2.out).mono ?_); (case side1 => repeat (first | exact HR0.out | (with_reducible refine Kd.C_alloc ?_ _) | (with_reducible refine Kd.C_drewN ?_ _) | (with_reducible refine Kd.C_drew ?_))); (case side2 => exact HC0.out); rintro e w' ⟨rfl, ⟨nd, rfl⟩⟩; refine ⟨_, rfl, ?_⟩) | ((with_reducible refine gate_callee (f := 12) rfl ?_); refine goesL_ (some 18) rfl rfl Tryd.func12 (by kernel_rfl) rfl #[.slice A0 l0.length c0] rfl (by (try simp only [List.map_toArray, List.map_cons, List.map_nil]); first | done | rfl | (simp only [List.length_drop, List.length_take]; rfl)) ?_; (with_reducible refine (laws_toLegS.calls k _ _ l0 t303 _ ?side1 ?side2 A4.out).mono ?_); (case side1 => repeat (first | exact HR0.out | (with_reducible refine Kd.C_alloc ?_ _) | (with_reducible refine Kd.C_drewN ?_ _) | (with_reducible refine Kd.C_drew ?_))); (case side2 => exact HC0.out); rintro e w9 ⟨v304, rfl, ho0, hb⟩; refine ⟨_, rfl, ?_⟩; have n0_ := Aside0.mk (Kd.R_lower ho0 (below_size (by repeat (first | (with_reducible first | exact HB.out | apply below_alloc | apply pw_below_drewN | apply below_drew1) | exact HB.out)))); have n1_ := Aside0.mk (below_step (by repeat (first | (with_reducible first | exact HB.out | apply below_alloc | apply pw_below_drewN | apply below_drew1) | exact HB.out)) hb); clear HB; have HO305 := n0_; have HB := n1_; clear n0_ n1_; (try clear hb); (try clear hb2); (try clear hk); (try clear hi); (try clear ho0); obtain ⟨Ao10, co10, eo10⟩ := Kd.R_slice HO305.out; subst eo10) | ((with_reducible refine gate_callee (f := 11) rfl ?_); refine goesL_ (some 19) rfl rfl Tryd.func11 (by kernel_rfl) rfl #[.slice Ao10 t303.length co10] rfl (by (try simp only [List.map_toArray, List.map_cons, List.map_nil]); first | done | rfl | (simp only [List.length_drop, List.length_take]; rfl)) ?_; (with_reducible refine (spec_StrainOf.calls k _ _ t303 t306 t307 t308 _ ?side1 ?side2 A5.out ?sideL).mono ?_); (case sideL => exact HL.out.keep (by repeat (first | (with_reducible first | exact HB.out | apply below_alloc | apply pw_below_drewN | apply below_drew1) | exact HB.out))); (case side1 => repeat (first | exact (Kd.R_reads' HO305.out).2.2 | (with_reducible refine Kd.C_alloc ?_ _) | (with_reducible refine Kd.C_drewN ?_ _) | (with_reducible refine Kd.C_drew ?_))); (case side2 => exact (Kd.R_reads' HO305.out).2.1); rintro e w11 ⟨rfl, hb⟩; refine ⟨_, rfl, ?_⟩; have n0_ := Aside0.mk (Kd.R_below (by (with_reducible repeat (first | apply Kd.R_alloc | apply Kd.R_drewN | apply Kd.R_drew)); exact HO305.out) hb); have n1_ := Aside0.mk (below_step (by repeat (first | (with_reducible first | exact HB.out | apply below_alloc | apply pw_below_drewN | apply below_drew1) | exact HB.out)) hb); clear HO305; clear HB; have HO305 := n0_; have HB := n1_; clear n0_ n1_; (try clear hb); (try clear hb2); (try clear hk); (try clear hi)) | ((with_reducible refine gate_callee (f := 12) rfl ?_); refine goesL_ (some 24) rfl rfl Tryd.func12 (by kernel_rfl) rfl #[.slice A0 l0.length c0] rfl (by (try simp only [List.map_toArray, List.map_cons, List.map_nil]); first | done | rfl | (simp only [List.length_drop, List.length_take]; rfl)) ?_; (with_reducible refine (laws_toLegS.calls k _ _ l0 t309 _ ?side1 ?side2 A6.out).mono ?_); (case side1 => repeat (first | exact (Kd.C_below HR0.out HB.out) | (with_reducible refine Kd.C_alloc ?_ _) | (with_reducible refine Kd.C_drewN ?_ _) | (with_reducible refine Kd.C_drew ?_))); (case side2 => exact HC0.out); rintro e w12 ⟨v310, rfl, ho0, hb⟩; refine ⟨_, rfl, ?_⟩; have n0_ := Aside0.mk (Kd.R_elder' (by (with_reducible repeat (first | apply Kd.R_alloc | apply Kd.R_drewN | apply Kd.R_drew)); exact HO305.out) (Kd.R_base ho0) hb); have n1_ := Aside0.mk (Kd.R_lower (Kd.R_new' ho0 (Kd.R_lt (by (with_reducible repeat (first | apply Kd.R_alloc | apply Kd.R_drewN | apply Kd.R_drew)); exact HO305.out))) (below_size (by repeat (first | (with_reducible first | exact HB.out | apply below_alloc | apply pw_below_drewN | apply below_drew1) | exact HB.out)))); have n2_ := Aside0.mk (below_step (by repeat (first | (with_reducible first | exact HB.out | apply below_alloc | apply pw_below_drewN | apply below_drew1) | exact HB.out)) hb); clear HO305; clear HB; have HO305 := n0_; have HO311 := n1_; have HB := n2_; clear n0_ n1_ n2_; (try clear hb); (try clear hb2); (try clear hk); (try clear hi); (try clear ho0); obtain ⟨Ao13, co13, eo13⟩ := Kd.R_slice HO311.out; subst eo13) | ((with_reducible refine gate_callee (f := 13) rfl ?_); refine goesL_ (some 27) rfl rfl Tryd.func13 (by kernel_rfl) rfl #[.slice Ao13 t309.length co13] rfl (by (try simp only [List.map_toArray, List.map_cons, List.map_nil]); first | done | rfl | (simp only [List.length_drop, List.length_take]; rfl)) ?_; (with_reducible refine (impl_StrainOf.calls _ _ t309 t312 t313 t314 _ ?side1 ?side2 A7.out ?sideL).mono ?_); (case sideL => exact HL.out.keep (by repeat (first | (with_reducible first | exact HB.out | apply below_alloc | apply pw_below_drewN | apply below_drew1) | exact HB.out))); (case side1 => repeat (first | exact (Kd.R_reads' HO311.out).2.2 | (with_reducible refine Kd.C_alloc ?_ _) | (with_reducible refine Kd.C_drewN ?_ _) | (with_reducible refine Kd.C_drew ?_))); (case side2 => exact (Kd.R_reads' HO311.out).2.1); rintro e w14 ⟨rfl, hb⟩; refine ⟨_, rfl, ?_⟩; have n0_ := Aside0.mk (Kd.R_below (by (with_reducible repeat (first | apply Kd.R_alloc | apply Kd.R_drewN | apply Kd.R_drew)); exact HO305.out) hb); have n1_ := Aside0.mk (Kd.R_below (by (with_reducible repeat (first | apply Kd.R_alloc | apply Kd.R_drewN | apply Kd.R_drew)); exact HO311.out) hb); have n2_ := Aside0.mk (below_step (by repeat (first | (with_reducible first | exact HB.out | apply below_alloc | apply pw_below_drewN | apply below_drew1) | exact HB.out)) hb); clear HO305; clear HO311; clear HB; have HO305 := n0_; have HO311 := n1_; have HB := n2_; clear n0_ n1_ n2_; (try clear hb); (try clear hb2); (try clear hk); (try clear hi)))
  (try simp only [Act.put, List.setIfInBounds_toArray, List.set_cons_zero, List.set_cons_succ])
  go_cut [43] (fun v43 wc => ∃ (kq : Nat) (x43_7 : Bool), v43 = .bool x43_7 ∧ Aside0 (laws_FnExactStrainOf.j0 kq l0 t309 x43_7 = some r) ∧ Aside0 (kq ≤ k) ∧ Aside0 (Kd.R k45 45 wc w.heap.size (fun _ => True) (.slice Ao13 t309.length co13) t309) ∧ Aside0 (Below w.heap.size w wc))
  case first =>
   have H := HC8.out
   clear HC8
   by_cases c15 : t312 = t306
   ·
    rw [if_pos c15] at H
    have c15b0 : (t312 == t306) = true := beq_iff_eq.mpr c15
    have c15b1 : (t312 != t306) = false := bne_eq_false_iff_eq.mpr c15
    clear c15
    (first | rw [c15b0] | (simp only [i64_w, i32_w]; rw [c15b0]) | skip)
    by_cases c16 : t313 = t307
    ·
     rw [if_pos c16] at H
     have c16b0 : (t313 == t307) = true := beq_iff_eq.mpr c16
     have c16b1 : (t313 != t307) = false := bne_eq_false_iff_eq.mpr c16
     clear c16
     have H' := Aside0.mk H
     clear H
     go_wp2
     go_meet
     case rel => exact ⟨_, ((t314 != t308)), (by first | rfl | (simp; done) | (simp [*]; done)), H', ⟨by first | omega | exact Nat.le_refl _⟩, ⟨by (with_reducible repeat (first | apply Kd.R_alloc | apply Kd.R_drewN | apply Kd.R_drew)); exact Kd.R_mono HO311.out (fun _ hk => trivial)⟩, ⟨by repeat (first | (with_reducible first | exact HB.out | apply below_alloc | apply pw_below_drewN | apply below_drew1) | exact HB.out)⟩⟩
    ·
     rw [if_neg c16] at H
     have c16b0 : (t313 == t307) = false := beq_eq_false_iff_ne.mpr c16
     have c16b1 : (t313 != t307) = true := bne_iff_ne.mpr c16
     have H' := Aside0.mk H
     clear H
     go_wp2
     go_meet
     case rel => exact ⟨_, (true), (by first | rfl | (simp; done) | (simp [*]; done)), H', ⟨by first | omega | exact Nat.le_refl _⟩, ⟨by (with_reducible repeat (first | apply Kd.R_alloc | apply Kd.R_drewN | apply Kd.R_drew)); exact Kd.R_mono HO311.out (fun _ hk => trivial)⟩, ⟨by repeat (first | (with_reducible first | exact HB.out | apply below_alloc | apply pw_below_drewN | apply below_drew1) | exact HB.out)⟩⟩
   ·
    rw [if_neg c15] at H
    have c15b0 : (t312 == t306) = false := beq_eq_false_iff_ne.mpr c15
    have c15b1 : (t312 != t306) = true := bne_iff_ne.mpr c15
    (first | rw [c15b0] | (simp only [i64_w, i32_w]; rw [c15b0]) | skip)
    have H' := Aside0.mk H
    clear H
    go_wp2
    go_meet
    case rel => exact ⟨_, (true), (by first | rfl | (simp; done) | (simp [*]; done)), H', ⟨by first | omega | exact Nat.le_refl _⟩, ⟨by (with_reducible repeat (first | apply Kd.R_alloc | apply Kd.R_drewN | apply Kd.R_drew)); exact Kd.R_mono HO311.out (fun _ hk => trivial)⟩, ⟨by repeat (first | (with_reducible first | exact HB.out | apply below_alloc | apply pw_below_drewN | apply below_drew1) | exact HB.out)⟩⟩
  case rest =>
   clear HC8
   try clear c1
   try clear p2
   try clear c3
   try clear c3b0
   try clear c10
   try clear c11
   try clear c12
   try clear c13
   try clear c15
   try clear c15b0
   try clear c15b1
   try clear c16
   try clear c16b0
   try clear c16b1
   obtain ⟨kq, x43_7, rfl, HA, HJ7, HO_7, HB⟩ := hcut
   cases kq with
   | zero => exact absurd HA.out (by simp [laws_FnExactStrainOf.j0])
   | succ kj7 =>
    have H := HA.out
    clear HA
    simp only [laws_FnExactStrainOf.j0] at H
    by_cases c17 : x43_7 = true
    ·
     subst c17
     have H1 : (some false) = some r := by rw [if_pos rfl] at H; exact H
     clear H
     have H := H1
     clear H1
     obtain rfl := Option.some.inj H
     go_wp2
     go_ret
     exact ⟨by first | rfl | (simp [errW_none, errW_some] <;> rfl) | (simp [*, errW_none, errW_some] <;> rfl), by repeat (first | (with_reducible first | exact HB.out | apply below_alloc | apply pw_below_drewN | apply below_drew1) | exact HB.out)⟩
    ·
     replace c17 := Bool.eq_false_iff.mpr c17
     subst c17
     have H1 : ((laws_toLegS.f kj7 l0).bind fun t315 => ((laws_eqLegS.f kj7 t309 t315).bind fun t318 => (if t318 = true then (some true) else (some false)))) = some r := by rw [if_neg (show ¬ (false = true) by decide)] at H; exact H
     clear H
     have H := H1
     clear H1
     replace H := Option.bind_eq_some_iff.mp H
     obtain ⟨t315, A180, H⟩ := H
     replace H : ((laws_eqLegS.f kj7 t309 t315).bind fun t318 => (if t318 = true then (some true) else (some false))) = some r := H
     have A18 := Aside0.mk A180
     clear A180
     replace H := Option.bind_eq_some_iff.mp H
     obtain ⟨t318, A190, H⟩ := H
     replace H : (if t318 = true then (some true) else (some false)) = some r := H
     have A19 := Aside0.mk A190
     clear A190
     by_cases c20 : t318 = true
     ·
      subst c20
      have H1 : (some true) = some r := by rw [if_pos rfl] at H; exact H
      clear H
      have H := H1
      clear H1
      obtain rfl := Option.some.inj H
      go_wp2_with (first | ((with_reducible refine gate_callee (f := 12) rfl ?_); refine goesL_ (some 46) rfl rfl Tryd.func12 (by kernel_rfl) rfl #[.slice A0 l0.length c0] rfl (by (try simp only [List.map_toArray, List.map_cons, List.map_nil]); first | done | rfl | (simp only [List.length_drop, List.length_take]; rfl)) ?_; (with_reducible refine (laws_toLegS.calls kj7 _ _ l0 t315 _ ?side1 ?side2 A18.out).mono ?_); (case side1 => repeat (first | exact (Kd.C_below HR0.out HB.out) | (with_reducible refine Kd.C_alloc ?_ _) | (with_reducible refine Kd.C_drewN ?_ _) | (with_reducible refine Kd.C_drew ?_))); (case side2 => exact HC0.out); rintro e w21 ⟨v316, rfl, ho0, hb⟩; refine ⟨_, rfl, ?_⟩; have n0_ := Aside0.mk (Kd.R_elder' (by (with_reducible repeat (first | apply Kd.R_alloc | apply Kd.R_drewN | apply Kd.R_drew)); exact HO_7.out) (Kd.R_base ho0) hb); have n1_ := Aside0.mk (Kd.R_lower (Kd.R_new' ho0 (Kd.R_lt (by (with_reducible repeat (first | apply Kd.R_alloc | apply Kd.R_drewN | apply Kd.R_drew)); exact HO_7.out))) (below_size (by repeat (first | (with_reducible first | exact HB.out | apply below_alloc | apply pw_below_drewN | apply below_drew1) | exact HB.out)))); have n2_ := Aside0.mk (below_step (by repeat (first | (with_reducible first | exact HB.out | apply below_alloc | apply pw_below_drewN | apply below_drew1) | exact HB.out)) hb); clear HO_7; clear HB; have HO_7 := n0_; have HO317 := n1_; have HB := n2_; clear n0_ n1_ n2_; (try clear hb); (try clear hb2); (try clear hk); (try clear hi); (try clear ho0); obtain ⟨Ao22, co22, eo22⟩ := Kd.R_slice HO317.out; subst eo22) | ((with_reducible refine gate_callee (f := 14) rfl ?_); refine goesL_ (some 47) rfl rfl Tryd.func14 (by kernel_rfl) rfl #[.slice Ao13 t309.length co13, .slice Ao22 t315.length co22] rfl (by (try simp only [List.map_toArray, List.map_cons, List.map_nil]); first | done | rfl | (simp only [List.length_drop, List.length_take]; rfl)) ?_; (with_reducible refine (laws_eqLegS.calls kj7 _ _ t309 _ _ t315 true _ ?side1 ?side2 ?side3 ?side4 A19.out).mono ?_); (case side1 => repeat (first | exact (Kd.R_reads' HO_7.out).2.2 | (with_reducible refine Kd.C_alloc ?_ _) | (with_reducible refine Kd.C_drewN ?_ _) | (with_reducible refine Kd.C_drew ?_))); (case side2 => exact (Kd.R_reads' HO_7.out).2.1); (case side3 => repeat (first | exact (Kd.R_reads' HO317.out).2.2 | (with_reducible refine Kd.C_alloc ?_ _) | (with_reducible refine Kd.C_drewN ?_ _) | (with_reducible refine Kd.C_drew ?_))); (case side4 => exact (Kd.R_reads' HO317.out).2.1); rintro e w23 ⟨rfl, hb⟩; refine ⟨_, rfl, ?_⟩; have n0_ := Aside0.mk (Kd.R_below (by (with_reducible repeat (first | apply Kd.R_alloc | apply Kd.R_drewN | apply Kd.R_drew)); exact HO_7.out) hb); have n1_ := Aside0.mk (Kd.R_below (by (with_reducible repeat (first | apply Kd.R_alloc | apply Kd.R_drewN | apply Kd.R_drew)); exact HO317.out) hb); have n2_ := Aside0.mk (below_step (by repeat (first | (with_reducible first | exact HB.out | apply below_alloc | apply pw_below_drewN | apply below_drew1) | exact HB.out)) hb); clear HO_7; clear HO317; clear HB; have HO_7 := n0_; have HO317 := n1_; have HB := n2_; clear n0_ n1_ n2_; (try clear hb); (try clear hb2); (try clear hk); (try clear hi)))
      go_ret
      exact ⟨by first | rfl | (simp [errW_none, errW_some] <;> rfl) | (simp [*, errW_none, errW_some] <;> rfl), by repeat (first | (with_reducible first | exact HB.out | apply below_alloc | apply pw_below_drewN | apply below_drew1) | exact HB.out)⟩
     ·
      replace c20 := Bool.eq_false_iff.mpr c20
      subst c20
      have H1 : (some false) = some r := by rw [if_neg (show ¬ (false = true) by decide)] at H; exact H
      clear H
      have H := H1
      clear H1
      obtain rfl := Option.some.inj H
      go_wp2_with (first | ((with_reducible refine gate_callee (f := 12) rfl ?_); refine goesL_ (some 46) rfl rfl Tryd.func12 (by kernel_rfl) rfl #[.slice A0 l0.length c0] rfl (by (try simp only [List.map_toArray, List.map_cons, List.map_nil]); first | done | rfl | (simp only [List.length_drop, List.length_take]; rfl)) ?_; (with_reducible refine (laws_toLegS.calls kj7 _ _ l0 t315 _ ?side1 ?side2 A18.out).mono ?_); (case side1 => repeat (first | exact (Kd.C_below HR0.out HB.out) | (with_reducible refine Kd.C_alloc ?_ _) | (with_reducible refine Kd.C_drewN ?_ _) | (with_reducible refine Kd.C_drew ?_))); (case side2 => exact HC0.out); rintro e w24 ⟨v316, rfl, ho0, hb⟩; refine ⟨_, rfl, ?_⟩; have n0_ := Aside0.mk (Kd.R_elder' (by (with_reducible repeat (first | apply Kd.R_alloc | apply Kd.R_drewN | apply Kd.R_drew)); exact HO_7.out) (Kd.R_base ho0) hb); have n1_ := Aside0.mk (Kd.R_lower (Kd.R_new' ho0 (Kd.R_lt (by (with_reducible repeat (first | apply Kd.R_alloc | apply Kd.R_drewN | apply Kd.R_drew)); exact HO_7.out))) (below_size (by repeat (first | (with_reducible first | exact HB.out | apply below_alloc | apply pw_below_drewN | apply below_drew1) | exact HB.out)))); have n2_ := Aside0.mk (below_step (by repeat (first | (with_reducible first | exact HB.out | apply below_alloc | apply pw_below_drewN | apply below_drew1) | exact HB.out)) hb); clear HO_7; clear HB; have HO_7 := n0_; have HO317 := n1_; have HB := n2_; clear n0_ n1_ n2_; (try clear hb); (try clear hb2); (try clear hk); (try clear hi); (try clear ho0); obtain ⟨Ao25, co25, eo25⟩ := Kd.R_slice HO317.out; subst eo25) | ((with_reducible refine gate_callee (f := 14) rfl ?_); refine goesL_ (some 47) rfl rfl Tryd.func14 (by kernel_rfl) rfl #[.slice Ao13 t309.length co13, .slice Ao25 t315.length co25] rfl (by (try simp only [List.map_toArray, List.map_cons, List.map_nil]); first | done | rfl | (simp only [List.length_drop, List.length_take]; rfl)) ?_; (with_reducible refine (laws_eqLegS.calls kj7 _ _ t309 _ _ t315 false _ ?side1 ?side2 ?side3 ?side4 A19.out).mono ?_); (case side1 => repeat (first | exact (Kd.R_reads' HO_7.out).2.2 | (with_reducible refine Kd.C_alloc ?_ _) | (with_reducible refine Kd.C_drewN ?_ _) | (with_reducible refine Kd.C_drew ?_))); (case side2 => exact (Kd.R_reads' HO_7.out).2.1); (case side3 => repeat (first | exact (Kd.R_reads' HO317.out).2.2 | (with_reducible refine Kd.C_alloc ?_ _) | (with_reducible refine Kd.C_drewN ?_ _) | (with_reducible refine Kd.C_drew ?_))); (case side4 => exact (Kd.R_reads' HO317.out).2.1); rintro e w26 ⟨rfl, hb⟩; refine ⟨_, rfl, ?_⟩; have n0_ := Aside0.mk (Kd.R_below (by (with_reducible repeat (first | apply Kd.R_alloc | apply Kd.R_drewN | apply Kd.R_drew)); exact HO_7.out) hb); have n1_ := Aside0.mk (Kd.R_below (by (with_reducible repeat (first | apply Kd.R_alloc | apply Kd.R_drewN | apply Kd.R_drew)); exact HO317.out) hb); have n2_ := Aside0.mk (below_step (by repeat (first | (with_reducible first | exact HB.out | apply below_alloc | apply pw_below_drewN | apply below_drew1) | exact HB.out)) hb); clear HO_7; clear HO317; clear HB; have HO_7 := n0_; have HO317 := n1_; have HB := n2_; clear n0_ n1_ n2_; (try clear hb); (try clear hb2); (try clear hk); (try clear hi)))
      go_ret
      exact ⟨by first | rfl | (simp [errW_none, errW_some] <;> rfl) | (simp [*, errW_none, errW_some] <;> rfl), by repeat (first | (with_reducible first | exact HB.out | apply below_alloc | apply pw_below_drewN | apply below_drew1) | exact HB.out)⟩

end Go.Proofs.YtpojnobgijoddaaDoor.A

/- Slices of legs that a law copies and compares. No conditions. -/
namespace Go.Proofs.YtpojnobgijoddaaDoor.Legs
open Go.RowKit Go.Proofs.YtpojnobgijoddaaDoorW.PrintWords Go.Proofs.YtpojnobgijoddaaDoor.Plain Go.Proofs.YtpojnobgijoddaaDoor.A
set_option linter.unusedVariables false
set_option linter.unusedSimpArgs false
def cv (x : S47) : S45 := ⟨x.f0, x.f1, x.f2, x.f3, x.f4⟩
theorem toLegs_ev (l : List (S47)) (hb : l.length ≤ 7036874417766) : Ev (fun k => laws_toLegS.f k l) (l.map cv) := by
  unfold laws_toLegS.f
  refine Ev.pos (by omega) ?_
  refine Ev.pos (by omega) ?_
  exact copy_all laws_toLegS.l0 cv z47 _ (fun k x0 x3 x4 => by simp only [laws_toLegS.l0, laws_toLeg.f, Option.bind_some]; rfl) l (by omega)
theorem eqLegs_ev (l : List (S45)) (hb : l.length ≤ 140737488351232) : Ev (fun k => laws_eqLegS.f k l l) true := by
  unfold laws_eqLegS.f
  refine Ev.pos rfl ?_
  exact eq_all laws_eqLegS.l0 (fun k x0 x4 h0 => by
    simp only [laws_eqLegS.l0, laws_eqLeg.f, if_true, Option.bind_some]
    by_cases h : x4 < (x0.length : Int)
    · rw [if_pos h, if_pos h0, if_pos h, if_pos h]
    · rw [if_neg h, if_neg h]) l hb
theorem szLegs_eq (l : List (S47)) (hb : l.length ≤ 140737488351232) : laws_szLegS.f l 1048576 = some (if l.length ≤ 1048576 then 1048576 - (l.length : Int) else -1) := by
  unfold laws_szLegS.f
  rw [w64 (by omega) (by omega)]
  by_cases h : l.length ≤ 1048576
  · rw [if_neg (by omega), if_pos h]
  · rw [if_pos (by omega), if_neg h]
end Go.Proofs.YtpojnobgijoddaaDoor.Legs

/- The reference's residual of a leg, in plain. -/
namespace Go.Proofs.YtpojnobgijoddaaDoor.Net
open Go.RowKit Go.Proofs.YtpojnobgijoddaaDoorW.PrintWords Go.Proofs.YtpojnobgijoddaaDoor.Plain Go.Proofs.YtpojnobgijoddaaDoor.A
set_option linter.unusedVariables false
set_option linter.unusedSimpArgs false
theorem specRest_eq (x : S45) (h : Good x) (axis : Int) (h0 : 0 ≤ axis) (h2 : axis ≤ 2) (cs : List Int) (h8 : cs.length = 8) (den : Int) : spec_l9Rest.f x.f0 x.f1 x.f2 x.f3 x.f4 axis cs den = some (resM x axis cs den) := by
  unfold spec_l9Rest.f
  rw [measure_eq x h axis h0 h2, Option.bind_some]
  obtain ⟨⟨a0, a8⟩, ⟨d0, d8⟩, _⟩ := h
  rw [if_pos (by omega), if_pos (by omega), if_pos (by omega), if_pos (by omega)]
  rfl
theorem specRest {ls : L} (hn : ls.length ≤ 12) (hg : ∀ x ∈ ls, Good x) (ax : Int) (h0 : 0 ≤ ax) (h2 : ax ≤ 2) {i : Int} (hi : i ∈ usedL ls) : spec_l9Rest.f (rd_T45 ls i).f0 (rd_T45 ls i).f1 (rd_T45 ls i).f2 (rd_T45 ls i).f3 (rd_T45 ls i).f4 ax (coL ls ax) (treesM ls) = some (nT ls ax i) := by
  have hr := usedL_range ls i hi
  obtain ⟨m, rfl⟩ := Int.eq_ofNat_of_zero_le hr.1
  have hx : Good (leg ls (m : Int)) := hg _ (leg_mem (by omega))
  have h := specRest_eq (leg ls (m : Int)) hx ax h0 h2 (coL ls ax) (coL_len ls ax) (treesM ls)
  rw [res_all hn hg ax hi] at h
  exact h
end Go.Proofs.YtpojnobgijoddaaDoor.Net

/- The reference's residuals and squares, in plain. -/
namespace Go.Proofs.YtpojnobgijoddaaDoor.Net
open Go.RowKit Go.Proofs.YtpojnobgijoddaaDoorW.PrintWords Go.Proofs.YtpojnobgijoddaaDoor.Plain Go.Proofs.YtpojnobgijoddaaDoor.A
set_option linter.unusedVariables false
set_option linter.unusedSimpArgs false
theorem squares_loop {ls : L} (hn : ls.length ≤ 12) (hg : ∀ x ∈ ls, Good x) (ax : Int) (h0 : 0 ≤ ax) (h2 : ax ≤ 2) : ∀ (d j : Nat), j + d = (usedL ls).length →
    Ev (fun k => spec_l9Squares.l0 k ls ax (coL ls ax) (treesM ls) (sqTo (resL ls ax) j) (usedL ls) (j : Int)) (redN (SA ls ax) (treesM ls * treesM ls), redD (SA ls ax) (treesM ls * treesM ls)) := by
  have hul := usedL_len ls
  have hrl : (resL ls ax).length = (usedL ls).length := by unfold resL; rw [List.length_map]
  intro d
  induction d with
  | zero =>
    intro j hj
    have ht1 := trees_pos hn hg
    have ht2 := trees_le hn hg
    have hs := SA_bound hn hg ax
    have hsq : treesM ls * treesM ls ≤ 6561 * 6561 := Int.mul_le_mul ht2 ht2 (by omega) (by omega)
    have hsp : 0 < treesM ls * treesM ls := Int.mul_pos (by omega) (by omega)
    have e : sqTo (resL ls ax) j = SA ls ax := by rw [← sqTo_all hn hg ax, hrl, show j = (usedL ls).length by omega]
    rw [e]
    refine Ev.step (f := fun k => (spec_l9Reduce.f k (SA ls ax) (wrap64 (treesM ls * treesM ls))).bind fun bt => some (bt.1, bt.2)) (fun k => ?_) ?_
    · simp only [spec_l9Squares.l0]
      rw [if_neg (by omega)]
    · rw [w64 (by omega) (by omega)]
      exact Ev.bind (l9Reduce_ev (SA ls ax) (treesM ls * treesM ls) hsp (by omega) (by omega) (by omega)) (Ev.now _)
  | succ d ih =>
    intro j hj
    have hlt : j < (usedL ls).length := by omega
    have h := ih (j + 1) (by omega)
    have hm : rd (usedL ls) (j : Int) ∈ usedL ls := by rw [rd_get _ j hlt]; exact List.getElem_mem hlt
    have hr := usedL_range ls _ hm
    have hs := specRest hn hg ax h0 h2 hm
    have e : sqTo (resL ls ax) (j + 1) = wrap64 (sqTo (resL ls ax) j + wrap64 (nT ls ax (rd (usedL ls) (j : Int)) * nT ls ax (rd (usedL ls) (j : Int)))) := by
      rw [sqTo_step _ j (by omega)]
      have e2 : rd (resL ls ax) (j : Int) = nT ls ax (rd (usedL ls) (j : Int)) := by
        rw [rd_get _ j (by omega), rd_get _ j hlt]
        unfold resL
        rw [List.getElem_map]
      rw [e2]
    refine Ev.step (fun k => ?_) h
    simp only [spec_l9Squares.l0]
    rw [if_pos (by omega), if_pos (by omega), if_pos hr.1, if_pos hr.2, hs, Option.bind_some, e, w64 (x := (j : Int) + 1) (by omega) (by omega)]
    rfl
theorem l9Squares_ev {ls : L} (hv : legsB ls = true) (ax : Int) (h0 : 0 ≤ ax) (h2 : ax ≤ 2) : Ev (fun k => spec_l9Squares.f k ls ax) (redN (SA ls ax) (treesM ls * treesM ls), redD (SA ls ax) (treesM ls * treesM ls)) := by
  have h' := legsB_iff.mp hv
  have ht : spec_l9Trees.f ls = some (treesM ls) := by unfold spec_l9Trees.f; rw [if_pos hv]
  have ha : spec_l9Adjust.f ls ax = some (coL ls ax) := by unfold spec_l9Adjust.f; rw [if_pos ⟨hv, h0, h2⟩]
  exact Ev.bindc ha (Ev.bindc ht (Ev.bind (l9Legs_ev h'.2 h'.1) (squares_loop h'.2 h'.1 ax h0 h2 (usedL ls).length 0 (by omega))))
end Go.Proofs.YtpojnobgijoddaaDoor.Net

/- The reference's strain and its comparison of strains, in plain. -/
namespace Go.Proofs.YtpojnobgijoddaaDoor.Net
open Go.RowKit Go.Proofs.YtpojnobgijoddaaDoorW.PrintWords Go.Proofs.YtpojnobgijoddaaDoor.Plain Go.Proofs.YtpojnobgijoddaaDoor.A Go.Proofs.YtpojnobgijoddaaDoor.Frac
set_option linter.unusedVariables false
set_option linter.unusedSimpArgs false
theorem common_ev (a b : Int) (ha : 0 ≤ a) (hb : 0 < b) : Ev (fun k => spec_l10Common.f k a b) (Int.gcd a b : Int) := by
  obtain ⟨z, hz, hs, K, hK⟩ := gcd_loop (g := spec_l10Common.l0) (fin := fun a => a) (fun k a => by
    unfold spec_l10Common.l0; rw [if_pos rfl]) (fun k a b hb => by
    conv => lhs; unfold spec_l10Common.l0
    rw [if_neg hb]) (b.natAbs + 1) a b (by omega)
  have h0 := hs ha (by omega)
  rw [show ((Int.gcd a b : Nat) : Int) = z by omega]
  exact ⟨K, fun k hk => hK k hk⟩
theorem strain_step {ls : L} (hv : legsB ls = true) (ax : Int) (h0 : 0 ≤ ax) (h2 : ax ≤ 2) {num den N : Int} (hR : Red num den N (treesM ls)) (hN : 0 ≤ N) (hN2 : N ≤ 59049000000) :
    ∃ num' den', Red num' den' (N + AM ls ax) (treesM ls) ∧ ∀ v, Ev (fun k => spec_l10Strain.l0 k ls num' den' (ax + 1)) v → Ev (fun k => spec_l10Strain.l0 k ls num den ax) v := by
  have h' := legsB_iff.mp hv
  have ht := trees_pos h'.2 h'.1
  have ht2 := trees_le h'.2 h'.1
  have hsp : 0 < treesM ls * treesM ls := Int.mul_pos (by omega) (by omega)
  have hq := squares_red h'.2 h'.1 (red_red (n := SA ls ax) hsp)
  have hsq := l9Squares_ev hv ax h0 h2
  generalize redN (SA ls ax) (treesM ls * treesM ls) = a at *
  generalize redD (SA ls ax) (treesM ls * treesM ls) = b at *
  have hA := AM_bound h'.2 h'.1 ax
  have hb1 := Red.le (by omega) hA.1 hq
  have hd1 := Red.le (by omega) hN hR
  have hd := hR.1
  have hb := hq.1
  have hg := gcd_small (n := den) hb (by omega)
  have hcm := common_ev den b (by omega) hb
  generalize hgg : Int.gcd den b = g at *
  have e1 : den.tdiv (g : Int) * (g : Int) = den := Int.tdiv_mul_cancel (by rw [← hgg]; exact Int.gcd_dvd_left ..)
  have e2 : b.tdiv (g : Int) * (g : Int) = b := Int.tdiv_mul_cancel (by rw [← hgg]; exact Int.gcd_dvd_right ..)
  have hsum := Red.sum hd hb (g := (g : Int)) (by omega) hR.2.2 hq.2.2 e1 e2
  have q1 := tdiv_small den g (B := 6561) (by omega) (by omega)
  have q2 := tdiv_small b g (B := 6561) (by omega) (by omega)
  have p1 : 0 ≤ den.tdiv (g : Int) := Int.tdiv_nonneg (by omega) (by omega)
  have p2 : 0 ≤ b.tdiv (g : Int) := Int.tdiv_nonneg (by omega) (by omega)
  have w1 := wtdiv den g (by omega) (by omega)
  have w2 := wtdiv b g (by omega) (by omega)
  have hdp : 0 < den.tdiv (g : Int) := by
    rcases Int.lt_or_le 0 (den.tdiv (g : Int)) with c | c
    · exact c
    · exfalso
      rw [show den.tdiv (g : Int) = 0 by omega] at e1
      omega
  generalize hu : den.tdiv (g : Int) = u at *
  generalize htt : b.tdiv (g : Int) = t at *
  have m1 : num * t ≤ 59049000000 * 6561 := Int.mul_le_mul (by omega) (by omega) (by omega) (by omega)
  have m2 : a * u ≤ 59049000000 * 6561 := Int.mul_le_mul (by omega) (by omega) (by omega) (by omega)
  have m3 : u * b ≤ 6561 * 6561 := Int.mul_le_mul (by omega) (by omega) (by omega) (by omega)
  have n1 : 0 ≤ num * t := Int.mul_nonneg (by omega) (by omega)
  have n2 : 0 ≤ a * u := Int.mul_nonneg (by omega) (by omega)
  have n3 : 0 < u * b := Int.mul_pos hdp hb
  have x1 : wrap64 (num * t) = num * t := w64 (by omega) (by omega)
  have x2 : wrap64 (a * u) = a * u := w64 (by omega) (by omega)
  have x3 : wrap64 (u * b) = u * b := w64 (by omega) (by omega)
  have x4 : wrap64 (num * t + a * u) = num * t + a * u := w64 (by omega) (by omega)
  have hred := l9Reduce_ev (num * t + a * u) (u * b) n3 (by omega) (by omega) (by omega)
  have hR2 := Red.change (T := treesM ls) (N := N + AM ls ax) n3 (red_red (n := num * t + a * u) n3) hsum
  refine ⟨_, _, hR2, fun v hv2 => ?_⟩
  have hax : wrap64 (ax + 1) = ax + 1 := w64 (by omega) (by omega)
  refine Ev.step (f := fun k => (spec_l9Squares.f k ls ax).bind fun bt250 => ((spec_l10Common.f k den bt250.2).bind fun t252 => (if t252 = 0 then (none) else ((spec_l10Common.f k den bt250.2).bind fun t253 => (if t253 = 0 then (none) else ((spec_l10Common.f k den bt250.2).bind fun t254 => (if t254 = 0 then (none) else ((spec_l9Reduce.f k (wrap64 ((wrap64 (num * (wrap64 (Int.tdiv bt250.2 t252)))) + (wrap64 (bt250.1 * (wrap64 (Int.tdiv den t253)))))) (wrap64 ((wrap64 (Int.tdiv den t254)) * bt250.2))).bind fun bt255 => (spec_l10Strain.l0 k ls bt255.1 bt255.2 (wrap64 (ax + 1))))))))))) (fun k => ?_) ?_
  · conv => lhs; unfold spec_l10Strain.l0
    rw [if_pos (by omega)]
  · refine Ev.bind hsq (Ev.bind hcm (Ev.neg (by omega) (Ev.bind hcm (Ev.neg (by omega) (Ev.bind hcm (Ev.neg (by omega) ?_))))))
    simp only [w1, w2, htt, hu, x1, x2, x3, x4, hax]
    exact Ev.bind hred hv2
theorem strain_ev {ls : L} (hv : legsB ls = true) : Ev (fun k => spec_l10Strain.f k ls) (sNum ls, sDen ls) := by
  have h' := legsB_iff.mp hv
  have ht := trees_pos h'.2 h'.1
  have a0 := AM_bound h'.2 h'.1 0
  have a1 := AM_bound h'.2 h'.1 1
  have a2 := AM_bound h'.2 h'.1 2
  obtain ⟨n1, d1, r1, s1⟩ := strain_step hv 0 (by decide) (by decide) (num := 0) (den := 1) (N := 0) ⟨by decide, by decide, by omega⟩ (by decide) (by decide)
  obtain ⟨n2, d2, r2, s2⟩ := strain_step hv 1 (by decide) (by decide) r1 (by omega) (by omega)
  obtain ⟨n3, d3, r3, s3⟩ := strain_step hv 2 (by decide) (by decide) r2 (by omega) (by omega)
  have hs := sRed h'.2 h'.1
  rw [show (0 : Int) + AM ls 0 + AM ls 1 + AM ls 2 = sN ls from by unfold sN; omega] at r3
  obtain ⟨e1, e2⟩ := Red.unique (by omega) r3 hs
  rw [← e1, ← e2]
  refine s1 _ (s2 _ (s3 _ ?_))
  refine Ev.step (f := fun _ => some (n3, d3)) (fun k => ?_) (Ev.now _)
  conv => lhs; unfold spec_l10Strain.l0
  rw [if_neg (by omega)]
end Go.Proofs.YtpojnobgijoddaaDoor.Net

/- The law FnExactStrainOf, as a plain statement: the program's StrainOf answers what the reference's answers. Conditions: those of the row's own reading. -/
namespace Go.Proofs.YtpojnobgijoddaaDoor.Pure
open Go.RowKit Go.Proofs.YtpojnobgijoddaaDoorW.PrintWords Go.Proofs.YtpojnobgijoddaaDoor.Plain Go.Proofs.YtpojnobgijoddaaDoor.A Go.Proofs.YtpojnobgijoddaaDoor.Legs
set_option linter.unusedVariables false
set_option linter.unusedSimpArgs false
theorem strainOf_ev (ls : Net.L) (hb : ls.length ≤ 140737488351232) : Ev (fun k => spec_StrainOf.f k ls) (strM ls) := by
  refine Ev.bind (Net.l4Legs_ev ls hb) ?_
  unfold strM
  by_cases hv : Net.legsB ls = true
  · rw [if_pos hv]
    exact Ev.pos hv (Ev.bind (Net.strain_ev hv) (Ev.now _))
  · rw [if_neg hv]
    exact Ev.neg hv (Ev.now _)
theorem FnExactStrainOf (l0 : List (S47)) (hb : l0.length * 40 ≤ 140737488351232) (_ : ∀ x ∈ l0, (Lit.int .i64 x.f0).wf = true ∧ (Lit.int .i64 x.f1).wf = true ∧ (Lit.int .i64 x.f2).wf = true ∧ (Lit.int .i64 x.f3).wf = true ∧ (Lit.int .i64 x.f4).wf = true) : ∃ k, laws_FnExactStrainOf.f k l0 = some true := by
  refine Ev.rounds ?_
  have hl : (l0.map cv).length = l0.length := by simp
  have hsz := szLegs_eq l0 (by omega)
  by_cases c : l0.length ≤ 1048576
  · rw [if_pos c] at hsz
    have hs := strainOf_ev (l0.map cv) (by omega)
    have hi : impl_StrainOf.f (l0.map cv) = some (strM (l0.map cv)) := by unfold impl_StrainOf.f; rw [if_pos (by omega)]
    generalize strM (l0.map cv) = B at *
    obtain ⟨b0, b1, b2⟩ := B
    have hlegs := toLegs_ev l0 (by omega)
    refine Ev.bindc hsz (Ev.neg (by omega) ?_)
    refine Ev.bind hlegs (Ev.bind hs (Ev.bind hlegs (Ev.bindc hi (Ev.pos rfl (Ev.pos rfl ?_)))))
    refine Ev.step (f := fun k => (laws_toLegS.f k l0).bind fun t => (laws_eqLegS.f k (l0.map cv) t).bind fun t' => if t' = true then some true else some false) (fun k => ?_) ?_
    · simp only [laws_FnExactStrainOf.j0, bne_self_eq_false, Bool.false_eq_true, if_false]
    · exact Ev.bind hlegs (Ev.bind (eqLegs_ev _ (by omega)) (Ev.pos rfl (Ev.now _)))
  · rw [if_neg c] at hsz
    exact Ev.bindc hsz (Ev.pos (by decide) (Ev.now _))
end Go.Proofs.YtpojnobgijoddaaDoor.Pure

/- General laws by which a law's arguments are opened: a slice of structs whose fields are integers or bools, as a row of the print's kinds; a struct by value. No conditions. -/
namespace Go.Proofs.YtpojnobgijoddaaDoor.Opens
open Go.ChangeShapes Go.WideShapes Go.Deep Go.RowKit Go.Proofs.YtpojnobgijoddaaDoorW.PrintWords

theorem list_of {α : Type} {P : Nat → α → Prop} : ∀ (n : Nat), (∀ i, i < n → ∃ x, P i x) → ∃ xs : List α, xs.length = n ∧ ∀ i x, xs[i]? = some x → P i x
  | 0, _ => ⟨[], rfl, fun i x h => by simp at h⟩
  | n + 1, h => by
    obtain ⟨xs, hl, hx⟩ := list_of n (fun i hi => h i (Nat.lt_succ_of_lt hi))
    obtain ⟨y, hy⟩ := h n (Nat.lt_succ_self n)
    refine ⟨xs ++ [y], by simp [hl], fun i x hi => ?_⟩
    by_cases hlt : i < xs.length
    · rw [List.getElem?_append_left hlt] at hi
      exact hx i x hi
    · rw [List.getElem?_append_right (by omega)] at hi
      have h0 : i - xs.length = 0 := by
        have := (List.getElem?_eq_some_iff.1 hi).1
        simp at this
        omega
      rw [h0] at hi
      simp at hi
      subst hi
      have : i = n := by omega
      subst this
      exact hy

section
variable {H : Type} {enc : TypeId × Value → H} {P : Program} {w : World} {base : Nat} {spare : Nat → Bool} {held : Bool}
/-- A slice of structs, opened: the list of what its elements are, each by the kind's own reading. -/
theorem open_row {α : Type} (d : Kd α) {Q : α → Prop} {t e : TypeId} {a : Option Addr} {len cap : Nat} {dd : DataW H} {ps : List MemPlace} (ht : P.underlying t = some (.slice e)) (hC : P.cellsOf e = d.sz)
    (hd : ∀ n cs y, DataW.trod enc P w base spare held n e cs = some y → ∃ x, d.K w x cs ∧ Q x)
    (h : DataW.Trod enc P w base spare held t (.slice a len cap) dd ps) : ∃ xs : List α, xs.length = len ∧ len ≤ cap ∧ d.C w a len xs ∧ ∀ x ∈ xs, Q x := by
  obtain ⟨fuel, hf⟩ := h
  rcases open_slice ht hf with ⟨hcs, _⟩ | ⟨x, l, c, m, n, D, Pl, hcs, _, hl, hm, hmm, _, hi⟩
  · simp [Value.cells] at hcs
    obtain ⟨rfl, rfl, rfl⟩ := hcs
    exact ⟨[], rfl, Nat.le_refl _, ⟨rfl, by omega, fun h => by omega⟩, fun x hx => by simp at hx⟩
  · simp [Value.cells] at hcs
    obtain ⟨rfl, rfl, rfl⟩ := hcs
    have hle : len ≤ m := by subst hmm; split <;> omega
    obtain ⟨xs, hxl, hx⟩ := list_of (P := fun i (z : α) => Q z ∧ ∃ cs, d.K w z cs ∧ w.cells? base (x.add (i * d.sz)) d.sz = some cs) len (fun i hil => by
      obtain ⟨cs, h1, h2⟩ := hi i (by omega)
      rw [hC] at h1
      obtain ⟨z, h3, h4⟩ := hd _ _ _ h2
      exact ⟨z, h4, cs, h3, h1⟩)
    refine ⟨xs, hxl, hl, ⟨hxl, by unfold maxLen at hm; omega, fun _ => ⟨x, rfl, fun j p hp => ?_⟩⟩, fun z hz => ?_⟩
    · obtain ⟨_, cs, h1, h2⟩ := hx j p hp
      obtain ⟨_, hlen, hat⟩ := World.cells?_some h2
      refine ⟨cs, hlen, h1, fun i u hu => ?_⟩
      have hil : i < d.sz := by have := (List.getElem?_eq_some_iff.1 hu).1; omega
      rw [← Go.Deep.add_add, hat i hil, hu]
    · obtain ⟨j, hj⟩ := List.getElem?_of_mem hz
      exact (hx j z hj).1

theorem sized_row {t e : TypeId} {a : Option Addr} {len cap : Nat} {d : DataW H} {ps : List MemPlace} {ts : List TypeId} {ds : List (DataW H)} {j : Nat}
    (hsz : (DataW.weightsEach P ts ds).all (· ≤ reachBytes) = true) (ht : ts[j]? = some t) (hd : ds[j]? = some d) (hu : P.underlying t = some (.slice e)) {B : Nat} (hB : P.bytesOf e = B)
    (h : DataW.Trod enc P w base spare held t (.slice a len cap) d ps) : len * B ≤ 140737488351232 := by
  obtain ⟨fuel, hf⟩ := h
  rcases open_slice hu hf with ⟨hcs, _⟩ | ⟨x, l, c, m, n, D, Pl, hcs, _, hl, hm, hmm, hx, hi⟩
  · simp [Value.cells] at hcs
    obtain ⟨rfl, rfl, rfl⟩ := hcs
    simp
  · simp [Value.cells] at hcs
    obtain ⟨rfl, rfl, rfl⟩ := hcs
    obtain ⟨hx, _⟩ := Prod.mk.inj hx
    subst hx
    have z := sized_slice hsz ht hd hu
    rw [hB] at z
    simp only [List.length_map, List.length_range] at z
    have hle : len ≤ m := by subst hmm; split <;> omega
    rw [show len + (m - len) = m by omega] at z
    exact Nat.le_trans (Nat.mul_le_mul_right _ hle) z

theorem one_field {f : Field} {cs : List Value} {o c : Nat} (ho : f.offset = o) (hc : P.cellsOf f.type = c) {n : Nat} {y : Option (DataW H × List MemPlace)} (h : DataW.trod enc P w base spare held n f.type ((cs.drop f.offset).take (P.cellsOf f.type)) = y) : DataW.trod enc P w base spare held n f.type ((cs.drop o).take c) = y := by rw [← ho, ← hc]; exact h
end
theorem len5 {α : Type} : ∀ {l : List α}, l.length = 5 → ∃ x0 x1 x2 x3 x4, l = [x0, x1, x2, x3, x4]
  | [x0, x1, x2, x3, x4], _ => ⟨x0, x1, x2, x3, x4, rfl⟩
end Go.Proofs.YtpojnobgijoddaaDoor.Opens

namespace Go.Proofs.YtpojnobgijoddaaDoor.fnExactStrainOf
open Go.ChangeShapes Go.WideShapes Go.ChangeAt Go.RowKit
open Go.ChangeMaps (open_string shut_string)
open Go.Proofs.YtpojnobgijoddaaDoor.A Go.Proofs.YtpojnobgijoddaaDoorW.PrintWords Go.Proofs.YtpojnobgijoddaaDoor.Opens
set_option linter.unusedVariables false
theorem own : ownKnob Tryd.prog.godebug = none := by kernel_rfl
theorem laidOut : laidOutB Tryd.prog = true := by kernel_rfl
theorem open_47 {H : Type} {enc : TypeId × Value → H} {w : World} {base : Nat} {spare : Nat → Bool} {held : Bool} {n : Nat} {cs : List Value} {y : DataW H × List MemPlace} (h : DataW.trod enc Tryd.prog w base spare held n 47 cs = some y) : ∃ (x0 : Int) (x1 : Int) (x2 : Int) (x3 : Int) (x4 : Int), cs = [.int .i64 x0, .int .i64 x1, .int .i64 x2, .int .i64 x3, .int .i64 x4] ∧ (Lit.int .i64 x0).wf = true ∧ (Lit.int .i64 x1).wf = true ∧ (Lit.int .i64 x2).wf = true ∧ (Lit.int .i64 x3).wf = true ∧ (Lit.int .i64 x4).wf = true := by
  obtain ⟨ys, n', _, _, hlen, hys, hf⟩ := DataW.trod_struct Tryd.underlying47 h
  replace hlen : cs.length = 5 := hlen.trans (by kernel_rfl)
  replace hys : ys.length = 5 := hys.trans (by kernel_rfl)
  clear h
  obtain ⟨c0, c1, c2, c3, c4, rfl⟩ := len5 hlen
  obtain ⟨y0, y1, y2, y3, y4, rfl⟩ := len5 hys
  have h0 : DataW.trod enc Tryd.prog w base spare held n' 3 [c0] = some y0 := one_field (c := 1) (o := 0) rfl (by kernel_rfl) (hf 0 _ rfl)
  obtain ⟨x0, e0, _, w0⟩ := DataW.trod_int Tryd.underlying3 h0
  obtain rfl : c0 = _ := (List.cons.inj e0).1
  have h1 : DataW.trod enc Tryd.prog w base spare held n' 3 [c1] = some y1 := one_field (c := 1) (o := 1) rfl (by kernel_rfl) (hf 1 _ rfl)
  obtain ⟨x1, e1, _, w1⟩ := DataW.trod_int Tryd.underlying3 h1
  obtain rfl : c1 = _ := (List.cons.inj e1).1
  have h2 : DataW.trod enc Tryd.prog w base spare held n' 3 [c2] = some y2 := one_field (c := 1) (o := 2) rfl (by kernel_rfl) (hf 2 _ rfl)
  obtain ⟨x2, e2, _, w2⟩ := DataW.trod_int Tryd.underlying3 h2
  obtain rfl : c2 = _ := (List.cons.inj e2).1
  have h3 : DataW.trod enc Tryd.prog w base spare held n' 3 [c3] = some y3 := one_field (c := 1) (o := 3) rfl (by kernel_rfl) (hf 3 _ rfl)
  obtain ⟨x3, e3, _, w3⟩ := DataW.trod_int Tryd.underlying3 h3
  obtain rfl : c3 = _ := (List.cons.inj e3).1
  have h4 : DataW.trod enc Tryd.prog w base spare held n' 3 [c4] = some y4 := one_field (c := 1) (o := 4) rfl (by kernel_rfl) (hf 4 _ rfl)
  obtain ⟨x4, e4, _, w4⟩ := DataW.trod_int Tryd.underlying3 h4
  obtain rfl : c4 = _ := (List.cons.inj e4).1
  exact ⟨x0, x1, x2, x3, x4, rfl, w0, w1, w2, w3, w4⟩
set_option maxRecDepth 100000 in
theorem lifted (os : Os) (started : os.Started) (H : Type) (enc : TypeId × Value → H) :
    ReturnsInHanded {} Tryd.checked os 3 .any (fun w args => (Rows.fnExactStrainOfSpec.pre enc Tryd.prog Tryd.f3 [] false w args ∧ laidMetH Tryd.prog LaidT.list w) ∧ sizedMet enc Tryd.prog Tryd.f3 (OpenSpec.ofChange Rows.fnExactStrainOfSpec) false w args) (Rows.fnExactStrainOfSpec.post enc Tryd.prog Tryd.f3 false true false false) := by
  refine returnsInHanded_of_change_and (C := Tryd.checked) (X := fun w _ => laidMetH Tryd.prog LaidT.list w) (fun _ _ _ hh h => h.of_heap hh) own started (by kernel_rfl) Tryd.func3
    (ChangeSpec.witness_shaped (enc := enc) (C := Tryd.checked) (os := os) (X := fun w _ => laidMetH Tryd.prog LaidT.list w) false (World.doorLaid Tryd.prog 400 os) #[.slice none 0 0] 8 rfl (World.shaped_of_RefB (by kernel_rfl) (by kernel_rfl)) (by kernel_rfl) (by kernel_rfl) (by kernel_rfl) (LaidT.door_met os _)) ?_
  intro W base args ds gs before hval0 hW hcnd hsz0 hL _
  have hsz : (DataW.weightsEach Tryd.prog (Tryd.f3.params.toList ++ Rows.fnExactStrainOfSpec.plain.varTypes Tryd.prog) (ds ++ gs)).all (· ≤ reachBytes) = true := hsz0
  have hval : ∀ (j : Nat) t v, Tryd.f3.params[j]? = some t → args[j]? = some v → Value.okWide Tryd.prog W .any base t v := hval0
  have hW' := hW
  obtain ⟨p, q, hA0, hV, rfl, hfz, hnd⟩ := hW
  have hA : DataW.TrodAll enc Tryd.prog W 0 (fun _ => true) true Tryd.f3.params.toList args.toList ds p := hA0
  rw [Tryd.params3] at hA hval hsz
  obtain ⟨v0, vs0, d0, ds0, p0, q0, hargs, rfl, rfl, h0, r0⟩ := trodAll_cons hA
  obtain ⟨rfl, rfl, rfl⟩ := trodAll_nil r0
  obtain rfl : args = #[v0] := by cases args; simp_all
  have hV2 := hV
  obtain ⟨_, _, _, _, gd, _, rfl, _, _, _, _, _⟩ := trodVars_one hV
  have k0 := h0
  have lt0 : ∀ x ∈ p0, x.block < W.heap.size := by obtain ⟨m, hm⟩ := k0; exact DataW.trod_lt m _ _ _ hm
  obtain ⟨a0, len0, cap0, rfl⟩ := okWide_slice Tryd.underlying22 (hval 0 22 v0 rfl rfl)
  obtain ⟨l0, hl0, hc0, hr0, hw0⟩ := Opens.open_row k47 (Q := fun x => (Lit.int .i64 x.f0).wf = true ∧ (Lit.int .i64 x.f1).wf = true ∧ (Lit.int .i64 x.f2).wf = true ∧ (Lit.int .i64 x.f3).wf = true ∧ (Lit.int .i64 x.f4).wf = true) (e := 47) Tryd.underlying22 (by kernel_rfl) (fun _ _ _ h => by obtain ⟨x0, x1, x2, x3, x4, rfl, hw⟩ := open_47 h; exact ⟨⟨x0, x1, x2, x3, x4⟩, k47_mk _ _, hw⟩) h0
  have y0 : len0 * 40 ≤ 140737488351232 := Opens.sized_row hsz (j := 0) (t := 22) rfl rfl Tryd.underlying22 (by kernel_rfl) h0
  subst hl0
  clear hA0 hval0 hsz0 hsz
  obtain ⟨k, hk⟩ := Pure.FnExactStrainOf l0 y0 hw0
  refine (laws_FnExactStrainOf.calls k _ _ l0 true W hr0 hc0 hk (LaidT.of_laid hL)).mono fun e W' ⟨he, hb⟩ => ?_
  have bel : Below W.heap.size W W' := hb
  subst he
  exact ⟨_, rfl, _, _, _, [], _, _, hW', trodAll_mk1 (shut_bool Tryd.underlying4 _), (trodAll_cons_mk (Below.trod laidOut (by kernel_rfl) (of_decide_eq_true (by kernel_rfl)) k0 bel lt0) trodAll_mk0), Below.trodVars laidOut bel (by kernel_rfl) hV2, bel.frame _, fun h => by cases h⟩
theorem over : Rows.fnExactStrainOfRow.holds Tryd.pinned (OpenSpec.ofChange Rows.fnExactStrainOfSpec) :=
  OpenClaim.holds_of_wide 3 Tryd.f3 rfl rfl rfl rfl rfl rfl rfl ⟨rfl, rfl, rfl, rfl, rfl⟩ rfl rfl rfl rfl rfl (by kernel_rfl) Tryd.func3 (by kernel_rfl)
    (of_decide_eq_true (by kernel_rfl)) (by unfold Func.isWrapper; first | (rw [if_pos (by decide +kernel)]; kernel_rfl) | (rw [if_neg (by decide +kernel)]; exact ⟨rfl, rfl⟩))
    (fun os started H enc _ => lifted os started H enc)
theorem proved : Rows.FnExactStrainOfSaid := over
theorem card_holds : Rows.FnExactStrainOfCardSaid :=
  Claim7.holds_tied_plain_at .later [] [.data] true (true, "f35521ca9b23a7300210d85882e5526660475bb4885cbb0315ff34c42be0a49d") false
    over (fun _ h => by cases h) (by kernel_rfl) (fun _ h => by cases h) fnExactStrainOf_row_tie rfl ⟨rfl, rfl⟩ (by kernel_rfl) rfl
    (fun f fn hf hfn => by
      obtain rfl : f = 3 := Option.some.inj ((show Tryd.prog.funcNamed "loop.example/g00933/laws.FnExactStrainOf" = some 3 by kernel_rfl).symm.trans hf) |>.symm
      obtain rfl : fn = Tryd.f3 := (Option.some.inj (Tryd.func3.symm.trans hfn)).symm
      exact ⟨by kernel_rfl, fun j t ht => by
        rw [Tryd.params3] at ht
        have hm : t ∈ [22] := by simpa using Array.mem_of_getElem? ht
        have hall : ([22].all fun u => !Tryd.prog.wantsStandIn u) = true := by kernel_rfl
        exact (show Tryd.prog.wantsStandIn t = false by simpa using List.all_eq_true.1 hall t hm)⟩)
    (by kernel_rfl)
#print axioms card_holds
end Go.Proofs.YtpojnobgijoddaaDoor.fnExactStrainOf
namespace Go.Proofs.YtpojnobgijoddaaDoor
/-- The row, under a short name, for the claim. -/
theorem fnExactStrainOf_holds : Rows.FnExactStrainOfCardSaid := fnExactStrainOf.card_holds
end Go.Proofs.YtpojnobgijoddaaDoor
