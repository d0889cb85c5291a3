/- One Lean function and its proof for each Go function that the law reaches, written by a program out of the translation. No conditions. -/
import Derived.Test.YtlipaiabjcaeiaaKFnDeclinations0
import Derived.Test.YtlipaiabjcaeiaaKFnDeclinations1
import Derived.Test.YtlipaiabjcaeiaaKFnDeclinations2
import Derived.Test.YtlipaiabjcaeiaaKFnDeclinations3
import Derived.Test.YtlipaiabjcaeiaaKFnDeclinations4
namespace Go.Proofs.Ytlipaiabjcaeiaa.A
open Go.RowKit Go.Proofs.YtlipaiabjcaeiaaW.PrintWords Go.Proofs.YtlipaiabjcaeiaaW.PrintLast Go.Proofs.YtlipaiabjcaeiaaW.PrintMore
attribute [local go_sem] max2_int min2_int max_two min_two max_three min_three max_four min_four   -- for this text's walks alone
set_option linter.unusedVariables false
set_option linter.unusedSimpArgs false

/-! ### spec_DaysWith: function 21 -/
mutual
def spec_DaysWith.j0 : Nat → List (S56) → Int → Bool → Option (Int × Int × Bool)
 | 0, _, _, _ => none
 | k + 1, x0, x1, x17 => if x17 = true then (some (0, 0, false)) else (spec_DaysWith.l0 k x0 x1 (-1) (-1) 0)
def spec_DaysWith.l0 : Nat → List (S56) → Int → Int → Int → Int → Option (Int × Int × Bool)
 | 0, _, _, _, _, _ => none
 | k + 1, x0, x1, x7, x8, x9 => if x9 ≤ 999 then ((spec_l11On.f k x0 x9).bind fun t400 => (if t400 = x1 then (if x7 < 0 then (spec_DaysWith.l0 k x0 x1 x9 x9 (wrap64 (x9 + 1))) else (spec_DaysWith.l0 k x0 x1 x7 x9 (wrap64 (x9 + 1)))) else (spec_DaysWith.l0 k x0 x1 x7 x8 (wrap64 (x9 + 1))))) else (if x7 < 0 then (some (0, 0, false)) else (some (x7, x8, true)))
end
def spec_DaysWith.f (k : Nat) (l0 : List (S56)) (a1 : Int) : Option (Int × Int × Bool) := (spec_l11Good.f k l0).bind fun t398 => (if t398 = true then ((spec_l11Tenths.f a1).bind fun t399 => (spec_DaysWith.j0 k l0 a1 (!t399))) else (spec_DaysWith.j0 k l0 a1 true))
theorem spec_DaysWith.mono_l : ∀ k, (∀ y0 y1 y2, LeO (spec_DaysWith.j0 k y0 y1 y2) (spec_DaysWith.j0 (k + 1) y0 y1 y2)) ∧ (∀ y0 y1 y2 y3 y4, LeO (spec_DaysWith.l0 k y0 y1 y2 y3 y4) (spec_DaysWith.l0 (k + 1) y0 y1 y2 y3 y4))
 | 0 => ⟨fun _ _ _ r h => by simp [spec_DaysWith.j0] at h, fun _ _ _ _ _ r h => by simp [spec_DaysWith.l0] at h⟩
 | k + 1 => by
  obtain ⟨ih0, ih1⟩ := spec_DaysWith.mono_l k
  refine ⟨?_, ?_⟩
  ·
   intro y0 y1 y2
   unfold spec_DaysWith.j0
   repeat' first
   | (with_reducible exact ih0 _ _ _)
   | (with_reducible exact ih1 _ _ _ _ _)
   | (with_reducible exact spec_l11Good.mono _ _)
   | (with_reducible exact spec_l11On.mono _ _ _)
   | (with_reducible exact LeO.refl _)
   | (with_reducible exact LeO.none _)
   | (with_reducible refine LeO.ite ?_ ?_)
   | (with_reducible refine LeO.bind ?_ (fun _ => ?_))
   | exact ih0 _ _ _
   | exact ih1 _ _ _ _ _
   | exact spec_l11Good.mono _ _
   | exact spec_l11On.mono _ _ _
   | exact LeO.none _
   | refine LeO.ite ?_ ?_
   | refine LeO.bind ?_ (fun _ => ?_)
  ·
   intro y0 y1 y2 y3 y4
   unfold spec_DaysWith.l0
   repeat' first
   | (with_reducible exact ih0 _ _ _)
   | (with_reducible exact ih1 _ _ _ _ _)
   | (with_reducible exact spec_l11Good.mono _ _)
   | (with_reducible exact spec_l11On.mono _ _ _)
   | (with_reducible exact LeO.refl _)
   | (with_reducible exact LeO.none _)
   | (with_reducible refine LeO.ite ?_ ?_)
   | (with_reducible refine LeO.bind ?_ (fun _ => ?_))
   | exact ih0 _ _ _
   | exact ih1 _ _ _ _ _
   | exact spec_l11Good.mono _ _
   | exact spec_l11On.mono _ _ _
   | exact LeO.none _
   | refine LeO.ite ?_ ?_
   | refine LeO.bind ?_ (fun _ => ?_)
theorem spec_DaysWith.mono : ∀ a0 a1 k, LeO (spec_DaysWith.f k a0 a1) (spec_DaysWith.f (k + 1) a0 a1) := by
 intro a0 a1 k
 obtain ⟨ih0, ih1⟩ := spec_DaysWith.mono_l k
 unfold spec_DaysWith.f
 repeat' first
   | (with_reducible exact ih0 _ _ _)
   | (with_reducible exact ih1 _ _ _ _ _)
   | (with_reducible exact spec_l11Good.mono _ _)
   | (with_reducible exact spec_l11On.mono _ _ _)
   | (with_reducible exact LeO.refl _)
   | (with_reducible exact LeO.none _)
   | (with_reducible refine LeO.ite ?_ ?_)
   | (with_reducible refine LeO.bind ?_ (fun _ => ?_))
   | exact ih0 _ _ _
   | exact ih1 _ _ _ _ _
   | exact spec_l11Good.mono _ _
   | exact spec_l11On.mono _ _ _
   | exact LeO.none _
   | refine LeO.ite ?_ ?_
   | refine LeO.bind ?_ (fun _ => ?_)
set_option maxHeartbeats 8000000 in
set_option maxRecDepth 100000 in
theorem spec_DaysWith.calls (k : Nat) (A0 : Option Addr) (c0 : Nat) (l0 : List (S56)) (a1 : Int) (r1 : Int) (r2 : Int) (r3 : Bool) (w : World) (hr0 : Kd.C k56 w A0 l0.length l0) (hc0 : l0.length ≤ c0) (h : spec_DaysWith.f k l0 a1 = some (r1, r2, r3)) :
  Calls Try.prog 21 #[.slice A0 l0.length c0, .int .i64 a1] w fun e w' => e = .returned (.tuple #[.int .i64 r1, .int .i64 r2, .bool r3]) ∧ Below w.heap.size w w' := by
 have HR0 := Aside0.mk hr0
 have HC0 := Aside0.mk hc0
 clear hr0 hc0
 have HB := Aside0.mk (Below.refl w.heap.size w)
 have H : ((spec_l11Good.f k l0).bind fun t398 => (if t398 = true then ((spec_l11Tenths.f a1).bind fun t399 => (spec_DaysWith.j0 k l0 a1 (!t399))) else (spec_DaysWith.j0 k l0 a1 true))) = some (r1, r2, r3) := h
 clear h
 have HC3 := Aside0.mk H
 clear H
 go_enter Try.func21, Try.ntmps21
 go_upto_region 1 with (fail)
 go_cut [17] (fun v17 wc => ∃ (kq : Nat) (x17_2 : Bool), v17 = .bool x17_2 ∧ Aside0 (spec_DaysWith.j0 kq l0 a1 x17_2 = some (r1, r2, r3)) ∧ Aside0 (kq ≤ k) ∧ Aside0 (Below w.heap.size w wc))
 case first =>
  have H := HC3.out
  clear HC3
  replace H := Option.bind_eq_some_iff.mp H
  obtain ⟨t398, A40, H⟩ := H
  replace H : (if t398 = true then ((spec_l11Tenths.f a1).bind fun t399 => (spec_DaysWith.j0 k l0 a1 (!t399))) else (spec_DaysWith.j0 k l0 a1 true)) = some (r1, r2, r3) := H
  have A4 := Aside0.mk A40
  clear A40
  by_cases c5 : t398 = true
  ·
   subst c5
   have H1 : ((spec_l11Tenths.f a1).bind fun t399 => (spec_DaysWith.j0 k l0 a1 (!t399))) = some (r1, r2, r3) := by rw [if_pos rfl] at H; exact H
   clear H
   have H := H1
   clear H1
   replace H := Option.bind_eq_some_iff.mp H
   obtain ⟨t399, A60, H⟩ := H
   replace H : (spec_DaysWith.j0 k l0 a1 (!t399)) = some (r1, r2, r3) := H
   have A6 := Aside0.mk A60
   clear A60
   have H' := Aside0.mk H
   clear H
   go_wp2_with (first | ((with_reducible refine gate_callee (f := 54) rfl ?_); refine goesL_ (some 11) rfl rfl Try.func54 (by kernel_rfl) rfl #[.slice A0 l0.length c0] rfl (by (try simp only [List.map_toArray, List.map_cons, List.map_nil]); first | done | rfl | (simp only [List.length_drop, List.length_take]; rfl)) ?_; (with_reducible refine (spec_l11Good.calls k _ _ l0 true _ ?side1 ?side2 A4.out).mono ?_); (case side1 => repeat (first | exact (Kd.C_below HR0.out HB.out) | (with_reducible refine Kd.C_alloc ?_ _) | (with_reducible refine Kd.C_drewN ?_ _) | (with_reducible refine Kd.C_drew ?_))); (case side2 => exact HC0.out); rintro e w7 ⟨rfl, hb⟩; refine ⟨_, rfl, ?_⟩; have n0_ := Aside0.mk (below_step (by repeat (first | (with_reducible first | exact HB.out | apply below_alloc | apply pw_below_drewN | apply below_drew1) | exact HB.out)) hb); clear HB; have HB := n0_; clear n0_; (try clear hb); (try clear hb2); (try clear hk); (try clear hi)) | (go_at_call 61; (with_reducible refine (spec_l11Tenths.calls a1 t399 _ A6.out).mono ?_); rintro e w' ⟨rfl, ⟨nd, rfl⟩⟩))
   go_meet
   case rel => exact ⟨_, (!t399), (by first | rfl | (simp; done) | (simp [*]; done)), H', ⟨by first | omega | exact Nat.le_refl _⟩, ⟨by repeat (first | (with_reducible first | exact HB.out | apply below_alloc | apply pw_below_drewN | apply below_drew1) | exact HB.out)⟩⟩
  ·
   replace c5 := Bool.eq_false_iff.mpr c5
   subst c5
   have H1 : (spec_DaysWith.j0 k l0 a1 true) = some (r1, r2, r3) := by rw [if_neg (show ¬ (false = true) by decide)] at H; exact H
   clear H
   have H := H1
   clear H1
   have H' := Aside0.mk H
   clear H
   go_wp2_with (first | ((with_reducible refine gate_callee (f := 54) rfl ?_); refine goesL_ (some 11) rfl rfl Try.func54 (by kernel_rfl) rfl #[.slice A0 l0.length c0] rfl (by (try simp only [List.map_toArray, List.map_cons, List.map_nil]); first | done | rfl | (simp only [List.length_drop, List.length_take]; rfl)) ?_; (with_reducible refine (spec_l11Good.calls k _ _ l0 false _ ?side1 ?side2 A4.out).mono ?_); (case side1 => repeat (first | exact (Kd.C_below HR0.out HB.out) | (with_reducible refine Kd.C_alloc ?_ _) | (with_reducible refine Kd.C_drewN ?_ _) | (with_reducible refine Kd.C_drew ?_))); (case side2 => exact HC0.out); rintro e w8 ⟨rfl, hb⟩; refine ⟨_, rfl, ?_⟩; have n0_ := Aside0.mk (below_step (by repeat (first | (with_reducible first | exact HB.out | apply below_alloc | apply pw_below_drewN | apply below_drew1) | exact HB.out)) hb); clear HB; have HB := n0_; clear n0_; (try clear hb); (try clear hb2); (try clear hk); (try clear hi)))
   go_meet
   case rel => exact ⟨_, (true), (by first | rfl | (simp; done) | (simp [*]; done)), H', ⟨by first | omega | exact Nat.le_refl _⟩, ⟨by repeat (first | (with_reducible first | exact HB.out | apply below_alloc | apply pw_below_drewN | apply below_drew1) | exact HB.out)⟩⟩
 case rest =>
  clear HC3
  try clear c2
  try clear p2
  try clear c5
  obtain ⟨kq, x17_2, rfl, HA, HJ2, HB⟩ := hcut
  cases kq with
  | zero => exact absurd HA.out (by simp [spec_DaysWith.j0])
  | succ kj2 =>
   have H := HA.out
   clear HA
   simp only [spec_DaysWith.j0] at H
   by_cases c9 : x17_2 = true
   ·
    subst c9
    have H1 : (some (0, 0, false)) = some (r1, r2, r3) := by rw [if_pos rfl] at H; exact H
    clear H
    have H := H1
    clear H1
    simp only [Option.some.injEq, Prod.mk.injEq] at H
    obtain ⟨rfl, rfl, rfl⟩ := H
    go_wp2
    go_ret3
    exact ⟨by first | rfl | (simp [errW_none, errW_some] <;> rfl) | (simp [*, errW_none, errW_some] <;> rfl), by repeat (first | (with_reducible first | exact HB.out | apply below_alloc | apply pw_below_drewN | apply below_drew1) | exact HB.out)⟩
   ·
    replace c9 := Bool.eq_false_iff.mpr c9
    subst c9
    have H1 : (spec_DaysWith.l0 kj2 l0 a1 (-1) (-1) 0) = some (r1, r2, r3) := by rw [if_neg (show ¬ (false = true) by decide)] at H; exact H
    clear H
    have H := H1
    clear H1
    have H' := Aside0.mk H
    clear H
    go_wp2
    go_loopg [7, 8, 9] kj2 (fun kq v7 v8 v9 w' => ∃ (x7_2 : Int) (x8_2 : Int) (x9_2 : Int), v7 = .int .i64 x7_2 ∧ v8 = .int .i64 x8_2 ∧ v9 = .int .i64 x9_2 ∧ Aside0 (spec_DaysWith.l0 kq l0 a1 x7_2 x8_2 x9_2 = some (r1, r2, r3)) ∧ Aside0 (kq ≤ kj2) ∧ Aside0 (Below w.heap.size w w'))
    case atStart => exact ⟨((-1)), ((-1)), (0), (by first | rfl | (simp; done) | (simp [*]; done)), (by first | rfl | (simp; done) | (simp [*]; done)), (by first | rfl | (simp; done) | (simp [*]; done)), H', ⟨Nat.le_refl _⟩, ⟨by repeat (first | (with_reducible first | exact HB.out | apply below_alloc | apply pw_below_drewN | apply below_drew1) | exact HB.out)⟩⟩
    case round =>
     clear H'
     try clear c2
     try clear p2
     try clear c5
     try clear c9
     try clear p2
     obtain ⟨x7_2, x8_2, x9_2, rfl, rfl, rfl, HA, HK2, HB⟩ := hrel
     cases gk with
     | zero => exact absurd HA.out (by simp [spec_DaysWith.l0])
     | succ k2 =>
      have H := HA.out
      clear HA
      simp only [spec_DaysWith.l0] at H
      by_cases c10 : x9_2 ≤ 999
      ·
       rw [if_pos c10] at H
       have c10b0 : decide (x9_2 ≤ 999) = true := decide_eq_true c10
       clear c10
       replace H := Option.bind_eq_some_iff.mp H
       obtain ⟨t400, A110, H⟩ := H
       replace H : (if t400 = a1 then (if x7_2 < 0 then (spec_DaysWith.l0 k2 l0 a1 x9_2 x9_2 (wrap64 (x9_2 + 1))) else (spec_DaysWith.l0 k2 l0 a1 x7_2 x9_2 (wrap64 (x9_2 + 1)))) else (spec_DaysWith.l0 k2 l0 a1 x7_2 x8_2 (wrap64 (x9_2 + 1)))) = some (r1, r2, r3) := H
       have A11 := Aside0.mk A110
       clear A110
       by_cases c12 : t400 = a1
       ·
        rw [if_pos c12] at H
        have c12b0 : (t400 == a1) = true := beq_iff_eq.mpr c12
        have c12b1 : (t400 != a1) = false := bne_eq_false_iff_eq.mpr c12
        clear c12
        by_cases c13 : x7_2 < 0
        ·
         rw [if_pos c13] at H
         have c13b0 : decide (x7_2 < 0) = true := decide_eq_true c13
         clear c13
         have H' := Aside0.mk H
         clear H
         go_wp2_with (first | ((with_reducible refine gate_callee (f := 57) rfl ?_); refine goesL_ (some 24) rfl rfl Try.func57 (by kernel_rfl) rfl #[.slice A0 l0.length c0, .int .i64 x9_2] rfl (by (try simp only [List.map_toArray, List.map_cons, List.map_nil]); first | done | rfl | (simp only [List.length_drop, List.length_take]; rfl)) ?_; (with_reducible refine (spec_l11On.calls k2 _ _ l0 x9_2 t400 _ ?side1 ?side2 A11.out).mono ?_); (case side1 => repeat (first | exact (Kd.C_below HR0.out HB.out) | (with_reducible refine Kd.C_alloc ?_ _) | (with_reducible refine Kd.C_drewN ?_ _) | (with_reducible refine Kd.C_drew ?_))); (case side2 => exact HC0.out); rintro e w14 ⟨rfl, hb⟩; refine ⟨_, rfl, ?_⟩; have n0_ := Aside0.mk (below_step (by repeat (first | (with_reducible first | exact HB.out | apply below_alloc | apply pw_below_drewN | apply below_drew1) | exact HB.out)) hb); clear HB; have HB := n0_; clear n0_; (try clear hb); (try clear hb2); (try clear hk); (try clear hi)))
         go_roundg k2
         case measure => have := HJ2.out; have := HK2.out; omega
         case rel => exact ⟨(x9_2), (x9_2), (wrap64 (x9_2 + 1)), (by first | rfl | (simp; done) | (simp [*]; done)), (by first | rfl | (simp; done) | (simp [*]; done)), (by first | rfl | (simp; done) | (simp [*]; done)), H', ⟨by have := HJ2.out; have := HK2.out; omega⟩, ⟨by repeat (first | (with_reducible first | exact HB.out | apply below_alloc | apply pw_below_drewN | apply below_drew1) | exact HB.out)⟩⟩
        ·
         rw [if_neg c13] at H
         have c13b0 : decide (x7_2 < 0) = false := decide_eq_false c13
         clear c13
         have H' := Aside0.mk H
         clear H
         go_wp2_with (first | ((with_reducible refine gate_callee (f := 57) rfl ?_); refine goesL_ (some 24) rfl rfl Try.func57 (by kernel_rfl) rfl #[.slice A0 l0.length c0, .int .i64 x9_2] rfl (by (try simp only [List.map_toArray, List.map_cons, List.map_nil]); first | done | rfl | (simp only [List.length_drop, List.length_take]; rfl)) ?_; (with_reducible refine (spec_l11On.calls k2 _ _ l0 x9_2 t400 _ ?side1 ?side2 A11.out).mono ?_); (case side1 => repeat (first | exact (Kd.C_below HR0.out HB.out) | (with_reducible refine Kd.C_alloc ?_ _) | (with_reducible refine Kd.C_drewN ?_ _) | (with_reducible refine Kd.C_drew ?_))); (case side2 => exact HC0.out); rintro e w15 ⟨rfl, hb⟩; refine ⟨_, rfl, ?_⟩; have n0_ := Aside0.mk (below_step (by repeat (first | (with_reducible first | exact HB.out | apply below_alloc | apply pw_below_drewN | apply below_drew1) | exact HB.out)) hb); clear HB; have HB := n0_; clear n0_; (try clear hb); (try clear hb2); (try clear hk); (try clear hi)))
         go_roundg k2
         case measure => have := HJ2.out; have := HK2.out; omega
         case rel => exact ⟨(x7_2), (x9_2), (wrap64 (x9_2 + 1)), (by first | rfl | (simp; done) | (simp [*]; done)), (by first | rfl | (simp; done) | (simp [*]; done)), (by first | rfl | (simp; done) | (simp [*]; done)), H', ⟨by have := HJ2.out; have := HK2.out; omega⟩, ⟨by repeat (first | (with_reducible first | exact HB.out | apply below_alloc | apply pw_below_drewN | apply below_drew1) | exact HB.out)⟩⟩
       ·
        rw [if_neg c12] at H
        have c12b0 : (t400 == a1) = false := beq_eq_false_iff_ne.mpr c12
        have c12b1 : (t400 != a1) = true := bne_iff_ne.mpr c12
        have H' := Aside0.mk H
        clear H
        go_wp2_with (first | ((with_reducible refine gate_callee (f := 57) rfl ?_); refine goesL_ (some 24) rfl rfl Try.func57 (by kernel_rfl) rfl #[.slice A0 l0.length c0, .int .i64 x9_2] rfl (by (try simp only [List.map_toArray, List.map_cons, List.map_nil]); first | done | rfl | (simp only [List.length_drop, List.length_take]; rfl)) ?_; (with_reducible refine (spec_l11On.calls k2 _ _ l0 x9_2 t400 _ ?side1 ?side2 A11.out).mono ?_); (case side1 => repeat (first | exact (Kd.C_below HR0.out HB.out) | (with_reducible refine Kd.C_alloc ?_ _) | (with_reducible refine Kd.C_drewN ?_ _) | (with_reducible refine Kd.C_drew ?_))); (case side2 => exact HC0.out); rintro e w16 ⟨rfl, hb⟩; refine ⟨_, rfl, ?_⟩; have n0_ := Aside0.mk (below_step (by repeat (first | (with_reducible first | exact HB.out | apply below_alloc | apply pw_below_drewN | apply below_drew1) | exact HB.out)) hb); clear HB; have HB := n0_; clear n0_; (try clear hb); (try clear hb2); (try clear hk); (try clear hi)))
        go_roundg k2
        case measure => have := HJ2.out; have := HK2.out; omega
        case rel => exact ⟨(x7_2), (x8_2), (wrap64 (x9_2 + 1)), (by first | rfl | (simp; done) | (simp [*]; done)), (by first | rfl | (simp; done) | (simp [*]; done)), (by first | rfl | (simp; done) | (simp [*]; done)), H', ⟨by have := HJ2.out; have := HK2.out; omega⟩, ⟨by repeat (first | (with_reducible first | exact HB.out | apply below_alloc | apply pw_below_drewN | apply below_drew1) | exact HB.out)⟩⟩
      ·
       rw [if_neg c10] at H
       have c10b0 : decide (x9_2 ≤ 999) = false := decide_eq_false c10
       clear c10
       by_cases c17 : x7_2 < 0
       ·
        rw [if_pos c17] at H
        have c17b0 : decide (x7_2 < 0) = true := decide_eq_true c17
        clear c17
        simp only [Option.some.injEq, Prod.mk.injEq] at H
        obtain ⟨rfl, rfl, rfl⟩ := H
        go_wp2
        go_ret3
        exact ⟨by first | rfl | (simp [errW_none, errW_some] <;> rfl) | (simp [*, errW_none, errW_some] <;> rfl), by repeat (first | (with_reducible first | exact HB.out | apply below_alloc | apply pw_below_drewN | apply below_drew1) | exact HB.out)⟩
       ·
        rw [if_neg c17] at H
        have c17b0 : decide (x7_2 < 0) = false := decide_eq_false c17
        clear c17
        simp only [Option.some.injEq, Prod.mk.injEq] at H
        obtain ⟨rfl, rfl, rfl⟩ := H
        go_wp2
        go_ret3
        exact ⟨by first | rfl | (simp [errW_none, errW_some] <;> rfl) | (simp [*, errW_none, errW_some] <;> rfl), by repeat (first | (with_reducible first | exact HB.out | apply below_alloc | apply pw_below_drewN | apply below_drew1) | exact HB.out)⟩

/-! ### spec_ArePoints: function 23 -/
def spec_ArePoints.f (k : Nat) (l0 : List (S56)) : Option (Bool) := (spec_l11Good.f k l0).bind fun t401 => (some t401)
theorem spec_ArePoints.mono : ∀ a0 k, LeO (spec_ArePoints.f k a0) (spec_ArePoints.f (k + 1) a0) := by
 intro a0 k
 unfold spec_ArePoints.f
 repeat' first
   | (with_reducible exact spec_l11Good.mono _ _)
   | (with_reducible exact LeO.refl _)
   | (with_reducible exact LeO.none _)
   | (with_reducible refine LeO.ite ?_ ?_)
   | (with_reducible refine LeO.bind ?_ (fun _ => ?_))
   | exact spec_l11Good.mono _ _
   | exact LeO.none _
   | refine LeO.ite ?_ ?_
   | refine LeO.bind ?_ (fun _ => ?_)
set_option maxHeartbeats 8000000 in
set_option maxRecDepth 100000 in
theorem spec_ArePoints.calls (k : Nat) (A0 : Option Addr) (c0 : Nat) (l0 : List (S56)) (r : Bool) (w : World) (hr0 : Kd.C k56 w A0 l0.length l0) (hc0 : l0.length ≤ c0) (h : spec_ArePoints.f k l0 = some r) :
  Calls Try.prog 23 #[.slice A0 l0.length c0] w fun e w' => e = .returned (.bool r) ∧ Below w.heap.size w w' := by
 have HR0 := Aside0.mk hr0
 have HC0 := Aside0.mk hc0
 clear hr0 hc0
 have HB := Aside0.mk (Below.refl w.heap.size w)
 have H : ((spec_l11Good.f k l0).bind fun t401 => (some t401)) = some r := h
 clear h
 replace H := Option.bind_eq_some_iff.mp H
 obtain ⟨t401, A20, H⟩ := H
 replace H : (some t401) = some r := H
 have A2 := Aside0.mk A20
 clear A20
 obtain rfl := Option.some.inj H
 go_enter Try.func23, Try.ntmps23
 go_wp2_with (first | ((with_reducible refine gate_callee (f := 54) rfl ?_); refine goesL_ (some 4) rfl rfl Try.func54 (by kernel_rfl) rfl #[.slice A0 l0.length c0] rfl (by (try simp only [List.map_toArray, List.map_cons, List.map_nil]); first | done | rfl | (simp only [List.length_drop, List.length_take]; rfl)) ?_; (with_reducible refine (spec_l11Good.calls k _ _ l0 t401 _ ?side1 ?side2 A2.out).mono ?_); (case side1 => repeat (first | exact HR0.out | (with_reducible refine Kd.C_alloc ?_ _) | (with_reducible refine Kd.C_drewN ?_ _) | (with_reducible refine Kd.C_drew ?_))); (case side2 => exact HC0.out); rintro e w3 ⟨rfl, hb⟩; refine ⟨_, rfl, ?_⟩; have n0_ := Aside0.mk (below_step (by repeat (first | (with_reducible first | exact HB.out | apply below_alloc | apply pw_below_drewN | apply below_drew1) | exact HB.out)) hb); clear HB; have HB := n0_; clear n0_; (try clear hb); (try clear hb2); (try clear hk); (try clear hi)))
 go_ret
 exact ⟨by first | rfl | (simp [errW_none, errW_some] <;> rfl) | (simp [*, errW_none, errW_some] <;> rfl), by repeat (first | (with_reducible first | exact HB.out | apply below_alloc | apply pw_below_drewN | apply below_drew1) | exact HB.out)⟩

/-! ### laws_FnDeclinations: function 3 -/
mutual
def laws_FnDeclinations.j0 : Nat → List Int → List (S56) → Int → Int → Int → Bool → Bool → Option (Bool)
 | 0, _, _, _, _, _, _, _ => none
 | k + 1, x0, x3, x4, x5, x6, x7, x72 => if x72 = true then (some false) else (if x7 = true then ((impl_MagneticBearing.f k x3 x4 x6).bind fun bt412 => ((impl_DeclinationOn.f k x3 x4).bind fun bt414 => ((impl_DaysWith.f k x3 bt414.1).bind fun bt416 => (if bt412.2 = true then (if bt412.1 = x5 then (if bt414.2 = true then (if bt416.2.2 = true then (if x4 < bt416.1 then (some false) else (if x4 > bt416.2.1 then (some false) else (laws_FnDeclinations.j1 k x0))) else (some false)) else (some false)) else (some false)) else (some false))))) else (laws_FnDeclinations.j1 k x0))
def laws_FnDeclinations.j1 : Nat → List Int → Option (Bool)
 | 0, _ => none
 | k + 1, x0 => (spec_DrawCorrectAll.f k x0).bind fun bt419 => ((impl_CorrectAll.f k bt419.1 bt419.2.1 bt419.2.2).bind fun bt428 => ((spec_CorrectAll.f k bt419.1 bt419.2.1 bt419.2.2).bind fun bt432 => (if (bt428.2 != bt432.2) = true then (laws_FnDeclinations.j2 k x0 true) else ((laws_rInts.f k bt428.1 bt432.1).bind fun t436 => (laws_FnDeclinations.j2 k x0 (!t436))))))
def laws_FnDeclinations.j2 : Nat → List Int → Bool → Option (Bool)
 | 0, _, _ => none
 | k + 1, x0, x147 => if x147 = true then (some false) else ((spec_DrawChangeBetween.f k x0).bind fun bt437 => ((impl_ChangeBetween.f k bt437.1 bt437.2.1 bt437.2.2).bind fun bt442 => ((spec_ChangeBetween.f k bt437.1 bt437.2.1 bt437.2.2).bind fun bt444 => (if bt442.1 = bt444.1 then (laws_FnDeclinations.j3 k x0 bt437.1 bt437.2.1 bt437.2.2 bt442.1 bt442.2 (bt442.2 != bt444.2)) else (laws_FnDeclinations.j3 k x0 bt437.1 bt437.2.1 bt437.2.2 bt442.1 bt442.2 true)))))
def laws_FnDeclinations.j3 : Nat → List Int → List (S56) → Int → Int → Int → Bool → Bool → Option (Bool)
 | 0, _, _, _, _, _, _, _ => none
 | k + 1, x0, x24, x25, x26, x27, x28, x175 => if x175 = true then (some false) else (if x28 = true then ((impl_ChangeBetween.f k x24 x25 0).bind fun bt446 => ((impl_ChangeBetween.f k x24 0 x26).bind fun bt448 => (if bt446.2 = true then (if bt448.2 = true then (if (wrap64 (bt446.1 + bt448.1)) = x27 then (laws_FnDeclinations.j4 k x0) else (some false)) else (some false)) else (some false)))) else (laws_FnDeclinations.j4 k x0))
def laws_FnDeclinations.j4 : Nat → List Int → Option (Bool)
 | 0, _ => none
 | k + 1, x0 => (spec_DrawDaysWith.f k x0).bind fun bt450 => ((impl_DaysWith.f k bt450.1 bt450.2).bind fun bt454 => ((spec_DaysWith.f k bt450.1 bt450.2).bind fun bt457 => (if bt454.1 = bt457.1 then (if bt454.2.1 = bt457.2.1 then (if (bt454.2.2 == bt457.2.2) = true then ((impl_ArePoints.f k bt450.1).bind fun t460 => ((spec_ArePoints.f k bt450.1).bind fun t461 => (some (t460 == t461)))) else (some false)) else (some false)) else (some false))))
end
def laws_FnDeclinations.f (k : Nat) (l0 : List Int) : Option (Bool) := (laws_rBig.f l0).bind fun t402 => (if t402 = true then (some true) else ((spec_DrawTrueBearing.f k l0).bind fun bt403 => ((impl_TrueBearing.f k bt403.1 bt403.2.1 bt403.2.2).bind fun bt408 => ((spec_TrueBearing.f k bt403.1 bt403.2.1 bt403.2.2).bind fun bt410 => (if bt408.1 = bt410.1 then (laws_FnDeclinations.j0 k l0 bt403.1 bt403.2.1 bt403.2.2 bt408.1 bt408.2 (bt408.2 != bt410.2)) else (laws_FnDeclinations.j0 k l0 bt403.1 bt403.2.1 bt403.2.2 bt408.1 bt408.2 true))))))
theorem laws_FnDeclinations.mono_l : ∀ k, (∀ y0 y1 y2 y3 y4 y5 y6, LeO (laws_FnDeclinations.j0 k y0 y1 y2 y3 y4 y5 y6) (laws_FnDeclinations.j0 (k + 1) y0 y1 y2 y3 y4 y5 y6)) ∧ (∀ y0, LeO (laws_FnDeclinations.j1 k y0) (laws_FnDeclinations.j1 (k + 1) y0)) ∧ (∀ y0 y1, LeO (laws_FnDeclinations.j2 k y0 y1) (laws_FnDeclinations.j2 (k + 1) y0 y1)) ∧ (∀ y0 y1 y2 y3 y4 y5 y6, LeO (laws_FnDeclinations.j3 k y0 y1 y2 y3 y4 y5 y6) (laws_FnDeclinations.j3 (k + 1) y0 y1 y2 y3 y4 y5 y6)) ∧ (∀ y0, LeO (laws_FnDeclinations.j4 k y0) (laws_FnDeclinations.j4 (k + 1) y0))
 | 0 => ⟨fun _ _ _ _ _ _ _ r h => by simp [laws_FnDeclinations.j0] at h, fun _ r h => by simp [laws_FnDeclinations.j1] at h, fun _ _ r h => by simp [laws_FnDeclinations.j2] at h, fun _ _ _ _ _ _ _ r h => by simp [laws_FnDeclinations.j3] at h, fun _ r h => by simp [laws_FnDeclinations.j4] at h⟩
 | k + 1 => by
  obtain ⟨ih0, ih1, ih2, ih3, ih4⟩ := laws_FnDeclinations.mono_l k
  refine ⟨?_, ?_, ?_, ?_, ?_⟩
  ·
   intro y0 y1 y2 y3 y4 y5 y6
   unfold laws_FnDeclinations.j0
   repeat' first
   | (with_reducible exact ih0 _ _ _ _ _ _ _)
   | (with_reducible exact ih1 _)
   | (with_reducible exact ih2 _ _)
   | (with_reducible exact ih3 _ _ _ _ _ _ _)
   | (with_reducible exact ih4 _)
   | (with_reducible exact impl_ArePoints.mono _ _)
   | (with_reducible exact impl_ChangeBetween.mono _ _ _ _)
   | (with_reducible exact impl_CorrectAll.mono _ _ _ _)
   | (with_reducible exact impl_DaysWith.mono _ _ _)
   | (with_reducible exact impl_DeclinationOn.mono _ _ _)
   | (with_reducible exact impl_MagneticBearing.mono _ _ _ _)
   | (with_reducible exact impl_TrueBearing.mono _ _ _ _)
   | (with_reducible exact laws_rInts.mono _ _ _)
   | (with_reducible exact spec_ArePoints.mono _ _)
   | (with_reducible exact spec_ChangeBetween.mono _ _ _ _)
   | (with_reducible exact spec_CorrectAll.mono _ _ _ _)
   | (with_reducible exact spec_DaysWith.mono _ _ _)
   | (with_reducible exact spec_DrawChangeBetween.mono _ _)
   | (with_reducible exact spec_DrawCorrectAll.mono _ _)
   | (with_reducible exact spec_DrawDaysWith.mono _ _)
   | (with_reducible exact spec_DrawTrueBearing.mono _ _)
   | (with_reducible exact spec_TrueBearing.mono _ _ _ _)
   | (with_reducible exact LeO.refl _)
   | (with_reducible exact LeO.none _)
   | (with_reducible refine LeO.ite ?_ ?_)
   | (with_reducible refine LeO.bind ?_ (fun _ => ?_))
   | exact ih0 _ _ _ _ _ _ _
   | exact ih1 _
   | exact ih2 _ _
   | exact ih3 _ _ _ _ _ _ _
   | exact ih4 _
   | exact impl_ArePoints.mono _ _
   | exact impl_ChangeBetween.mono _ _ _ _
   | exact impl_CorrectAll.mono _ _ _ _
   | exact impl_DaysWith.mono _ _ _
   | exact impl_DeclinationOn.mono _ _ _
   | exact impl_MagneticBearing.mono _ _ _ _
   | exact impl_TrueBearing.mono _ _ _ _
   | exact laws_rInts.mono _ _ _
   | exact spec_ArePoints.mono _ _
   | exact spec_ChangeBetween.mono _ _ _ _
   | exact spec_CorrectAll.mono _ _ _ _
   | exact spec_DaysWith.mono _ _ _
   | exact spec_DrawChangeBetween.mono _ _
   | exact spec_DrawCorrectAll.mono _ _
   | exact spec_DrawDaysWith.mono _ _
   | exact spec_DrawTrueBearing.mono _ _
   | exact spec_TrueBearing.mono _ _ _ _
   | exact LeO.none _
   | refine LeO.ite ?_ ?_
   | refine LeO.bind ?_ (fun _ => ?_)
  ·
   intro y0
   unfold laws_FnDeclinations.j1
   repeat' first
   | (with_reducible exact ih0 _ _ _ _ _ _ _)
   | (with_reducible exact ih1 _)
   | (with_reducible exact ih2 _ _)
   | (with_reducible exact ih3 _ _ _ _ _ _ _)
   | (with_reducible exact ih4 _)
   | (with_reducible exact impl_ArePoints.mono _ _)
   | (with_reducible exact impl_ChangeBetween.mono _ _ _ _)
   | (with_reducible exact impl_CorrectAll.mono _ _ _ _)
   | (with_reducible exact impl_DaysWith.mono _ _ _)
   | (with_reducible exact impl_DeclinationOn.mono _ _ _)
   | (with_reducible exact impl_MagneticBearing.mono _ _ _ _)
   | (with_reducible exact impl_TrueBearing.mono _ _ _ _)
   | (with_reducible exact laws_rInts.mono _ _ _)
   | (with_reducible exact spec_ArePoints.mono _ _)
   | (with_reducible exact spec_ChangeBetween.mono _ _ _ _)
   | (with_reducible exact spec_CorrectAll.mono _ _ _ _)
   | (with_reducible exact spec_DaysWith.mono _ _ _)
   | (with_reducible exact spec_DrawChangeBetween.mono _ _)
   | (with_reducible exact spec_DrawCorrectAll.mono _ _)
   | (with_reducible exact spec_DrawDaysWith.mono _ _)
   | (with_reducible exact spec_DrawTrueBearing.mono _ _)
   | (with_reducible exact spec_TrueBearing.mono _ _ _ _)
   | (with_reducible exact LeO.refl _)
   | (with_reducible exact LeO.none _)
   | (with_reducible refine LeO.ite ?_ ?_)
   | (with_reducible refine LeO.bind ?_ (fun _ => ?_))
   | exact ih0 _ _ _ _ _ _ _
   | exact ih1 _
   | exact ih2 _ _
   | exact ih3 _ _ _ _ _ _ _
   | exact ih4 _
   | exact impl_ArePoints.mono _ _
   | exact impl_ChangeBetween.mono _ _ _ _
   | exact impl_CorrectAll.mono _ _ _ _
   | exact impl_DaysWith.mono _ _ _
   | exact impl_DeclinationOn.mono _ _ _
   | exact impl_MagneticBearing.mono _ _ _ _
   | exact impl_TrueBearing.mono _ _ _ _
   | exact laws_rInts.mono _ _ _
   | exact spec_ArePoints.mono _ _
   | exact spec_ChangeBetween.mono _ _ _ _
   | exact spec_CorrectAll.mono _ _ _ _
   | exact spec_DaysWith.mono _ _ _
   | exact spec_DrawChangeBetween.mono _ _
   | exact spec_DrawCorrectAll.mono _ _
   | exact spec_DrawDaysWith.mono _ _
   | exact spec_DrawTrueBearing.mono _ _
   | exact spec_TrueBearing.mono _ _ _ _
   | exact LeO.none _
   | refine LeO.ite ?_ ?_
   | refine LeO.bind ?_ (fun _ => ?_)
  ·
   intro y0 y1
   unfold laws_FnDeclinations.j2
   repeat' first
   | (with_reducible exact ih0 _ _ _ _ _ _ _)
   | (with_reducible exact ih1 _)
   | (with_reducible exact ih2 _ _)
   | (with_reducible exact ih3 _ _ _ _ _ _ _)
   | (with_reducible exact ih4 _)
   | (with_reducible exact impl_ArePoints.mono _ _)
   | (with_reducible exact impl_ChangeBetween.mono _ _ _ _)
   | (with_reducible exact impl_CorrectAll.mono _ _ _ _)
   | (with_reducible exact impl_DaysWith.mono _ _ _)
   | (with_reducible exact impl_DeclinationOn.mono _ _ _)
   | (with_reducible exact impl_MagneticBearing.mono _ _ _ _)
   | (with_reducible exact impl_TrueBearing.mono _ _ _ _)
   | (with_reducible exact laws_rInts.mono _ _ _)
   | (with_reducible exact spec_ArePoints.mono _ _)
   | (with_reducible exact spec_ChangeBetween.mono _ _ _ _)
   | (with_reducible exact spec_CorrectAll.mono _ _ _ _)
   | (with_reducible exact spec_DaysWith.mono _ _ _)
   | (with_reducible exact spec_DrawChangeBetween.mono _ _)
   | (with_reducible exact spec_DrawCorrectAll.mono _ _)
   | (with_reducible exact spec_DrawDaysWith.mono _ _)
   | (with_reducible exact spec_DrawTrueBearing.mono _ _)
   | (with_reducible exact spec_TrueBearing.mono _ _ _ _)
   | (with_reducible exact LeO.refl _)
   | (with_reducible exact LeO.none _)
   | (with_reducible refine LeO.ite ?_ ?_)
   | (with_reducible refine LeO.bind ?_ (fun _ => ?_))
   | exact ih0 _ _ _ _ _ _ _
   | exact ih1 _
   | exact ih2 _ _
   | exact ih3 _ _ _ _ _ _ _
   | exact ih4 _
   | exact impl_ArePoints.mono _ _
   | exact impl_ChangeBetween.mono _ _ _ _
   | exact impl_CorrectAll.mono _ _ _ _
   | exact impl_DaysWith.mono _ _ _
   | exact impl_DeclinationOn.mono _ _ _
   | exact impl_MagneticBearing.mono _ _ _ _
   | exact impl_TrueBearing.mono _ _ _ _
   | exact laws_rInts.mono _ _ _
   | exact spec_ArePoints.mono _ _
   | exact spec_ChangeBetween.mono _ _ _ _
   | exact spec_CorrectAll.mono _ _ _ _
   | exact spec_DaysWith.mono _ _ _
   | exact spec_DrawChangeBetween.mono _ _
   | exact spec_DrawCorrectAll.mono _ _
   | exact spec_DrawDaysWith.mono _ _
   | exact spec_DrawTrueBearing.mono _ _
   | exact spec_TrueBearing.mono _ _ _ _
   | exact LeO.none _
   | refine LeO.ite ?_ ?_
   | refine LeO.bind ?_ (fun _ => ?_)
  ·
   intro y0 y1 y2 y3 y4 y5 y6
   unfold laws_FnDeclinations.j3
   repeat' first
   | (with_reducible exact ih0 _ _ _ _ _ _ _)
   | (with_reducible exact ih1 _)
   | (with_reducible exact ih2 _ _)
   | (with_reducible exact ih3 _ _ _ _ _ _ _)
   | (with_reducible exact ih4 _)
   | (with_reducible exact impl_ArePoints.mono _ _)
   | (with_reducible exact impl_ChangeBetween.mono _ _ _ _)
   | (with_reducible exact impl_CorrectAll.mono _ _ _ _)
   | (with_reducible exact impl_DaysWith.mono _ _ _)
   | (with_reducible exact impl_DeclinationOn.mono _ _ _)
   | (with_reducible exact impl_MagneticBearing.mono _ _ _ _)
   | (with_reducible exact impl_TrueBearing.mono _ _ _ _)
   | (with_reducible exact laws_rInts.mono _ _ _)
   | (with_reducible exact spec_ArePoints.mono _ _)
   | (with_reducible exact spec_ChangeBetween.mono _ _ _ _)
   | (with_reducible exact spec_CorrectAll.mono _ _ _ _)
   | (with_reducible exact spec_DaysWith.mono _ _ _)
   | (with_reducible exact spec_DrawChangeBetween.mono _ _)
   | (with_reducible exact spec_DrawCorrectAll.mono _ _)
   | (with_reducible exact spec_DrawDaysWith.mono _ _)
   | (with_reducible exact spec_DrawTrueBearing.mono _ _)
   | (with_reducible exact spec_TrueBearing.mono _ _ _ _)
   | (with_reducible exact LeO.refl _)
   | (with_reducible exact LeO.none _)
   | (with_reducible refine LeO.ite ?_ ?_)
   | (with_reducible refine LeO.bind ?_ (fun _ => ?_))
   | exact ih0 _ _ _ _ _ _ _
   | exact ih1 _
   | exact ih2 _ _
   | exact ih3 _ _ _ _ _ _ _
   | exact ih4 _
   | exact impl_ArePoints.mono _ _
   | exact impl_ChangeBetween.mono _ _ _ _
   | exact impl_CorrectAll.mono _ _ _ _
   | exact impl_DaysWith.mono _ _ _
   | exact impl_DeclinationOn.mono _ _ _
   | exact impl_MagneticBearing.mono _ _ _ _
   | exact impl_TrueBearing.mono _ _ _ _
   | exact laws_rInts.mono _ _ _
   | exact spec_ArePoints.mono _ _
   | exact spec_ChangeBetween.mono _ _ _ _
   | exact spec_CorrectAll.mono _ _ _ _
   | exact spec_DaysWith.mono _ _ _
   | exact spec_DrawChangeBetween.mono _ _
   | exact spec_DrawCorrectAll.mono _ _
   | exact spec_DrawDaysWith.mono _ _
   | exact spec_DrawTrueBearing.mono _ _
   | exact spec_TrueBearing.mono _ _ _ _
   | exact LeO.none _
   | refine LeO.ite ?_ ?_
   | refine LeO.bind ?_ (fun _ => ?_)
  ·
   intro y0
   unfold laws_FnDeclinations.j4
   repeat' first
   | (with_reducible exact ih0 _ _ _ _ _ _ _)
   | (with_reducible exact ih1 _)
   | (with_reducible exact ih2 _ _)
   | (with_reducible exact ih3 _ _ _ _ _ _ _)
   | (with_reducible exact ih4 _)
   | (with_reducible exact impl_ArePoints.mono _ _)
   | (with_reducible exact impl_ChangeBetween.mono _ _ _ _)
   | (with_reducible exact impl_CorrectAll.mono _ _ _ _)
   | (with_reducible exact impl_DaysWith.mono _ _ _)
   | (with_reducible exact impl_DeclinationOn.mono _ _ _)
   | (with_reducible exact impl_MagneticBearing.mono _ _ _ _)
   | (with_reducible exact impl_TrueBearing.mono _ _ _ _)
   | (with_reducible exact laws_rInts.mono _ _ _)
   | (with_reducible exact spec_ArePoints.mono _ _)
   | (with_reducible exact spec_ChangeBetween.mono _ _ _ _)
   | (with_reducible exact spec_CorrectAll.mono _ _ _ _)
   | (with_reducible exact spec_DaysWith.mono _ _ _)
   | (with_reducible exact spec_DrawChangeBetween.mono _ _)
   | (with_reducible exact spec_DrawCorrectAll.mono _ _)
   | (with_reducible exact spec_DrawDaysWith.mono _ _)
   | (with_reducible exact spec_DrawTrueBearing.mono _ _)
   | (with_reducible exact spec_TrueBearing.mono _ _ _ _)
   | (with_reducible exact LeO.refl _)
   | (with_reducible exact LeO.none _)
   | (with_reducible refine LeO.ite ?_ ?_)
   | (with_reducible refine LeO.bind ?_ (fun _ => ?_))
   | exact ih0 _ _ _ _ _ _ _
   | exact ih1 _
   | exact ih2 _ _
   | exact ih3 _ _ _ _ _ _ _
   | exact ih4 _
   | exact impl_ArePoints.mono _ _
   | exact impl_ChangeBetween.mono _ _ _ _
   | exact impl_CorrectAll.mono _ _ _ _
   | exact impl_DaysWith.mono _ _ _
   | exact impl_DeclinationOn.mono _ _ _
   | exact impl_MagneticBearing.mono _ _ _ _
   | exact impl_TrueBearing.mono _ _ _ _
   | exact laws_rInts.mono _ _ _
   | exact spec_ArePoints.mono _ _
   | exact spec_ChangeBetween.mono _ _ _ _
   | exact spec_CorrectAll.mono _ _ _ _
   | exact spec_DaysWith.mono _ _ _
   | exact spec_DrawChangeBetween.mono _ _
   | exact spec_DrawCorrectAll.mono _ _
   | exact spec_DrawDaysWith.mono _ _
   | exact spec_DrawTrueBearing.mono _ _
   | exact spec_TrueBearing.mono _ _ _ _
   | exact LeO.none _
   | refine LeO.ite ?_ ?_
   | refine LeO.bind ?_ (fun _ => ?_)
theorem laws_FnDeclinations.mono : ∀ a0 k, LeO (laws_FnDeclinations.f k a0) (laws_FnDeclinations.f (k + 1) a0) := by
 intro a0 k
 obtain ⟨ih0, ih1, ih2, ih3, ih4⟩ := laws_FnDeclinations.mono_l k
 unfold laws_FnDeclinations.f
 repeat' first
   | (with_reducible exact ih0 _ _ _ _ _ _ _)
   | (with_reducible exact ih1 _)
   | (with_reducible exact ih2 _ _)
   | (with_reducible exact ih3 _ _ _ _ _ _ _)
   | (with_reducible exact ih4 _)
   | (with_reducible exact impl_ArePoints.mono _ _)
   | (with_reducible exact impl_ChangeBetween.mono _ _ _ _)
   | (with_reducible exact impl_CorrectAll.mono _ _ _ _)
   | (with_reducible exact impl_DaysWith.mono _ _ _)
   | (with_reducible exact impl_DeclinationOn.mono _ _ _)
   | (with_reducible exact impl_MagneticBearing.mono _ _ _ _)
   | (with_reducible exact impl_TrueBearing.mono _ _ _ _)
   | (with_reducible exact laws_rInts.mono _ _ _)
   | (with_reducible exact spec_ArePoints.mono _ _)
   | (with_reducible exact spec_ChangeBetween.mono _ _ _ _)
   | (with_reducible exact spec_CorrectAll.mono _ _ _ _)
   | (with_reducible exact spec_DaysWith.mono _ _ _)
   | (with_reducible exact spec_DrawChangeBetween.mono _ _)
   | (with_reducible exact spec_DrawCorrectAll.mono _ _)
   | (with_reducible exact spec_DrawDaysWith.mono _ _)
   | (with_reducible exact spec_DrawTrueBearing.mono _ _)
   | (with_reducible exact spec_TrueBearing.mono _ _ _ _)
   | (with_reducible exact LeO.refl _)
   | (with_reducible exact LeO.none _)
   | (with_reducible refine LeO.ite ?_ ?_)
   | (with_reducible refine LeO.bind ?_ (fun _ => ?_))
   | exact ih0 _ _ _ _ _ _ _
   | exact ih1 _
   | exact ih2 _ _
   | exact ih3 _ _ _ _ _ _ _
   | exact ih4 _
   | exact impl_ArePoints.mono _ _
   | exact impl_ChangeBetween.mono _ _ _ _
   | exact impl_CorrectAll.mono _ _ _ _
   | exact impl_DaysWith.mono _ _ _
   | exact impl_DeclinationOn.mono _ _ _
   | exact impl_MagneticBearing.mono _ _ _ _
   | exact impl_TrueBearing.mono _ _ _ _
   | exact laws_rInts.mono _ _ _
   | exact spec_ArePoints.mono _ _
   | exact spec_ChangeBetween.mono _ _ _ _
   | exact spec_CorrectAll.mono _ _ _ _
   | exact spec_DaysWith.mono _ _ _
   | exact spec_DrawChangeBetween.mono _ _
   | exact spec_DrawCorrectAll.mono _ _
   | exact spec_DrawDaysWith.mono _ _
   | exact spec_DrawTrueBearing.mono _ _
   | exact spec_TrueBearing.mono _ _ _ _
   | exact LeO.none _
   | refine LeO.ite ?_ ?_
   | refine LeO.bind ?_ (fun _ => ?_)
set_option maxHeartbeats 8000000 in
set_option maxRecDepth 100000 in
theorem laws_FnDeclinations.calls (k : Nat) (A0 : Option Addr) (c0 : Nat) (l0 : List Int) (r : Bool) (w : World) (hr0 : Kd.C (Kd.int .u8) w A0 l0.length l0) (hc0 : l0.length ≤ c0) (h : laws_FnDeclinations.f k l0 = some true) :
  Calls Try.prog 3 #[.slice A0 l0.length c0] w fun e w' => e = .returned (.bool true) ∧ Below w.heap.size w w' := by
 have HR0 := Aside0.mk hr0
 have HC0 := Aside0.mk hc0
 clear hr0 hc0
 have HB := Aside0.mk (Below.refl w.heap.size w)
 have H : ((laws_rBig.f l0).bind fun t402 => (if t402 = true then (some true) else ((spec_DrawTrueBearing.f k l0).bind fun bt403 => ((impl_TrueBearing.f k bt403.1 bt403.2.1 bt403.2.2).bind fun bt408 => ((spec_TrueBearing.f k bt403.1 bt403.2.1 bt403.2.2).bind fun bt410 => (if bt408.1 = bt410.1 then (laws_FnDeclinations.j0 k l0 bt403.1 bt403.2.1 bt403.2.2 bt408.1 bt408.2 (bt408.2 != bt410.2)) else (laws_FnDeclinations.j0 k l0 bt403.1 bt403.2.1 bt403.2.2 bt408.1 bt408.2 true))))))) = some true := h
 clear h
 replace H := Option.bind_eq_some_iff.mp H
 obtain ⟨t402, A20, H⟩ := H
 replace H : (if t402 = true then (some true) else ((spec_DrawTrueBearing.f k l0).bind fun bt403 => ((impl_TrueBearing.f k bt403.1 bt403.2.1 bt403.2.2).bind fun bt408 => ((spec_TrueBearing.f k bt403.1 bt403.2.1 bt403.2.2).bind fun bt410 => (if bt408.1 = bt410.1 then (laws_FnDeclinations.j0 k l0 bt403.1 bt403.2.1 bt403.2.2 bt408.1 bt408.2 (bt408.2 != bt410.2)) else (laws_FnDeclinations.j0 k l0 bt403.1 bt403.2.1 bt403.2.2 bt408.1 bt408.2 true)))))) = some true := H
 have A2 := Aside0.mk A20
 clear A20
 by_cases c3 : t402 = true
 ·
  subst c3
  have H1 : (some true) = some true := rfl
  clear H
  have H := H1
  clear H1
  go_enter Try.func3, Try.ntmps3
  go_wp2_with (first | ((with_reducible refine gate_callee (f := 6) rfl ?_); refine goesL_ (some 44) rfl rfl Try.func6 (by kernel_rfl) rfl #[.slice A0 l0.length c0] rfl (by (try simp only [List.map_toArray, List.map_cons, List.map_nil]); first | done | rfl | (simp only [List.length_drop, List.length_take]; rfl)) ?_; (with_reducible refine (laws_rBig.calls _ _ l0 true _ ?side1 ?side2 A2.out).mono ?_); (case side1 => repeat (first | exact HR0.out | (with_reducible refine Kd.C_alloc ?_ _) | (with_reducible refine Kd.C_drewN ?_ _) | (with_reducible refine Kd.C_drew ?_))); (case side2 => exact HC0.out); rintro e w' ⟨rfl, ⟨nd, rfl⟩⟩; refine ⟨_, rfl, ?_⟩))
  go_ret
  exact ⟨by first | rfl | (simp [errW_none, errW_some] <;> rfl) | (simp [*, errW_none, errW_some] <;> rfl), by repeat (first | (with_reducible first | exact HB.out | apply below_alloc | apply pw_below_drewN | apply below_drew1) | exact HB.out)⟩
 ·
  replace c3 := Bool.eq_false_iff.mpr c3
  subst c3
  have H1 : ((spec_DrawTrueBearing.f k l0).bind fun bt403 => ((impl_TrueBearing.f k bt403.1 bt403.2.1 bt403.2.2).bind fun bt408 => ((spec_TrueBearing.f k bt403.1 bt403.2.1 bt403.2.2).bind fun bt410 => (if bt408.1 = bt410.1 then (laws_FnDeclinations.j0 k l0 bt403.1 bt403.2.1 bt403.2.2 bt408.1 bt408.2 (bt408.2 != bt410.2)) else (laws_FnDeclinations.j0 k l0 bt403.1 bt403.2.1 bt403.2.2 bt408.1 bt408.2 true))))) = some true := by rw [if_neg (show ¬ (false = true) by decide)] at H; exact H
  clear H
  have H := H1
  clear H1
  replace H := Option.bind_eq_some_iff.mp H
  obtain ⟨⟨t403, t404, t405⟩, A40, H⟩ := H
  replace H : ((impl_TrueBearing.f k t403 t404 t405).bind fun bt408 => ((spec_TrueBearing.f k t403 t404 t405).bind fun bt410 => (if bt408.1 = bt410.1 then (laws_FnDeclinations.j0 k l0 t403 t404 t405 bt408.1 bt408.2 (bt408.2 != bt410.2)) else (laws_FnDeclinations.j0 k l0 t403 t404 t405 bt408.1 bt408.2 true)))) = some true := H
  have A4 := Aside0.mk A40
  clear A40
  replace H := Option.bind_eq_some_iff.mp H
  obtain ⟨⟨t408, t409⟩, A50, H⟩ := H
  replace H : ((spec_TrueBearing.f k t403 t404 t405).bind fun bt410 => (if t408 = bt410.1 then (laws_FnDeclinations.j0 k l0 t403 t404 t405 t408 t409 (t409 != bt410.2)) else (laws_FnDeclinations.j0 k l0 t403 t404 t405 t408 t409 true))) = some true := H
  have A5 := Aside0.mk A50
  clear A50
  replace H := Option.bind_eq_some_iff.mp H
  obtain ⟨⟨t410, t411⟩, A60, H⟩ := H
  replace H : (if t408 = t410 then (laws_FnDeclinations.j0 k l0 t403 t404 t405 t408 t409 (t409 != t411)) else (laws_FnDeclinations.j0 k l0 t403 t404 t405 t408 t409 true)) = some true := H
  have A6 := Aside0.mk A60
  clear A60
  have HC7 := Aside0.mk H
  clear H
  go_enter Try.func3, Try.ntmps3
  go_upto_region 6 with (first | ((with_reducible refine gate_callee (f := 6) rfl ?_); refine goesL_ (some 44) rfl rfl Try.func6 (by kernel_rfl) rfl #[.slice A0 l0.length c0] rfl (by (try simp only [List.map_toArray, List.map_cons, List.map_nil]); first | done | rfl | (simp only [List.length_drop, List.length_take]; rfl)) ?_; (with_reducible refine (laws_rBig.calls _ _ l0 false _ ?side1 ?side2 A2.out).mono ?_); (case side1 => repeat (first | exact HR0.out | (with_reducible refine Kd.C_alloc ?_ _) | (with_reducible refine Kd.C_drewN ?_ _) | (with_reducible refine Kd.C_drew ?_))); (case side2 => exact HC0.out); rintro e w' ⟨rfl, ⟨nd, rfl⟩⟩; refine ⟨_, rfl, ?_⟩) | ((with_reducible refine gate_callee (f := 7) rfl ?_); refine goesL_ (some 47) rfl rfl Try.func7 (by kernel_rfl) rfl #[.slice A0 l0.length c0] rfl (by (try simp only [List.map_toArray, List.map_cons, List.map_nil]); first | done | rfl | (simp only [List.length_drop, List.length_take]; rfl)) ?_; (with_reducible refine (spec_DrawTrueBearing.calls k _ _ l0 t403 t404 t405 _ ?side1 ?side2 A4.out).mono ?_); (case side1 => repeat (first | exact HR0.out | (with_reducible refine Kd.C_alloc ?_ _) | (with_reducible refine Kd.C_drewN ?_ _) | (with_reducible refine Kd.C_drew ?_))); (case side2 => exact HC0.out); rintro e w8 ⟨v406, rfl, ho0, hb⟩; refine ⟨_, rfl, ?_⟩; have n0_ := Aside0.mk (Kd.R_lower ho0 (below_size (by repeat (first | (with_reducible first | exact HB.out | apply below_alloc | apply pw_below_drewN | apply below_drew1) | exact HB.out)))); have n1_ := Aside0.mk (below_step (by repeat (first | (with_reducible first | exact HB.out | apply below_alloc | apply pw_below_drewN | apply below_drew1) | exact HB.out)) hb); clear HB; have HO407 := n0_; have HB := n1_; clear n0_ n1_; (try clear hb); (try clear hb2); (try clear hk); (try clear hi); (try clear ho0); obtain ⟨Ao9, co9, eo9⟩ := Kd.R_slice HO407.out; subst eo9) | ((with_reducible refine gate_callee (f := 8) rfl ?_); refine goesL_ (some 55) rfl rfl Try.func8 (by kernel_rfl) rfl #[.slice Ao9 t403.length co9, .int .i64 t404, .int .i64 t405] rfl (by (try simp only [List.map_toArray, List.map_cons, List.map_nil]); first | done | rfl | (simp only [List.length_drop, List.length_take]; rfl)) ?_; (with_reducible refine (impl_TrueBearing.calls k _ _ t403 t404 t405 t408 t409 _ ?side1 ?side2 A5.out).mono ?_); (case side1 => repeat (first | exact (Kd.R_reads' HO407.out).2.2 | (with_reducible refine Kd.C_alloc ?_ _) | (with_reducible refine Kd.C_drewN ?_ _) | (with_reducible refine Kd.C_drew ?_))); (case side2 => exact (Kd.R_reads' HO407.out).2.1); rintro e w10 ⟨rfl, hb⟩; refine ⟨_, rfl, ?_⟩; have n0_ := Aside0.mk (Kd.R_below (by (with_reducible repeat (first | apply Kd.R_alloc | apply Kd.R_drewN | apply Kd.R_drew)); exact HO407.out) hb); have n1_ := Aside0.mk (below_step (by repeat (first | (with_reducible first | exact HB.out | apply below_alloc | apply pw_below_drewN | apply below_drew1) | exact HB.out)) hb); clear HO407; clear HB; have HO407 := n0_; have HB := n1_; clear n0_ n1_; (try clear hb); (try clear hb2); (try clear hk); (try clear hi)) | ((with_reducible refine gate_callee (f := 9) rfl ?_); refine goesL_ (some 62) rfl rfl Try.func9 (by kernel_rfl) rfl #[.slice Ao9 t403.length co9, .int .i64 t404, .int .i64 t405] rfl (by (try simp only [List.map_toArray, List.map_cons, List.map_nil]); first | done | rfl | (simp only [List.length_drop, List.length_take]; rfl)) ?_; (with_reducible refine (spec_TrueBearing.calls k _ _ t403 t404 t405 t410 t411 _ ?side1 ?side2 A6.out).mono ?_); (case side1 => repeat (first | exact (Kd.R_reads' HO407.out).2.2 | (with_reducible refine Kd.C_alloc ?_ _) | (with_reducible refine Kd.C_drewN ?_ _) | (with_reducible refine Kd.C_drew ?_))); (case side2 => exact (Kd.R_reads' HO407.out).2.1); rintro e w11 ⟨rfl, hb⟩; refine ⟨_, rfl, ?_⟩; have n0_ := Aside0.mk (Kd.R_below (by (with_reducible repeat (first | apply Kd.R_alloc | apply Kd.R_drewN | apply Kd.R_drew)); exact HO407.out) hb); have n1_ := Aside0.mk (below_step (by repeat (first | (with_reducible first | exact HB.out | apply below_alloc | apply pw_below_drewN | apply below_drew1) | exact HB.out)) hb); clear HO407; clear HB; have HO407 := n0_; have HB := n1_; clear n0_ n1_; (try clear hb); (try clear hb2); (try clear hk); (try clear hi)))
  (try simp only [Act.put, List.setIfInBounds_toArray, List.set_cons_zero, List.set_cons_succ])
  go_cut [72] (fun v72 wc => ∃ (kq : Nat) (x72_6 : Bool), v72 = .bool x72_6 ∧ Aside0 (laws_FnDeclinations.j0 kq l0 t403 t404 t405 t408 t409 x72_6 = some true) ∧ Aside0 (kq ≤ k) ∧ Aside0 (Kd.R k56 56 wc w.heap.size (fun _ => True) (.slice Ao9 t403.length co9) t403) ∧ Aside0 (Below w.heap.size w wc))
  case first =>
   as_aux_lemma =>
    have H := HC7.out
    clear HC7
    by_cases c12 : t408 = t410
    ·
     rw [if_pos c12] at H
     have c12b0 : (t408 == t410) = true := beq_iff_eq.mpr c12
     have c12b1 : (t408 != t410) = false := bne_eq_false_iff_eq.mpr c12
     clear c12
     (first | rw [c12b0] | (simp only [i64_w, i32_w]; rw [c12b0]) | skip)
     have H' := Aside0.mk H
     clear H
     go_wp2
     go_meet
     case rel => exact ⟨_, ((t409 != t411)), (by first | rfl | (simp; done) | (simp [*]; done)), H', ⟨by first | omega | exact Nat.le_refl _⟩, ⟨by (with_reducible repeat (first | apply Kd.R_alloc | apply Kd.R_drewN | apply Kd.R_drew)); exact HO407.out⟩, ⟨by repeat (first | (with_reducible first | exact HB.out | apply below_alloc | apply pw_below_drewN | apply below_drew1) | exact HB.out)⟩⟩
    ·
     rw [if_neg c12] at H
     have c12b0 : (t408 == t410) = false := beq_eq_false_iff_ne.mpr c12
     have c12b1 : (t408 != t410) = true := bne_iff_ne.mpr c12
     (first | rw [c12b0] | (simp only [i64_w, i32_w]; rw [c12b0]) | skip)
     exact absurd H (by cases k <;> simp [laws_FnDeclinations.j0])
  case rest =>
   as_aux_lemma =>
    clear HC7
    try clear c1
    try clear p2
    try clear c3
    try clear c6
    try clear c7
    try clear c8
    try clear c9
    try clear c12
    try clear c12b0
    try clear c12b1
    obtain ⟨kq, x72_6, rfl, HA, HJ6, HO_3, HB⟩ := hcut
    cases kq with
    | zero => exact absurd HA.out (by simp [laws_FnDeclinations.j0])
    | succ kj6 =>
     have H := HA.out
     clear HA
     simp only [laws_FnDeclinations.j0] at H
     by_cases c13 : x72_6 = true
     ·
      subst c13
      have H1 : (some false) = some true := by rw [if_pos rfl] at H; exact H
      clear H
      have H := H1
      clear H1
      exact absurd (Option.some.inj H) (by decide)
     ·
      replace c13 := Bool.eq_false_iff.mpr c13
      subst c13
      have H1 : (if t409 = true then ((impl_MagneticBearing.f kj6 t403 t404 t408).bind fun bt412 => ((impl_DeclinationOn.f kj6 t403 t404).bind fun bt414 => ((impl_DaysWith.f kj6 t403 bt414.1).bind fun bt416 => (if bt412.2 = true then (if bt412.1 = t405 then (if bt414.2 = true then (if bt416.2.2 = true then (if t404 < bt416.1 then (some false) else (if t404 > bt416.2.1 then (some false) else (laws_FnDeclinations.j1 kj6 l0))) else (some false)) else (some false)) else (some false)) else (some false))))) else (laws_FnDeclinations.j1 kj6 l0)) = some true := by rw [if_neg (show ¬ (false = true) by decide)] at H; exact H
      clear H
      have H := H1
      clear H1
      have HC14 := Aside0.mk H
      clear H
      go_upto_if 73 with (fail)
      go_cut [] (fun wc => ∃ (kq : Nat), Aside0 (laws_FnDeclinations.j1 kq l0 = some true) ∧ Aside0 (kq ≤ kj6) ∧ Aside0 (Below w.heap.size w wc))
      case first =>
       as_aux_lemma =>
        have H := HC14.out
        clear HC14
        by_cases c15 : t409 = true
        ·
         subst c15
         have H1 : ((impl_MagneticBearing.f kj6 t403 t404 t408).bind fun bt412 => ((impl_DeclinationOn.f kj6 t403 t404).bind fun bt414 => ((impl_DaysWith.f kj6 t403 bt414.1).bind fun bt416 => (if bt412.2 = true then (if bt412.1 = t405 then (if bt414.2 = true then (if bt416.2.2 = true then (if t404 < bt416.1 then (some false) else (if t404 > bt416.2.1 then (some false) else (laws_FnDeclinations.j1 kj6 l0))) else (some false)) else (some false)) else (some false)) else (some false))))) = some true := by rw [if_pos rfl] at H; exact H
         clear H
         have H := H1
         clear H1
         replace H := Option.bind_eq_some_iff.mp H
         obtain ⟨⟨t412, t413⟩, A160, H⟩ := H
         replace H : ((impl_DeclinationOn.f kj6 t403 t404).bind fun bt414 => ((impl_DaysWith.f kj6 t403 bt414.1).bind fun bt416 => (if t413 = true then (if t412 = t405 then (if bt414.2 = true then (if bt416.2.2 = true then (if t404 < bt416.1 then (some false) else (if t404 > bt416.2.1 then (some false) else (laws_FnDeclinations.j1 kj6 l0))) else (some false)) else (some false)) else (some false)) else (some false)))) = some true := H
         have A16 := Aside0.mk A160
         clear A160
         replace H := Option.bind_eq_some_iff.mp H
         obtain ⟨⟨t414, t415⟩, A170, H⟩ := H
         replace H : ((impl_DaysWith.f kj6 t403 t414).bind fun bt416 => (if t413 = true then (if t412 = t405 then (if t415 = true then (if bt416.2.2 = true then (if t404 < bt416.1 then (some false) else (if t404 > bt416.2.1 then (some false) else (laws_FnDeclinations.j1 kj6 l0))) else (some false)) else (some false)) else (some false)) else (some false))) = some true := H
         have A17 := Aside0.mk A170
         clear A170
         replace H := Option.bind_eq_some_iff.mp H
         obtain ⟨⟨t416, t417, t418⟩, A180, H⟩ := H
         replace H : (if t413 = true then (if t412 = t405 then (if t415 = true then (if t418 = true then (if t404 < t416 then (some false) else (if t404 > t417 then (some false) else (laws_FnDeclinations.j1 kj6 l0))) else (some false)) else (some false)) else (some false)) else (some false)) = some true := H
         have A18 := Aside0.mk A180
         clear A180
         by_cases c19 : t413 = true
         ·
          subst c19
          have H1 : (if t412 = t405 then (if t415 = true then (if t418 = true then (if t404 < t416 then (some false) else (if t404 > t417 then (some false) else (laws_FnDeclinations.j1 kj6 l0))) else (some false)) else (some false)) else (some false)) = some true := by rw [if_pos rfl] at H; exact H
          clear H
          have H := H1
          clear H1
          by_cases c20 : t412 = t405
          ·
           rw [if_pos c20] at H
           have c20b0 : (t412 == t405) = true := beq_iff_eq.mpr c20
           have c20b1 : (t412 != t405) = false := bne_eq_false_iff_eq.mpr c20
           clear c20
           (first | rw [c20b0] | (simp only [i64_w, i32_w]; rw [c20b0]) | skip)
           by_cases c21 : t415 = true
           ·
            subst c21
            have H1 : (if t418 = true then (if t404 < t416 then (some false) else (if t404 > t417 then (some false) else (laws_FnDeclinations.j1 kj6 l0))) else (some false)) = some true := by rw [if_pos rfl] at H; exact H
            clear H
            have H := H1
            clear H1
            by_cases c22 : t418 = true
            ·
             subst c22
             have H1 : (if t404 < t416 then (some false) else (if t404 > t417 then (some false) else (laws_FnDeclinations.j1 kj6 l0))) = some true := by rw [if_pos rfl] at H; exact H
             clear H
             have H := H1
             clear H1
             by_cases c23 : t404 < t416
             ·
              rw [if_pos c23] at H
              have c23b0 : decide (t404 < t416) = true := decide_eq_true c23
              clear c23
              exact absurd (Option.some.inj H) (by decide)
             ·
              rw [if_neg c23] at H
              have c23b0 : decide (t404 < t416) = false := decide_eq_false c23
              clear c23
              by_cases c27 : t404 > t417
              ·
               rw [if_pos c27] at H
               have c27b0 : decide (t417 < t404) = true := decide_eq_true c27
               clear c27
               exact absurd (Option.some.inj H) (by decide)
              ·
               rw [if_neg c27] at H
               have c27b0 : decide (t417 < t404) = false := decide_eq_false c27
               clear c27
               have H' := Aside0.mk H
               clear H
               go_wp2_with (first | ((with_reducible refine gate_callee (f := 10) rfl ?_); refine goesL_ (some 78) rfl rfl Try.func10 (by kernel_rfl) rfl #[.slice Ao9 t403.length co9, .int .i64 t404, .int .i64 t408] rfl (by (try simp only [List.map_toArray, List.map_cons, List.map_nil]); first | done | rfl | (simp only [List.length_drop, List.length_take]; rfl)) ?_; (with_reducible refine (impl_MagneticBearing.calls kj6 _ _ t403 t404 t408 t412 true _ ?side1 ?side2 A16.out).mono ?_); (case side1 => repeat (first | exact (Kd.R_reads' HO_3.out).2.2 | (with_reducible refine Kd.C_alloc ?_ _) | (with_reducible refine Kd.C_drewN ?_ _) | (with_reducible refine Kd.C_drew ?_))); (case side2 => exact (Kd.R_reads' HO_3.out).2.1); rintro e w31 ⟨rfl, hb⟩; refine ⟨_, rfl, ?_⟩; have n0_ := Aside0.mk (Kd.R_below (by (with_reducible repeat (first | apply Kd.R_alloc | apply Kd.R_drewN | apply Kd.R_drew)); exact HO_3.out) hb); have n1_ := Aside0.mk (below_step (by repeat (first | (with_reducible first | exact HB.out | apply below_alloc | apply pw_below_drewN | apply below_drew1) | exact HB.out)) hb); clear HO_3; clear HB; have HO_3 := n0_; have HB := n1_; clear n0_ n1_; (try clear hb); (try clear hb2); (try clear hk); (try clear hi)) | ((with_reducible refine gate_callee (f := 11) rfl ?_); refine goesL_ (some 84) rfl rfl Try.func11 (by kernel_rfl) rfl #[.slice Ao9 t403.length co9, .int .i64 t404] rfl (by (try simp only [List.map_toArray, List.map_cons, List.map_nil]); first | done | rfl | (simp only [List.length_drop, List.length_take]; rfl)) ?_; (with_reducible refine (impl_DeclinationOn.calls kj6 _ _ t403 t404 t414 true _ ?side1 ?side2 A17.out).mono ?_); (case side1 => repeat (first | exact (Kd.R_reads' HO_3.out).2.2 | (with_reducible refine Kd.C_alloc ?_ _) | (with_reducible refine Kd.C_drewN ?_ _) | (with_reducible refine Kd.C_drew ?_))); (case side2 => exact (Kd.R_reads' HO_3.out).2.1); rintro e w32 ⟨rfl, hb⟩; refine ⟨_, rfl, ?_⟩; have n0_ := Aside0.mk (Kd.R_below (by (with_reducible repeat (first | apply Kd.R_alloc | apply Kd.R_drewN | apply Kd.R_drew)); exact HO_3.out) hb); have n1_ := Aside0.mk (below_step (by repeat (first | (with_reducible first | exact HB.out | apply below_alloc | apply pw_below_drewN | apply below_drew1) | exact HB.out)) hb); clear HO_3; clear HB; have HO_3 := n0_; have HB := n1_; clear n0_ n1_; (try clear hb); (try clear hb2); (try clear hk); (try clear hi)) | ((with_reducible refine gate_callee (f := 12) rfl ?_); refine goesL_ (some 90) rfl rfl Try.func12 (by kernel_rfl) rfl #[.slice Ao9 t403.length co9, .int .i64 t414] rfl (by (try simp only [List.map_toArray, List.map_cons, List.map_nil]); first | done | rfl | (simp only [List.length_drop, List.length_take]; rfl)) ?_; (with_reducible refine (impl_DaysWith.calls kj6 _ _ t403 t414 t416 t417 true _ ?side1 ?side2 A18.out).mono ?_); (case side1 => repeat (first | exact (Kd.R_reads' HO_3.out).2.2 | (with_reducible refine Kd.C_alloc ?_ _) | (with_reducible refine Kd.C_drewN ?_ _) | (with_reducible refine Kd.C_drew ?_))); (case side2 => exact (Kd.R_reads' HO_3.out).2.1); rintro e w33 ⟨rfl, hb⟩; refine ⟨_, rfl, ?_⟩; have n0_ := Aside0.mk (Kd.R_below (by (with_reducible repeat (first | apply Kd.R_alloc | apply Kd.R_drewN | apply Kd.R_drew)); exact HO_3.out) hb); have n1_ := Aside0.mk (below_step (by repeat (first | (with_reducible first | exact HB.out | apply below_alloc | apply pw_below_drewN | apply below_drew1) | exact HB.out)) hb); clear HO_3; clear HB; have HO_3 := n0_; have HB := n1_; clear n0_ n1_; (try clear hb); (try clear hb2); (try clear hk); (try clear hi)))
               go_meet
               case rel => exact ⟨_, H', ⟨by have := HJ6.out; first | omega | exact Nat.le_refl _⟩, ⟨by repeat (first | (with_reducible first | exact HB.out | apply below_alloc | apply pw_below_drewN | apply below_drew1) | exact HB.out)⟩⟩
            ·
             replace c22 := Bool.eq_false_iff.mpr c22
             subst c22
             have H1 : (some false) = some true := by rw [if_neg (show ¬ (false = true) by decide)] at H; exact H
             clear H
             have H := H1
             clear H1
             exact absurd (Option.some.inj H) (by decide)
           ·
            replace c21 := Bool.eq_false_iff.mpr c21
            subst c21
            have H1 : (some false) = some true := by rw [if_neg (show ¬ (false = true) by decide)] at H; exact H
            clear H
            have H := H1
            clear H1
            exact absurd (Option.some.inj H) (by decide)
          ·
           rw [if_neg c20] at H
           have c20b0 : (t412 == t405) = false := beq_eq_false_iff_ne.mpr c20
           have c20b1 : (t412 != t405) = true := bne_iff_ne.mpr c20
           (first | rw [c20b0] | (simp only [i64_w, i32_w]; rw [c20b0]) | skip)
           exact absurd (Option.some.inj H) (by decide)
         ·
          replace c19 := Bool.eq_false_iff.mpr c19
          subst c19
          have H1 : (some false) = some true := by rw [if_neg (show ¬ (false = true) by decide)] at H; exact H
          clear H
          have H := H1
          clear H1
          exact absurd (Option.some.inj H) (by decide)
        ·
         replace c15 := Bool.eq_false_iff.mpr c15
         subst c15
         have H1 : (laws_FnDeclinations.j1 kj6 l0) = some true := by rw [if_neg (show ¬ (false = true) by decide)] at H; exact H
         clear H
         have H := H1
         clear H1
         have H' := Aside0.mk H
         clear H
         go_wp2
         go_meet
         case rel => exact ⟨_, H', ⟨by have := HJ6.out; first | omega | exact Nat.le_refl _⟩, ⟨by repeat (first | (with_reducible first | exact HB.out | apply below_alloc | apply pw_below_drewN | apply below_drew1) | exact HB.out)⟩⟩
      case rest =>
       as_aux_lemma =>
        clear HC14
        try clear c1
        try clear c2
        try clear p2
        try clear c3
        try clear c6
        try clear c7
        try clear c8
        try clear c9
        try clear c10
        try clear c11
        try clear c12
        try clear c12b0
        try clear c12b1
        try clear c13
        try clear c15
        try clear c19
        try clear c20
        try clear c20b0
        try clear c20b1
        try clear c21
        try clear c22
        try clear c23
        try clear c23b0
        try clear c27
        try clear c27b0
        try clear p2
        obtain ⟨kq, HA, HJ13, HB⟩ := hcut
        cases kq with
        | zero => exact absurd HA.out (by simp [laws_FnDeclinations.j1])
        | succ kj13 =>
         have H := HA.out
         clear HA
         simp only [laws_FnDeclinations.j1] at H
         replace H := Option.bind_eq_some_iff.mp H
         obtain ⟨⟨t419, t420, t421⟩, A460, H⟩ := H
         replace H : ((impl_CorrectAll.f kj13 t419 t420 t421).bind fun bt428 => ((spec_CorrectAll.f kj13 t419 t420 t421).bind fun bt432 => (if (bt428.2 != bt432.2) = true then (laws_FnDeclinations.j2 kj13 l0 true) else ((laws_rInts.f kj13 bt428.1 bt432.1).bind fun t436 => (laws_FnDeclinations.j2 kj13 l0 (!t436)))))) = some true := H
         have A46 := Aside0.mk A460
         clear A460
         replace H := Option.bind_eq_some_iff.mp H
         obtain ⟨⟨t428, t429⟩, A470, H⟩ := H
         replace H : ((spec_CorrectAll.f kj13 t419 t420 t421).bind fun bt432 => (if (t429 != bt432.2) = true then (laws_FnDeclinations.j2 kj13 l0 true) else ((laws_rInts.f kj13 t428 bt432.1).bind fun t436 => (laws_FnDeclinations.j2 kj13 l0 (!t436))))) = some true := H
         have A47 := Aside0.mk A470
         clear A470
         replace H := Option.bind_eq_some_iff.mp H
         obtain ⟨⟨t432, t433⟩, A480, H⟩ := H
         replace H : (if (t429 != t433) = true then (laws_FnDeclinations.j2 kj13 l0 true) else ((laws_rInts.f kj13 t428 t432).bind fun t436 => (laws_FnDeclinations.j2 kj13 l0 (!t436)))) = some true := H
         have A48 := Aside0.mk A480
         clear A480
         have HC49 := Aside0.mk H
         clear H
         go_upto_region 17 with (first | ((with_reducible refine gate_callee (f := 13) rfl ?_); refine goesL_ (some 121) rfl rfl Try.func13 (by kernel_rfl) rfl #[.slice A0 l0.length c0] rfl (by (try simp only [List.map_toArray, List.map_cons, List.map_nil]); first | done | rfl | (simp only [List.length_drop, List.length_take]; rfl)) ?_; (with_reducible refine (spec_DrawCorrectAll.calls kj13 _ _ l0 t419 t420 t421 _ ?side1 ?side2 A46.out).mono ?_); (case side1 => repeat (first | exact (Kd.C_below HR0.out HB.out) | (with_reducible refine Kd.C_alloc ?_ _) | (with_reducible refine Kd.C_drewN ?_ _) | (with_reducible refine Kd.C_drew ?_))); (case side2 => exact HC0.out); rintro e w50 ⟨v422, v424, v426, rfl, ho0, ho1, ho2, hb⟩; refine ⟨_, rfl, ?_⟩; have n0_ := Aside0.mk (Kd.R_lower ho0 (below_size (by repeat (first | (with_reducible first | exact HB.out | apply below_alloc | apply pw_below_drewN | apply below_drew1) | exact HB.out)))); have n1_ := Aside0.mk (Kd.R_lower ho1 (below_size (by repeat (first | (with_reducible first | exact HB.out | apply below_alloc | apply pw_below_drewN | apply below_drew1) | exact HB.out)))); have n2_ := Aside0.mk (Kd.R_lower ho2 (below_size (by repeat (first | (with_reducible first | exact HB.out | apply below_alloc | apply pw_below_drewN | apply below_drew1) | exact HB.out)))); have n3_ := Aside0.mk (below_step (by repeat (first | (with_reducible first | exact HB.out | apply below_alloc | apply pw_below_drewN | apply below_drew1) | exact HB.out)) hb); clear HB; have HO423 := n0_; have HO425 := n1_; have HO427 := n2_; have HB := n3_; clear n0_ n1_ n2_ n3_; (try clear hb); (try clear hb2); (try clear hk); (try clear hi); (try clear ho0); (try clear ho1); (try clear ho2); obtain ⟨Ao51, co51, eo51⟩ := Kd.R_slice HO423.out; subst eo51; obtain ⟨Ao52, co52, eo52⟩ := Kd.R_slice HO425.out; subst eo52; obtain ⟨Ao53, co53, eo53⟩ := Kd.R_slice HO427.out; subst eo53) | ((with_reducible refine gate_callee (f := 14) rfl ?_); refine goesL_ (some 129) rfl rfl Try.func14 (by kernel_rfl) rfl #[.slice Ao51 t419.length co51, .slice Ao52 t420.length co52, .slice Ao53 t421.length co53] rfl (by (try simp only [List.map_toArray, List.map_cons, List.map_nil]); first | done | rfl | (simp only [List.length_drop, List.length_take]; rfl)) ?_; (with_reducible refine (impl_CorrectAll.calls kj13 _ _ t419 _ _ t420 _ _ t421 t428 t429 _ ?side1 ?side2 ?side3 ?side4 ?side5 ?side6 A47.out).mono ?_); (case side1 => repeat (first | exact (Kd.R_reads' HO423.out).2.2 | (with_reducible refine Kd.C_alloc ?_ _) | (with_reducible refine Kd.C_drewN ?_ _) | (with_reducible refine Kd.C_drew ?_))); (case side2 => exact (Kd.R_reads' HO423.out).2.1); (case side3 => repeat (first | exact (Kd.R_reads' HO425.out).2.2 | (with_reducible refine Kd.C_alloc ?_ _) | (with_reducible refine Kd.C_drewN ?_ _) | (with_reducible refine Kd.C_drew ?_))); (case side4 => exact (Kd.R_reads' HO425.out).2.1); (case side5 => repeat (first | exact (Kd.R_reads' HO427.out).2.2 | (with_reducible refine Kd.C_alloc ?_ _) | (with_reducible refine Kd.C_drewN ?_ _) | (with_reducible refine Kd.C_drew ?_))); (case side6 => exact (Kd.R_reads' HO427.out).2.1); rintro e w54 ⟨v430, rfl, ho0, hb⟩; refine ⟨_, rfl, ?_⟩; have n0_ := Aside0.mk (Kd.R_below (by (with_reducible repeat (first | apply Kd.R_alloc | apply Kd.R_drewN | apply Kd.R_drew)); exact HO423.out) hb); have n1_ := Aside0.mk (Kd.R_elder' (by (with_reducible repeat (first | apply Kd.R_alloc | apply Kd.R_drewN | apply Kd.R_drew)); exact HO425.out) (Kd.R_base ho0) hb); have n2_ := Aside0.mk (Kd.R_elder' (by (with_reducible repeat (first | apply Kd.R_alloc | apply Kd.R_drewN | apply Kd.R_drew)); exact HO427.out) (Kd.R_base ho0) hb); have n3_ := Aside0.mk (Kd.R_lower (Kd.R_new' (Kd.R_new' ho0 (Kd.R_lt (by (with_reducible repeat (first | apply Kd.R_alloc | apply Kd.R_drewN | apply Kd.R_drew)); exact HO425.out))) (Kd.R_lt (by (with_reducible repeat (first | apply Kd.R_alloc | apply Kd.R_drewN | apply Kd.R_drew)); exact HO427.out))) (below_size (by repeat (first | (with_reducible first | exact HB.out | apply below_alloc | apply pw_below_drewN | apply below_drew1) | exact HB.out)))); have n4_ := Aside0.mk (below_step (by repeat (first | (with_reducible first | exact HB.out | apply below_alloc | apply pw_below_drewN | apply below_drew1) | exact HB.out)) hb); clear HO423; clear HO425; clear HO427; clear HB; have HO423 := n0_; have HO425 := n1_; have HO427 := n2_; have HO431 := n3_; have HB := n4_; clear n0_ n1_ n2_ n3_ n4_; (try clear hb); (try clear hb2); (try clear hk); (try clear hi); (try clear ho0)) | ((with_reducible refine gate_callee (f := 15) rfl ?_); refine goesL_ (some 136) rfl rfl Try.func15 (by kernel_rfl) rfl #[.slice Ao51 t419.length co51, .slice Ao52 t420.length co52, .slice Ao53 t421.length co53] rfl (by (try simp only [List.map_toArray, List.map_cons, List.map_nil]); first | done | rfl | (simp only [List.length_drop, List.length_take]; rfl)) ?_; (with_reducible refine (spec_CorrectAll.calls kj13 _ _ t419 _ _ t420 _ _ t421 t432 t433 _ ?side1 ?side2 ?side3 ?side4 ?side5 ?side6 A48.out).mono ?_); (case side1 => repeat (first | exact (Kd.R_reads' HO423.out).2.2 | (with_reducible refine Kd.C_alloc ?_ _) | (with_reducible refine Kd.C_drewN ?_ _) | (with_reducible refine Kd.C_drew ?_))); (case side2 => exact (Kd.R_reads' HO423.out).2.1); (case side3 => repeat (first | exact (Kd.R_reads' HO425.out).2.2 | (with_reducible refine Kd.C_alloc ?_ _) | (with_reducible refine Kd.C_drewN ?_ _) | (with_reducible refine Kd.C_drew ?_))); (case side4 => exact (Kd.R_reads' HO425.out).2.1); (case side5 => repeat (first | exact (Kd.R_reads' HO427.out).2.2 | (with_reducible refine Kd.C_alloc ?_ _) | (with_reducible refine Kd.C_drewN ?_ _) | (with_reducible refine Kd.C_drew ?_))); (case side6 => exact (Kd.R_reads' HO427.out).2.1); rintro e w55 ⟨v434, rfl, ho0, hb⟩; refine ⟨_, rfl, ?_⟩; have n0_ := Aside0.mk (Kd.R_below (by (with_reducible repeat (first | apply Kd.R_alloc | apply Kd.R_drewN | apply Kd.R_drew)); exact HO423.out) hb); have n1_ := Aside0.mk (Kd.R_elder' (by (with_reducible repeat (first | apply Kd.R_alloc | apply Kd.R_drewN | apply Kd.R_drew)); exact HO425.out) (Kd.R_base ho0) hb); have n2_ := Aside0.mk (Kd.R_elder' (by (with_reducible repeat (first | apply Kd.R_alloc | apply Kd.R_drewN | apply Kd.R_drew)); exact HO427.out) (Kd.R_base ho0) hb); have n3_ := Aside0.mk (Kd.R_elder' (by (with_reducible repeat (first | apply Kd.R_alloc | apply Kd.R_drewN | apply Kd.R_drew)); exact HO431.out) (Kd.R_base ho0) hb); have n4_ := Aside0.mk (Kd.R_lower (Kd.R_new' (Kd.R_new' (Kd.R_new' ho0 (Kd.R_lt (by (with_reducible repeat (first | apply Kd.R_alloc | apply Kd.R_drewN | apply Kd.R_drew)); exact HO425.out))) (Kd.R_lt (by (with_reducible repeat (first | apply Kd.R_alloc | apply Kd.R_drewN | apply Kd.R_drew)); exact HO427.out))) (Kd.R_lt (by (with_reducible repeat (first | apply Kd.R_alloc | apply Kd.R_drewN | apply Kd.R_drew)); exact HO431.out))) (below_size (by repeat (first | (with_reducible first | exact HB.out | apply below_alloc | apply pw_below_drewN | apply below_drew1) | exact HB.out)))); have n5_ := Aside0.mk (below_step (by repeat (first | (with_reducible first | exact HB.out | apply below_alloc | apply pw_below_drewN | apply below_drew1) | exact HB.out)) hb); clear HO423; clear HO425; clear HO427; clear HO431; clear HB; have HO423 := n0_; have HO425 := n1_; have HO427 := n2_; have HO431 := n3_; have HO435 := n4_; have HB := n5_; clear n0_ n1_ n2_ n3_ n4_ n5_; (try clear hb); (try clear hb2); (try clear hk); (try clear hi); (try clear ho0)))
         (try simp only [Act.put, List.setIfInBounds_toArray, List.set_cons_zero, List.set_cons_succ])
         go_cut [147] (fun v147 wc => ∃ (kq : Nat) (x147_48 : Bool), v147 = .bool x147_48 ∧ Aside0 (laws_FnDeclinations.j2 kq l0 x147_48 = some true) ∧ Aside0 (kq ≤ kj13) ∧ Aside0 (Below w.heap.size w wc))
         case first =>
          as_aux_lemma =>
           have H := HC49.out
           clear HC49
           by_cases c56 : (t429 != t433) = true
           ·
            rw [if_pos c56] at H
            have c56b0 : (t429 != t433) = true := c56
            (try (have c56b1 : decide (t429 = t433) = false := by simpa using c56))
            (try (have c56b2 : (t429 == t433) = false := by simpa using c56))
            (try (have c56b3 : ¬ (t429 = t433) := by simpa using c56))
            clear c56
            (first | rw [c56b0] | (simp only [i64_w, i32_w]; rw [c56b0]) | skip)
            exact absurd H (by cases kj13 <;> simp [laws_FnDeclinations.j2])
           ·
            rw [if_neg c56] at H
            have c56b0 : (t429 != t433) = false := by simpa using c56
            (try (have c56b1 : decide (t429 = t433) = true := by simpa using c56))
            (try (have c56b2 : (t429 == t433) = true := by simpa using c56))
            clear c56
            (first | rw [c56b0] | (simp only [i64_w, i32_w]; rw [c56b0]) | skip)
            replace H := Option.bind_eq_some_iff.mp H
            obtain ⟨t436, A570, H⟩ := H
            replace H : (laws_FnDeclinations.j2 kj13 l0 (!t436)) = some true := H
            have A57 := Aside0.mk A570
            clear A570
            have H' := Aside0.mk H
            clear H
            obtain ⟨Ao58, co58, eo58⟩ := Kd.R_slice HO431.out
            subst eo58
            obtain ⟨Ao59, co59, eo59⟩ := Kd.R_slice HO435.out
            subst eo59
            go_wp2_with (first | (go_at_call 16; (with_reducible refine (laws_rInts.calls kj13 _ _ t428 _ _ t432 t436 _ ?side1 ?side2 ?side3 ?side4 A57.out).mono ?_); (case side1 => repeat (first | exact (Kd.R_reads' HO431.out).2.2 | (with_reducible refine Kd.C_alloc ?_ _) | (with_reducible refine Kd.C_drewN ?_ _) | (with_reducible refine Kd.C_drew ?_))); (case side2 => exact (Kd.R_reads' HO431.out).2.1); (case side3 => repeat (first | exact (Kd.R_reads' HO435.out).2.2 | (with_reducible refine Kd.C_alloc ?_ _) | (with_reducible refine Kd.C_drewN ?_ _) | (with_reducible refine Kd.C_drew ?_))); (case side4 => exact (Kd.R_reads' HO435.out).2.1); rintro e w' ⟨rfl, ⟨nd, rfl⟩⟩))
            go_meet
            case rel => exact ⟨_, (!t436), (by first | rfl | (simp; done) | (simp [*]; done)), H', ⟨by have := HJ6.out; have := HJ13.out; first | omega | exact Nat.le_refl _⟩, ⟨by repeat (first | (with_reducible first | exact HB.out | apply below_alloc | apply pw_below_drewN | apply below_drew1) | exact HB.out)⟩⟩
         case rest =>
          as_aux_lemma =>
           clear HC49
           try clear c1
           try clear c2
           try clear p2
           try clear c3
           try clear c5
           try clear c6
           try clear c7
           try clear c8
           try clear c9
           try clear c10
           try clear c11
           try clear c12
           try clear c12b0
           try clear c12b1
           try clear c13
           try clear c14
           try clear c15
           try clear c19
           try clear c20
           try clear c20b0
           try clear c20b1
           try clear c21
           try clear c22
           try clear c23
           try clear c23b0
           try clear c27
           try clear c27b0
           try clear c56
           try clear c56b0
           try clear c56b1
           try clear c56b2
           try clear p2
           obtain ⟨kq, x147_48, rfl, HA, HJ48, HB⟩ := hcut
           cases kq with
           | zero => exact absurd HA.out (by simp [laws_FnDeclinations.j2])
           | succ kj48 =>
            have H := HA.out
            clear HA
            simp only [laws_FnDeclinations.j2] at H
            by_cases c60 : x147_48 = true
            ·
             subst c60
             have H1 : (some false) = some true := by rw [if_pos rfl] at H; exact H
             clear H
             have H := H1
             clear H1
             exact absurd (Option.some.inj H) (by decide)
            ·
             replace c60 := Bool.eq_false_iff.mpr c60
             subst c60
             have H1 : ((spec_DrawChangeBetween.f kj48 l0).bind fun bt437 => ((impl_ChangeBetween.f kj48 bt437.1 bt437.2.1 bt437.2.2).bind fun bt442 => ((spec_ChangeBetween.f kj48 bt437.1 bt437.2.1 bt437.2.2).bind fun bt444 => (if bt442.1 = bt444.1 then (laws_FnDeclinations.j3 kj48 l0 bt437.1 bt437.2.1 bt437.2.2 bt442.1 bt442.2 (bt442.2 != bt444.2)) else (laws_FnDeclinations.j3 kj48 l0 bt437.1 bt437.2.1 bt437.2.2 bt442.1 bt442.2 true))))) = some true := by rw [if_neg (show ¬ (false = true) by decide)] at H; exact H
             clear H
             have H := H1
             clear H1
             replace H := Option.bind_eq_some_iff.mp H
             obtain ⟨⟨t437, t438, t439⟩, A610, H⟩ := H
             replace H : ((impl_ChangeBetween.f kj48 t437 t438 t439).bind fun bt442 => ((spec_ChangeBetween.f kj48 t437 t438 t439).bind fun bt444 => (if bt442.1 = bt444.1 then (laws_FnDeclinations.j3 kj48 l0 t437 t438 t439 bt442.1 bt442.2 (bt442.2 != bt444.2)) else (laws_FnDeclinations.j3 kj48 l0 t437 t438 t439 bt442.1 bt442.2 true)))) = some true := H
             have A61 := Aside0.mk A610
             clear A610
             replace H := Option.bind_eq_some_iff.mp H
             obtain ⟨⟨t442, t443⟩, A620, H⟩ := H
             replace H : ((spec_ChangeBetween.f kj48 t437 t438 t439).bind fun bt444 => (if t442 = bt444.1 then (laws_FnDeclinations.j3 kj48 l0 t437 t438 t439 t442 t443 (t443 != bt444.2)) else (laws_FnDeclinations.j3 kj48 l0 t437 t438 t439 t442 t443 true))) = some true := H
             have A62 := Aside0.mk A620
             clear A620
             replace H := Option.bind_eq_some_iff.mp H
             obtain ⟨⟨t444, t445⟩, A630, H⟩ := H
             replace H : (if t442 = t444 then (laws_FnDeclinations.j3 kj48 l0 t437 t438 t439 t442 t443 (t443 != t445)) else (laws_FnDeclinations.j3 kj48 l0 t437 t438 t439 t442 t443 true)) = some true := H
             have A63 := Aside0.mk A630
             clear A630
             have HC64 := Aside0.mk H
             clear H
             go_upto_region 22 with (first | ((with_reducible refine gate_callee (f := 17) rfl ?_); refine goesL_ (some 150) rfl rfl Try.func17 (by kernel_rfl) rfl #[.slice A0 l0.length c0] rfl (by (try simp only [List.map_toArray, List.map_cons, List.map_nil]); first | done | rfl | (simp only [List.length_drop, List.length_take]; rfl)) ?_; (with_reducible refine (spec_DrawChangeBetween.calls kj48 _ _ l0 t437 t438 t439 _ ?side1 ?side2 A61.out).mono ?_); (case side1 => repeat (first | exact (Kd.C_below HR0.out HB.out) | (with_reducible refine Kd.C_alloc ?_ _) | (with_reducible refine Kd.C_drewN ?_ _) | (with_reducible refine Kd.C_drew ?_))); (case side2 => exact HC0.out); rintro e w65 ⟨v440, rfl, ho0, hb⟩; refine ⟨_, rfl, ?_⟩; have n0_ := Aside0.mk (Kd.R_lower ho0 (below_size (by repeat (first | (with_reducible first | exact HB.out | apply below_alloc | apply pw_below_drewN | apply below_drew1) | exact HB.out)))); have n1_ := Aside0.mk (below_step (by repeat (first | (with_reducible first | exact HB.out | apply below_alloc | apply pw_below_drewN | apply below_drew1) | exact HB.out)) hb); clear HB; have HO441 := n0_; have HB := n1_; clear n0_ n1_; (try clear hb); (try clear hb2); (try clear hk); (try clear hi); (try clear ho0); obtain ⟨Ao66, co66, eo66⟩ := Kd.R_slice HO441.out; subst eo66) | ((with_reducible refine gate_callee (f := 18) rfl ?_); refine goesL_ (some 158) rfl rfl Try.func18 (by kernel_rfl) rfl #[.slice Ao66 t437.length co66, .int .i64 t438, .int .i64 t439] rfl (by (try simp only [List.map_toArray, List.map_cons, List.map_nil]); first | done | rfl | (simp only [List.length_drop, List.length_take]; rfl)) ?_; (with_reducible refine (impl_ChangeBetween.calls kj48 _ _ t437 t438 t439 t442 t443 _ ?side1 ?side2 A62.out).mono ?_); (case side1 => repeat (first | exact (Kd.R_reads' HO441.out).2.2 | (with_reducible refine Kd.C_alloc ?_ _) | (with_reducible refine Kd.C_drewN ?_ _) | (with_reducible refine Kd.C_drew ?_))); (case side2 => exact (Kd.R_reads' HO441.out).2.1); rintro e w67 ⟨rfl, hb⟩; refine ⟨_, rfl, ?_⟩; have n0_ := Aside0.mk (Kd.R_below (by (with_reducible repeat (first | apply Kd.R_alloc | apply Kd.R_drewN | apply Kd.R_drew)); exact HO441.out) hb); have n1_ := Aside0.mk (below_step (by repeat (first | (with_reducible first | exact HB.out | apply below_alloc | apply pw_below_drewN | apply below_drew1) | exact HB.out)) hb); clear HO441; clear HB; have HO441 := n0_; have HB := n1_; clear n0_ n1_; (try clear hb); (try clear hb2); (try clear hk); (try clear hi)) | ((with_reducible refine gate_callee (f := 19) rfl ?_); refine goesL_ (some 165) rfl rfl Try.func19 (by kernel_rfl) rfl #[.slice Ao66 t437.length co66, .int .i64 t438, .int .i64 t439] rfl (by (try simp only [List.map_toArray, List.map_cons, List.map_nil]); first | done | rfl | (simp only [List.length_drop, List.length_take]; rfl)) ?_; (with_reducible refine (spec_ChangeBetween.calls kj48 _ _ t437 t438 t439 t444 t445 _ ?side1 ?side2 A63.out).mono ?_); (case side1 => repeat (first | exact (Kd.R_reads' HO441.out).2.2 | (with_reducible refine Kd.C_alloc ?_ _) | (with_reducible refine Kd.C_drewN ?_ _) | (with_reducible refine Kd.C_drew ?_))); (case side2 => exact (Kd.R_reads' HO441.out).2.1); rintro e w68 ⟨rfl, hb⟩; refine ⟨_, rfl, ?_⟩; have n0_ := Aside0.mk (Kd.R_below (by (with_reducible repeat (first | apply Kd.R_alloc | apply Kd.R_drewN | apply Kd.R_drew)); exact HO441.out) hb); have n1_ := Aside0.mk (below_step (by repeat (first | (with_reducible first | exact HB.out | apply below_alloc | apply pw_below_drewN | apply below_drew1) | exact HB.out)) hb); clear HO441; clear HB; have HO441 := n0_; have HB := n1_; clear n0_ n1_; (try clear hb); (try clear hb2); (try clear hk); (try clear hi)))
             (try simp only [Act.put, List.setIfInBounds_toArray, List.set_cons_zero, List.set_cons_succ])
             go_cut [175] (fun v175 wc => ∃ (kq : Nat) (x175_63 : Bool), v175 = .bool x175_63 ∧ Aside0 (laws_FnDeclinations.j3 kq l0 t437 t438 t439 t442 t443 x175_63 = some true) ∧ Aside0 (kq ≤ kj48) ∧ Aside0 (Kd.R k56 56 wc w.heap.size (fun _ => True) (.slice Ao66 t437.length co66) t437) ∧ Aside0 (Below w.heap.size w wc))
             case first =>
              as_aux_lemma =>
               have H := HC64.out
               clear HC64
               by_cases c69 : t442 = t444
               ·
                rw [if_pos c69] at H
                have c69b0 : (t442 == t444) = true := beq_iff_eq.mpr c69
                have c69b1 : (t442 != t444) = false := bne_eq_false_iff_eq.mpr c69
                clear c69
                (first | rw [c69b0] | (simp only [i64_w, i32_w]; rw [c69b0]) | skip)
                have H' := Aside0.mk H
                clear H
                go_wp2
                go_meet
                case rel => exact ⟨_, ((t443 != t445)), (by first | rfl | (simp; done) | (simp [*]; done)), H', ⟨by have := HJ6.out; have := HJ13.out; have := HJ48.out; first | omega | exact Nat.le_refl _⟩, ⟨by (with_reducible repeat (first | apply Kd.R_alloc | apply Kd.R_drewN | apply Kd.R_drew)); exact HO441.out⟩, ⟨by repeat (first | (with_reducible first | exact HB.out | apply below_alloc | apply pw_below_drewN | apply below_drew1) | exact HB.out)⟩⟩
               ·
                rw [if_neg c69] at H
                have c69b0 : (t442 == t444) = false := beq_eq_false_iff_ne.mpr c69
                have c69b1 : (t442 != t444) = true := bne_iff_ne.mpr c69
                (first | rw [c69b0] | (simp only [i64_w, i32_w]; rw [c69b0]) | skip)
                exact absurd H (by cases kj48 <;> simp [laws_FnDeclinations.j3])
             case rest =>
              as_aux_lemma =>
               clear HC64
               try clear c1
               try clear c2
               try clear p2
               try clear c3
               try clear c5
               try clear c6
               try clear c7
               try clear c8
               try clear c9
               try clear c10
               try clear c11
               try clear c12
               try clear c12b0
               try clear c12b1
               try clear c13
               try clear c14
               try clear c15
               try clear c17
               try clear c18
               try clear c19
               try clear c20
               try clear c20b0
               try clear c20b1
               try clear c21
               try clear c22
               try clear c23
               try clear c23b0
               try clear c27
               try clear c27b0
               try clear c56
               try clear c56b0
               try clear c56b1
               try clear c56b2
               try clear c60
               try clear c69
               try clear c69b0
               try clear c69b1
               try clear p2
               obtain ⟨kq, x175_63, rfl, HA, HJ63, HO_24, HB⟩ := hcut
               cases kq with
               | zero => exact absurd HA.out (by simp [laws_FnDeclinations.j3])
               | succ kj63 =>
                have H := HA.out
                clear HA
                simp only [laws_FnDeclinations.j3] at H
                by_cases c70 : x175_63 = true
                ·
                 subst c70
                 have H1 : (some false) = some true := by rw [if_pos rfl] at H; exact H
                 clear H
                 have H := H1
                 clear H1
                 exact absurd (Option.some.inj H) (by decide)
                ·
                 replace c70 := Bool.eq_false_iff.mpr c70
                 subst c70
                 have H1 : (if t443 = true then ((impl_ChangeBetween.f kj63 t437 t438 0).bind fun bt446 => ((impl_ChangeBetween.f kj63 t437 0 t439).bind fun bt448 => (if bt446.2 = true then (if bt448.2 = true then (if (wrap64 (bt446.1 + bt448.1)) = t442 then (laws_FnDeclinations.j4 kj63 l0) else (some false)) else (some false)) else (some false)))) else (laws_FnDeclinations.j4 kj63 l0)) = some true := by rw [if_neg (show ¬ (false = true) by decide)] at H; exact H
                 clear H
                 have H := H1
                 clear H1
                 have HC71 := Aside0.mk H
                 clear H
                 go_upto_if 176 with (fail)
                 go_cut [] (fun wc => ∃ (kq : Nat), Aside0 (laws_FnDeclinations.j4 kq l0 = some true) ∧ Aside0 (kq ≤ kj63) ∧ Aside0 (Below w.heap.size w wc))
                 case first =>
                  as_aux_lemma =>
                   have H := HC71.out
                   clear HC71
                   by_cases c72 : t443 = true
                   ·
                    subst c72
                    have H1 : ((impl_ChangeBetween.f kj63 t437 t438 0).bind fun bt446 => ((impl_ChangeBetween.f kj63 t437 0 t439).bind fun bt448 => (if bt446.2 = true then (if bt448.2 = true then (if (wrap64 (bt446.1 + bt448.1)) = t442 then (laws_FnDeclinations.j4 kj63 l0) else (some false)) else (some false)) else (some false)))) = some true := by rw [if_pos rfl] at H; exact H
                    clear H
                    have H := H1
                    clear H1
                    replace H := Option.bind_eq_some_iff.mp H
                    obtain ⟨⟨t446, t447⟩, A730, H⟩ := H
                    replace H : ((impl_ChangeBetween.f kj63 t437 0 t439).bind fun bt448 => (if t447 = true then (if bt448.2 = true then (if (wrap64 (t446 + bt448.1)) = t442 then (laws_FnDeclinations.j4 kj63 l0) else (some false)) else (some false)) else (some false))) = some true := H
                    have A73 := Aside0.mk A730
                    clear A730
                    replace H := Option.bind_eq_some_iff.mp H
                    obtain ⟨⟨t448, t449⟩, A740, H⟩ := H
                    replace H : (if t447 = true then (if t449 = true then (if (wrap64 (t446 + t448)) = t442 then (laws_FnDeclinations.j4 kj63 l0) else (some false)) else (some false)) else (some false)) = some true := H
                    have A74 := Aside0.mk A740
                    clear A740
                    by_cases c75 : t447 = true
                    ·
                     subst c75
                     have H1 : (if t449 = true then (if (wrap64 (t446 + t448)) = t442 then (laws_FnDeclinations.j4 kj63 l0) else (some false)) else (some false)) = some true := by rw [if_pos rfl] at H; exact H
                     clear H
                     have H := H1
                     clear H1
                     by_cases c76 : t449 = true
                     ·
                      subst c76
                      have H1 : (if (wrap64 (t446 + t448)) = t442 then (laws_FnDeclinations.j4 kj63 l0) else (some false)) = some true := by rw [if_pos rfl] at H; exact H
                      clear H
                      have H := H1
                      clear H1
                      by_cases c77 : (wrap64 (t446 + t448)) = t442
                      ·
                       rw [if_pos c77] at H
                       have c77b0 : ((wrap64 (t446 + t448)) == t442) = true := beq_iff_eq.mpr c77
                       have c77b1 : ((wrap64 (t446 + t448)) != t442) = false := bne_eq_false_iff_eq.mpr c77
                       clear c77
                       (first | rw [c77b0] | (simp only [i64_w, i32_w]; rw [c77b0]) | skip)
                       have H' := Aside0.mk H
                       clear H
                       go_wp2_with (first | ((with_reducible refine gate_callee (f := 18) rfl ?_); refine goesL_ (some 180) rfl rfl Try.func18 (by kernel_rfl) rfl #[.slice Ao66 t437.length co66, .int .i64 t438, .int .i64 0] rfl (by (try simp only [List.map_toArray, List.map_cons, List.map_nil]); first | done | rfl | (simp only [List.length_drop, List.length_take]; rfl)) ?_; (with_reducible refine (impl_ChangeBetween.calls kj63 _ _ t437 t438 0 t446 true _ ?side1 ?side2 A73.out).mono ?_); (case side1 => repeat (first | exact (Kd.R_reads' HO_24.out).2.2 | (with_reducible refine Kd.C_alloc ?_ _) | (with_reducible refine Kd.C_drewN ?_ _) | (with_reducible refine Kd.C_drew ?_))); (case side2 => exact (Kd.R_reads' HO_24.out).2.1); rintro e w78 ⟨rfl, hb⟩; refine ⟨_, rfl, ?_⟩; have n0_ := Aside0.mk (Kd.R_below (by (with_reducible repeat (first | apply Kd.R_alloc | apply Kd.R_drewN | apply Kd.R_drew)); exact HO_24.out) hb); have n1_ := Aside0.mk (below_step (by repeat (first | (with_reducible first | exact HB.out | apply below_alloc | apply pw_below_drewN | apply below_drew1) | exact HB.out)) hb); clear HO_24; clear HB; have HO_24 := n0_; have HB := n1_; clear n0_ n1_; (try clear hb); (try clear hb2); (try clear hk); (try clear hi)) | ((with_reducible refine gate_callee (f := 18) rfl ?_); refine goesL_ (some 186) rfl rfl Try.func18 (by kernel_rfl) rfl #[.slice Ao66 t437.length co66, .int .i64 0, .int .i64 t439] rfl (by (try simp only [List.map_toArray, List.map_cons, List.map_nil]); first | done | rfl | (simp only [List.length_drop, List.length_take]; rfl)) ?_; (with_reducible refine (impl_ChangeBetween.calls kj63 _ _ t437 0 t439 t448 true _ ?side1 ?side2 A74.out).mono ?_); (case side1 => repeat (first | exact (Kd.R_reads' HO_24.out).2.2 | (with_reducible refine Kd.C_alloc ?_ _) | (with_reducible refine Kd.C_drewN ?_ _) | (with_reducible refine Kd.C_drew ?_))); (case side2 => exact (Kd.R_reads' HO_24.out).2.1); rintro e w79 ⟨rfl, hb⟩; refine ⟨_, rfl, ?_⟩; have n0_ := Aside0.mk (Kd.R_below (by (with_reducible repeat (first | apply Kd.R_alloc | apply Kd.R_drewN | apply Kd.R_drew)); exact HO_24.out) hb); have n1_ := Aside0.mk (below_step (by repeat (first | (with_reducible first | exact HB.out | apply below_alloc | apply pw_below_drewN | apply below_drew1) | exact HB.out)) hb); clear HO_24; clear HB; have HO_24 := n0_; have HB := n1_; clear n0_ n1_; (try clear hb); (try clear hb2); (try clear hk); (try clear hi)))
                       go_meet
                       case rel => exact ⟨_, H', ⟨by have := HJ6.out; have := HJ13.out; have := HJ48.out; have := HJ63.out; first | omega | exact Nat.le_refl _⟩, ⟨by repeat (first | (with_reducible first | exact HB.out | apply below_alloc | apply pw_below_drewN | apply below_drew1) | exact HB.out)⟩⟩
                      ·
                       rw [if_neg c77] at H
                       have c77b0 : ((wrap64 (t446 + t448)) == t442) = false := beq_eq_false_iff_ne.mpr c77
                       have c77b1 : ((wrap64 (t446 + t448)) != t442) = true := bne_iff_ne.mpr c77
                       (first | rw [c77b0] | (simp only [i64_w, i32_w]; rw [c77b0]) | skip)
                       exact absurd (Option.some.inj H) (by decide)
                     ·
                      replace c76 := Bool.eq_false_iff.mpr c76
                      subst c76
                      have H1 : (some false) = some true := by rw [if_neg (show ¬ (false = true) by decide)] at H; exact H
                      clear H
                      have H := H1
                      clear H1
                      exact absurd (Option.some.inj H) (by decide)
                    ·
                     replace c75 := Bool.eq_false_iff.mpr c75
                     subst c75
                     have H1 : (some false) = some true := by rw [if_neg (show ¬ (false = true) by decide)] at H; exact H
                     clear H
                     have H := H1
                     clear H1
                     exact absurd (Option.some.inj H) (by decide)
                   ·
                    replace c72 := Bool.eq_false_iff.mpr c72
                    subst c72
                    have H1 : (laws_FnDeclinations.j4 kj63 l0) = some true := by rw [if_neg (show ¬ (false = true) by decide)] at H; exact H
                    clear H
                    have H := H1
                    clear H1
                    have H' := Aside0.mk H
                    clear H
                    go_wp2
                    go_meet
                    case rel => exact ⟨_, H', ⟨by have := HJ6.out; have := HJ13.out; have := HJ48.out; have := HJ63.out; first | omega | exact Nat.le_refl _⟩, ⟨by repeat (first | (with_reducible first | exact HB.out | apply below_alloc | apply pw_below_drewN | apply below_drew1) | exact HB.out)⟩⟩
                 case rest =>
                  as_aux_lemma =>
                   clear HC71
                   try clear c1
                   try clear c2
                   try clear p2
                   try clear c3
                   try clear c5
                   try clear c6
                   try clear p6
                   try clear c7
                   try clear c8
                   try clear c9
                   try clear c10
                   try clear c11
                   try clear c12
                   try clear c12b0
                   try clear c12b1
                   try clear c13
                   try clear c14
                   try clear c15
                   try clear c17
                   try clear c18
                   try clear c19
                   try clear c20
                   try clear c20b0
                   try clear c20b1
                   try clear c21
                   try clear c22
                   try clear c23
                   try clear c23b0
                   try clear c27
                   try clear c27b0
                   try clear c56
                   try clear c56b0
                   try clear c56b1
                   try clear c56b2
                   try clear c60
                   try clear p64
                   try clear c69
                   try clear c69b0
                   try clear c69b1
                   try clear c70
                   try clear c72
                   try clear c75
                   try clear c76
                   try clear c77
                   try clear c77b0
                   try clear c77b1
                   try clear p2
                   obtain ⟨kq, HA, HJ70, HB⟩ := hcut
                   cases kq with
                   | zero => exact absurd HA.out (by simp [laws_FnDeclinations.j4])
                   | succ kj70 =>
                    have H := HA.out
                    clear HA
                    simp only [laws_FnDeclinations.j4] at H
                    replace H := Option.bind_eq_some_iff.mp H
                    obtain ⟨⟨t450, t451⟩, A860, H⟩ := H
                    replace H : ((impl_DaysWith.f kj70 t450 t451).bind fun bt454 => ((spec_DaysWith.f kj70 t450 t451).bind fun bt457 => (if bt454.1 = bt457.1 then (if bt454.2.1 = bt457.2.1 then (if (bt454.2.2 == bt457.2.2) = true then ((impl_ArePoints.f kj70 t450).bind fun t460 => ((spec_ArePoints.f kj70 t450).bind fun t461 => (some (t460 == t461)))) else (some false)) else (some false)) else (some false)))) = some true := H
                    have A86 := Aside0.mk A860
                    clear A860
                    replace H := Option.bind_eq_some_iff.mp H
                    obtain ⟨⟨t454, t455, t456⟩, A870, H⟩ := H
                    replace H : ((spec_DaysWith.f kj70 t450 t451).bind fun bt457 => (if t454 = bt457.1 then (if t455 = bt457.2.1 then (if (t456 == bt457.2.2) = true then ((impl_ArePoints.f kj70 t450).bind fun t460 => ((spec_ArePoints.f kj70 t450).bind fun t461 => (some (t460 == t461)))) else (some false)) else (some false)) else (some false))) = some true := H
                    have A87 := Aside0.mk A870
                    clear A870
                    replace H := Option.bind_eq_some_iff.mp H
                    obtain ⟨⟨t457, t458, t459⟩, A880, H⟩ := H
                    replace H : (if t454 = t457 then (if t455 = t458 then (if (t456 == t459) = true then ((impl_ArePoints.f kj70 t450).bind fun t460 => ((spec_ArePoints.f kj70 t450).bind fun t461 => (some (t460 == t461)))) else (some false)) else (some false)) else (some false)) = some true := H
                    have A88 := Aside0.mk A880
                    clear A880
                    by_cases c89 : t454 = t457
                    ·
                     rw [if_pos c89] at H
                     have c89b0 : (t454 == t457) = true := beq_iff_eq.mpr c89
                     have c89b1 : (t454 != t457) = false := bne_eq_false_iff_eq.mpr c89
                     clear c89
                     by_cases c90 : t455 = t458
                     ·
                      rw [if_pos c90] at H
                      have c90b0 : (t455 == t458) = true := beq_iff_eq.mpr c90
                      have c90b1 : (t455 != t458) = false := bne_eq_false_iff_eq.mpr c90
                      clear c90
                      by_cases c91 : (t456 == t459) = true
                      ·
                       rw [if_pos c91] at H
                       have c91b0 : (t456 == t459) = true := c91
                       (try (have c91b1 : decide (t456 = t459) = true := by simpa using c91))
                       (try (have c91b2 : (t456 == t459) = true := by simpa using c91))
                       clear c91
                       replace H := Option.bind_eq_some_iff.mp H
                       obtain ⟨t460, A920, H⟩ := H
                       replace H : ((spec_ArePoints.f kj70 t450).bind fun t461 => (some (t460 == t461))) = some true := H
                       have A92 := Aside0.mk A920
                       clear A920
                       replace H := Option.bind_eq_some_iff.mp H
                       obtain ⟨t461, A930, H⟩ := H
                       replace H : (some (t460 == t461)) = some true := H
                       have A93 := Aside0.mk A930
                       clear A930
                       (first | obtain rfl := Option.some.inj H | have hr_ := eq_of_beq (Option.some.inj H) | skip)
                       go_wp2_with (first | ((with_reducible refine gate_callee (f := 20) rfl ?_); refine goesL_ (some 204) rfl rfl Try.func20 (by kernel_rfl) rfl #[.slice A0 l0.length c0] rfl (by (try simp only [List.map_toArray, List.map_cons, List.map_nil]); first | done | rfl | (simp only [List.length_drop, List.length_take]; rfl)) ?_; (with_reducible refine (spec_DrawDaysWith.calls kj70 _ _ l0 t450 t451 _ ?side1 ?side2 A86.out).mono ?_); (case side1 => repeat (first | exact (Kd.C_below HR0.out HB.out) | (with_reducible refine Kd.C_alloc ?_ _) | (with_reducible refine Kd.C_drewN ?_ _) | (with_reducible refine Kd.C_drew ?_))); (case side2 => exact HC0.out); rintro e w94 ⟨v452, rfl, ho0, hb⟩; refine ⟨_, rfl, ?_⟩; have n0_ := Aside0.mk (Kd.R_lower ho0 (below_size (by repeat (first | (with_reducible first | exact HB.out | apply below_alloc | apply pw_below_drewN | apply below_drew1) | exact HB.out)))); have n1_ := Aside0.mk (below_step (by repeat (first | (with_reducible first | exact HB.out | apply below_alloc | apply pw_below_drewN | apply below_drew1) | exact HB.out)) hb); clear HB; have HO453 := n0_; have HB := n1_; clear n0_ n1_; (try clear hb); (try clear hb2); (try clear hk); (try clear hi); (try clear ho0); obtain ⟨Ao95, co95, eo95⟩ := Kd.R_slice HO453.out; subst eo95) | ((with_reducible refine gate_callee (f := 12) rfl ?_); refine goesL_ (some 210) rfl rfl Try.func12 (by kernel_rfl) rfl #[.slice Ao95 t450.length co95, .int .i64 t451] rfl (by (try simp only [List.map_toArray, List.map_cons, List.map_nil]); first | done | rfl | (simp only [List.length_drop, List.length_take]; rfl)) ?_; (with_reducible refine (impl_DaysWith.calls kj70 _ _ t450 t451 t454 t455 t456 _ ?side1 ?side2 A87.out).mono ?_); (case side1 => repeat (first | exact (Kd.R_reads' HO453.out).2.2 | (with_reducible refine Kd.C_alloc ?_ _) | (with_reducible refine Kd.C_drewN ?_ _) | (with_reducible refine Kd.C_drew ?_))); (case side2 => exact (Kd.R_reads' HO453.out).2.1); rintro e w96 ⟨rfl, hb⟩; refine ⟨_, rfl, ?_⟩; have n0_ := Aside0.mk (Kd.R_below (by (with_reducible repeat (first | apply Kd.R_alloc | apply Kd.R_drewN | apply Kd.R_drew)); exact HO453.out) hb); have n1_ := Aside0.mk (below_step (by repeat (first | (with_reducible first | exact HB.out | apply below_alloc | apply pw_below_drewN | apply below_drew1) | exact HB.out)) hb); clear HO453; clear HB; have HO453 := n0_; have HB := n1_; clear n0_ n1_; (try clear hb); (try clear hb2); (try clear hk); (try clear hi)) | ((with_reducible refine gate_callee (f := 21) rfl ?_); refine goesL_ (some 217) rfl rfl Try.func21 (by kernel_rfl) rfl #[.slice Ao95 t450.length co95, .int .i64 t451] rfl (by (try simp only [List.map_toArray, List.map_cons, List.map_nil]); first | done | rfl | (simp only [List.length_drop, List.length_take]; rfl)) ?_; (with_reducible refine (spec_DaysWith.calls kj70 _ _ t450 t451 t457 t458 t459 _ ?side1 ?side2 A88.out).mono ?_); (case side1 => repeat (first | exact (Kd.R_reads' HO453.out).2.2 | (with_reducible refine Kd.C_alloc ?_ _) | (with_reducible refine Kd.C_drewN ?_ _) | (with_reducible refine Kd.C_drew ?_))); (case side2 => exact (Kd.R_reads' HO453.out).2.1); rintro e w97 ⟨rfl, hb⟩; refine ⟨_, rfl, ?_⟩; have n0_ := Aside0.mk (Kd.R_below (by (with_reducible repeat (first | apply Kd.R_alloc | apply Kd.R_drewN | apply Kd.R_drew)); exact HO453.out) hb); have n1_ := Aside0.mk (below_step (by repeat (first | (with_reducible first | exact HB.out | apply below_alloc | apply pw_below_drewN | apply below_drew1) | exact HB.out)) hb); clear HO453; clear HB; have HO453 := n0_; have HB := n1_; clear n0_ n1_; (try clear hb); (try clear hb2); (try clear hk); (try clear hi)) | (go_at_call 22; (with_reducible refine (impl_ArePoints.calls kj70 _ _ t450 t460 _ ?side1 ?side2 A92.out).mono ?_); (case side1 => repeat (first | exact (Kd.R_reads' HO453.out).2.2 | (with_reducible refine Kd.C_alloc ?_ _) | (with_reducible refine Kd.C_drewN ?_ _) | (with_reducible refine Kd.C_drew ?_))); (case side2 => exact (Kd.R_reads' HO453.out).2.1); rintro e w98 ⟨rfl, hb⟩; have n0_ := Aside0.mk (Kd.R_below (by (with_reducible repeat (first | apply Kd.R_alloc | apply Kd.R_drewN | apply Kd.R_drew)); exact HO453.out) hb); have n1_ := Aside0.mk (below_step (by repeat (first | (with_reducible first | exact HB.out | apply below_alloc | apply pw_below_drewN | apply below_drew1) | exact HB.out)) hb); clear HO453; clear HB; have HO453 := n0_; have HB := n1_; clear n0_ n1_; (try clear hb); (try clear hb2); (try clear hk); (try clear hi)) | (go_at_call 23; (with_reducible refine (spec_ArePoints.calls kj70 _ _ t450 t461 _ ?side1 ?side2 A93.out).mono ?_); (case side1 => repeat (first | exact (Kd.R_reads' HO453.out).2.2 | (with_reducible refine Kd.C_alloc ?_ _) | (with_reducible refine Kd.C_drewN ?_ _) | (with_reducible refine Kd.C_drew ?_))); (case side2 => exact (Kd.R_reads' HO453.out).2.1); rintro e w99 ⟨rfl, hb⟩; have n0_ := Aside0.mk (Kd.R_below (by (with_reducible repeat (first | apply Kd.R_alloc | apply Kd.R_drewN | apply Kd.R_drew)); exact HO453.out) hb); have n1_ := Aside0.mk (below_step (by repeat (first | (with_reducible first | exact HB.out | apply below_alloc | apply pw_below_drewN | apply below_drew1) | exact HB.out)) hb); clear HO453; clear HB; have HO453 := n0_; have HB := n1_; clear n0_ n1_; (try clear hb); (try clear hb2); (try clear hk); (try clear hi)))
                       go_ret
                       exact ⟨by first | rfl | (simp [errW_none, errW_some] <;> rfl) | (simp [*, errW_none, errW_some] <;> rfl), by repeat (first | (with_reducible first | exact HB.out | apply below_alloc | apply pw_below_drewN | apply below_drew1) | exact HB.out)⟩
                      ·
                       rw [if_neg c91] at H
                       have c91b0 : (t456 == t459) = false := by simpa using c91
                       (try (have c91b1 : decide (t456 = t459) = false := by simpa using c91))
                       (try (have c91b2 : (t456 == t459) = false := by simpa using c91))
                       (try (have c91b3 : ¬ (t456 = t459) := by simpa using c91))
                       clear c91
                       exact absurd (Option.some.inj H) (by decide)
                     ·
                      rw [if_neg c90] at H
                      have c90b0 : (t455 == t458) = false := beq_eq_false_iff_ne.mpr c90
                      have c90b1 : (t455 != t458) = true := bne_iff_ne.mpr c90
                      exact absurd (Option.some.inj H) (by decide)
                    ·
                     rw [if_neg c89] at H
                     have c89b0 : (t454 == t457) = false := beq_eq_false_iff_ne.mpr c89
                     have c89b1 : (t454 != t457) = true := bne_iff_ne.mpr c89
                     exact absurd (Option.some.inj H) (by decide)
/-- THE ONE PURE STATEMENT of laws_FnDeclinations: yours. -/
def laws_FnDeclinations.Pure : Prop := ∀ (l0 : List Int), l0.length ≤ maxLen → l0.length * 1 ≤ 140737488351232 → (∀ x ∈ l0, (Lit.int .u8 x).wf = true) → ∃ k, laws_FnDeclinations.f k l0 = some true
theorem laws_FnDeclinations.walk (P : laws_FnDeclinations.Pure) (a0 : Option Addr) (len0 cap0 : Nat) (z0 : List Int) (w : World) (w0 : (a0 = none ∧ len0 = 0 ∧ cap0 = 0 ∧ z0 = []) ∨ ∃ x, a0 = some x ∧ len0 ≤ cap0 ∧ cap0 ≤ maxLen ∧ z0.length = cap0 ∧ (∀ i, i < z0.length → w.cell? (x.add i) = some (.int .u8 (z0.getD i 0))) ∧ ∀ n ∈ z0, (Lit.int .u8 n).wf = true) (y0 : len0 * 1 ≤ 140737488351232) :
  Calls Try.prog 3 #[.slice a0 len0 cap0] w fun e w' => e = .returned (.bool true) ∧ Below w.heap.size w w' := by
 obtain ⟨l0, rfl, hr0, hm0, hw0, hc0⟩ := ReadsInt.ofRowC w0
 obtain ⟨k, h⟩ := P l0 hm0 y0 hw0
 refine (laws_FnDeclinations.calls k _ _ l0 true w (Kd.C_of_reads (d := (0 : Int)) (h1 := fun _ => rfl) hr0) hc0 h).mono ?_
 rintro e w' ⟨rfl, hd⟩
 exact ⟨rfl, hd⟩

end Go.Proofs.Ytlipaiabjcaeiaa.A
