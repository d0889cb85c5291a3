/- One Lean function and its proof for each Go function that the law reaches, written by a program out of the translation. No conditions. -/
import Derived.Test.YtlipaiabjcaeiaaKFnPoints3
set_option maxHeartbeats 8000000
set_option maxRecDepth 100000
set_option linter.unusedSimpArgs false
set_option linter.unusedVariables false
namespace Go.Proofs.Ytlipaiabjcaeiaa.A
open Go.RowKit YtlipaiabjcaeiaaW.PrintWords YtlipaiabjcaeiaaW.PrintLast YtlipaiabjcaeiaaW.PrintMore
attribute [local go_sem] max2_int min2_int max_two min_two max_three min_three max_four min_four
section
attribute [local go_sem high] eqA56
def laws_rPoints.l0 : Nat → List (S56) → List (S56) → Int → Option (Bool)
 | 0, _, _, _ => none
 | k + 1, x0, x1, x5 => if x5 < (x0.length : Int) then (if 0 ≤ x5 then (if x5 < (x1.length : Int) then (if (!(((rd_T56 x0 x5).f0) == ((rd_T56 x1 x5).f0)) || (!(((rd_T56 x0 x5).f1) == ((rd_T56 x1 x5).f1)))) = true then (some false) else (laws_rPoints.l0 k x0 x1 (wrap64 (x5 + 1)))) else (none)) else (none)) else (some true)
def laws_rPoints.f (k : Nat) (l0 : List (S56)) (l1 : List (S56)) : Option (Bool) := if (l0.length : Int) = (l1.length : Int) then (laws_rPoints.l0 k l0 l1 0) else (some false)
theorem laws_rPoints.mono_l : ∀ k, (∀ y0 y1 y2, LeO (laws_rPoints.l0 k y0 y1 y2) (laws_rPoints.l0 (k + 1) y0 y1 y2))
 | 0 => fun _ _ _ r h => by simp [laws_rPoints.l0] at h
 | k + 1 => by
  have ih0 := laws_rPoints.mono_l k
  ·
   intro y0 y1 y2
   unfold laws_rPoints.l0
   repeat' first
   | (with_reducible exact ih0 _ _ _)
   | (with_reducible exact LeO.refl _)
   | (with_reducible exact LeO.none _)
   | (with_reducible refine LeO.ite ?_ ?_)
   | (with_reducible refine LeO.bind ?_ (fun _ => ?_))
   | exact ih0 _ _ _
   | exact LeO.none _
   | refine LeO.ite ?_ ?_
   | refine LeO.bind ?_ (fun _ => ?_)
theorem laws_rPoints.mono : ∀ a0 a1 k, LeO (laws_rPoints.f k a0 a1) (laws_rPoints.f (k + 1) a0 a1) := by
 intro a0 a1 k
 have ih0 := laws_rPoints.mono_l k
 unfold laws_rPoints.f
 repeat' first
   | (with_reducible exact ih0 _ _ _)
   | (with_reducible exact LeO.refl _)
   | (with_reducible exact LeO.none _)
   | (with_reducible refine LeO.ite ?_ ?_)
   | (with_reducible refine LeO.bind ?_ (fun _ => ?_))
   | exact ih0 _ _ _
   | exact LeO.none _
   | refine LeO.ite ?_ ?_
   | refine LeO.bind ?_ (fun _ => ?_)
theorem laws_rPoints.calls (k : Nat) (A0 : Option Addr) (c0 : Nat) (l0 : List (S56)) (A1 : Option Addr) (c1 : Nat) (l1 : List (S56)) (r : Bool) (w : World) (hr0 : Kd.C k56 w A0 l0.length l0) (hc0 : l0.length ≤ c0) (hr1 : Kd.C k56 w A1 l1.length l1) (hc1 : l1.length ≤ c1) (h : laws_rPoints.f k l0 l1 = some r) :
  Calls Try.prog 41 #[.slice A0 l0.length c0, .slice A1 l1.length c1] w fun e w' => e = .returned (.bool r) ∧ Drawn0 w w' := by
 have hu56 := Try.underlying56
 have HR0 := Aside0.mk hr0
 have HC0 := Aside0.mk hc0
 clear hr0 hc0
 have HR1 := Aside0.mk hr1
 have HC1 := Aside0.mk hc1
 clear hr1 hc1
 have H : (if (l0.length : Int) = (l1.length : Int) then (laws_rPoints.l0 k l0 l1 0) else (some false)) = some r := h
 clear h
 by_cases c3 : (l0.length : Int) = (l1.length : Int)
 ·
  rw [if_pos c3] at H
  have c3b0 : ((l0.length : Int) == (l1.length : Int)) = true := beq_iff_eq.mpr c3
  have c3b1 : ((l0.length : Int) != (l1.length : Int)) = false := bne_eq_false_iff_eq.mpr c3
  have c3b2 : (l0.length == l1.length) = true := by first | simpa using c3 | (simp at c3 ⊢; omega)
  clear c3
  have H' := Aside0.mk H
  clear H
  go_enter Try.func41, Try.ntmps41
  go_wp2
  repeat (go_quiet (fail); try go_wp2)
  go_loopg [5] k (fun kq v5 w' => ∃ (x5_1 : Int), v5 = .int .i64 x5_1 ∧ Aside0 (laws_rPoints.l0 kq l0 l1 x5_1 = some r) ∧ Aside0 (kq ≤ k) ∧ Drawn0 w w')
  case atStart => exact ⟨(0), qz23, H', ⟨Nat.le_refl _⟩, by repeat (first | exact Drawn0.refl _ | apply Drawn0.step)⟩
  case round =>
   clear H'
   try clear c1
   try clear p2
   try clear c3
   try clear c3b0
   try clear c3b1
   try clear c3b2
   obtain ⟨x5_1, rfl, HA, HK1, ⟨m1, rfl⟩⟩ := hrel
   cases gk with
   | zero => exact absurd HA.out (by simp [laws_rPoints.l0])
   | succ k1 =>
    have H := HA.out
    clear HA
    simp only [laws_rPoints.l0] at H
    by_cases c4 : x5_1 < (l0.length : Int)
    ·
     rw [if_pos c4] at H
     have c4b0 : decide (x5_1 < (l0.length : Int)) = true := decide_eq_true c4
     clear c4
     by_cases c5 : 0 ≤ x5_1
     ·
      rw [if_pos c5] at H
      have c5b0 : decide (0 ≤ x5_1) = true := decide_eq_true c5
      clear c5
      by_cases c6 : x5_1 < (l1.length : Int)
      ·
       rw [if_pos c6] at H
       have c6b0 : decide (x5_1 < (l1.length : Int)) = true := decide_eq_true c6
       clear c6
       by_cases c7 : (!(((rd_T56 l0 x5_1).f0) == ((rd_T56 l1 x5_1).f0)) || (!(((rd_T56 l0 x5_1).f1) == ((rd_T56 l1 x5_1).f1)))) = true
       ·
        rw [if_pos c7] at H
        have c7b0 : (!(((rd_T56 l0 x5_1).f0) == ((rd_T56 l1 x5_1).f0)) || (!(((rd_T56 l0 x5_1).f1) == ((rd_T56 l1 x5_1).f1)))) = true := c7
        clear c7
        obtain rfl := Option.some.inj H
        have p565 : 0 ≤ (x5_1 : Int) := of_decide_eq_true qz4
        have q565 : x5_1 < (l0.length : Int) := of_decide_eq_true qz4
        obtain ⟨ad565, e565, hx565_0, hx565_1⟩ := at_T56 HR0.out x5_1 p565 q565
        cases e565
        replace p565 := eq_true p565
        replace q565 := eq_true q565
        have p566 : 0 ≤ (x5_1 : Int) := of_decide_eq_true qz4
        have q566 : x5_1 < (l1.length : Int) := of_decide_eq_true qz4
        obtain ⟨ad566, e566, hx566_0, hx566_1⟩ := at_T56 HR1.out x5_1 p566 q566
        cases e566
        replace p566 := eq_true p566
        replace q566 := eq_true q566
        go_wp2
        repeat (go_quiet (fail); try go_wp2)
        go_ret
        exact ⟨by first | rfl | (simp; done) | (simp [*]; done), by repeat (first | exact Drawn0.refl _ | apply Drawn0.step)⟩
       ·
        rw [if_neg c7] at H
        have c7b0 : (!(((rd_T56 l0 x5_1).f0) == ((rd_T56 l1 x5_1).f0)) || (!(((rd_T56 l0 x5_1).f1) == ((rd_T56 l1 x5_1).f1)))) = false := by simpa using c7
        clear c7
        have H' := Aside0.mk H
        clear H
        have p565 : 0 ≤ (x5_1 : Int) := of_decide_eq_true qz4
        have q565 : x5_1 < (l0.length : Int) := of_decide_eq_true qz4
        obtain ⟨ad565, e565, hx565_0, hx565_1⟩ := at_T56 HR0.out x5_1 p565 q565
        cases e565
        replace p565 := eq_true p565
        replace q565 := eq_true q565
        have p566 : 0 ≤ (x5_1 : Int) := of_decide_eq_true qz4
        have q566 : x5_1 < (l1.length : Int) := of_decide_eq_true qz4
        obtain ⟨ad566, e566, hx566_0, hx566_1⟩ := at_T56 HR1.out x5_1 p566 q566
        cases e566
        replace p566 := eq_true p566
        replace q566 := eq_true q566
        go_wp2
        repeat (go_quiet (fail); try go_wp2)
        go_roundg k1
        case measure => have := HK1.out; omega
        case rel => exact ⟨(wrap64 (x5_1 + 1)), qz23, H', ⟨by have := HK1.out; omega⟩, by repeat (first | exact Drawn0.refl _ | apply Drawn0.step)⟩
      ·
       rw [if_neg c6] at H
       exact absurd H (by simp)
     ·
      rw [if_neg c5] at H
      exact absurd H (by simp)
    ·
     rw [if_neg c4] at H
     have c4b0 : decide (x5_1 < (l0.length : Int)) = false := decide_eq_false c4
     clear c4
     obtain rfl := Option.some.inj H
     go_wp2
     repeat (go_quiet (fail); try go_wp2)
     go_ret
     exact ⟨by first | rfl | (simp; done) | (simp [*]; done), by repeat (first | exact Drawn0.refl _ | apply Drawn0.step)⟩
 ·
  rw [if_neg c3] at H
  have c3b0 : ((l0.length : Int) == (l1.length : Int)) = false := beq_eq_false_iff_ne.mpr c3
  have c3b1 : ((l0.length : Int) != (l1.length : Int)) = true := bne_iff_ne.mpr c3
  have c3b2 : (l0.length == l1.length) = false := by first | simpa using c3 | (simp at c3 ⊢; omega)
  obtain rfl := Option.some.inj H
  go_enter Try.func41, Try.ntmps41
  go_wp2
  repeat (go_quiet (fail); try go_wp2)
  go_ret
  exact ⟨by first | rfl | (simp; done) | (simp [*]; done), by repeat (first | exact Drawn0.refl _ | apply Drawn0.step)⟩
end
def spec_DrawNeedlessPoints.f (k : Nat) (l0 : List Int) : Option ((List (S56))) := (spec_l1Cur_points.f k l0 0 0).bind fun bt568 => (if (bt568.1.length : Int) > 4 then (if 4 ≤ (bt568.1.length : Int) then (some (bt568.1.take (4 : Int).toNat)) else (none)) else (some bt568.1))
theorem spec_DrawNeedlessPoints.mono : ∀ a0 k, LeO (spec_DrawNeedlessPoints.f k a0) (spec_DrawNeedlessPoints.f (k + 1) a0) := by
 intro a0 k
 unfold spec_DrawNeedlessPoints.f
 repeat' first
   | (with_reducible exact spec_l1Cur_points.mono _ _ _ _)
   | (with_reducible exact LeO.refl _)
   | (with_reducible exact LeO.none _)
   | (with_reducible refine LeO.ite ?_ ?_)
   | (with_reducible refine LeO.bind ?_ (fun _ => ?_))
   | exact spec_l1Cur_points.mono _ _ _ _
   | exact LeO.none _
   | refine LeO.ite ?_ ?_
   | refine LeO.bind ?_ (fun _ => ?_)
theorem spec_DrawNeedlessPoints.calls (k : Nat) (A0 : Option Addr) (c0 : Nat) (l0 : List Int) (r : List (S56)) (w : World) (hr0 : Kd.C (Kd.int .u8) w A0 l0.length l0) (hc0 : l0.length ≤ c0) (h : spec_DrawNeedlessPoints.f k l0 = some r) :
  Calls Try.prog 42 #[.slice A0 l0.length c0] w fun e w' => ∃ v0_ : Value, e = .returned (v0_) ∧ Kd.R k56 56 w' w.heap.size (fun _ => True) v0_ r ∧ Below w.heap.size w w' := by
 have hu67 := Try.underlying67
 have HR0 := Aside0.mk hr0
 have HC0 := Aside0.mk hc0
 clear hr0 hc0
 have HB := Aside0.mk (Below.refl w.heap.size w)
 have H : ((spec_l1Cur_points.f k l0 0 0).bind fun bt568 => (if (bt568.1.length : Int) > 4 then (if 4 ≤ (bt568.1.length : Int) then (some (bt568.1.take (4 : Int).toNat)) else (none)) else (some bt568.1))) = some r := h
 clear h
 replace H := Option.bind_eq_some_iff.mp H
 obtain ⟨⟨t568, t571, t572⟩, A20, H⟩ := H
 replace H : (if (t568.length : Int) > 4 then (if 4 ≤ (t568.length : Int) then (some (t568.take (4 : Int).toNat)) else (none)) else (some t568)) = some r := H
 have A2 := Aside0.mk A20
 clear A20
 by_cases c3 : (t568.length : Int) > 4
 ·
  rw [if_pos c3] at H
  have c3b0 : decide (4 < (t568.length : Int)) = true := decide_eq_true c3
  have c3b1 : decide (4 < t568.length) = true := decide_eq_true (by omega)
  clear c3
  by_cases c4 : 4 ≤ (t568.length : Int)
  ·
   rw [if_pos c4] at H
   have c4b0 := eq_true c4
   have c4b1 : decide (4 ≤ (t568.length : Int)) = true := decide_eq_true c4
   clear c4
   obtain ⟨y573, hy573⟩ : ∃ y_ : List (S56), y_ = (t568.take (4 : Int).toNat) := ⟨_, rfl⟩
   replace H : (some y573) = some r := by first | (rw [hy573]; with_reducible exact H) | (have H2_ := (Option.bind_some _ _).symm.trans H; rw [hy573]; with_reducible exact H2_) | (have H2_ := (Option.bind_some _ _).symm.trans H; with_reducible exact H2_) | with_reducible exact H | (rw [hy573]; exact H) | exact H
   have Ny573 := Aside0.mk hy573
   clear hy573
   obtain rfl := Option.some.inj H
   go_enter Try.func42, Try.ntmps42
   go_wp2_with (first | ((with_reducible refine gate_dst (N := 7) rfl ?_); refine box_event ?hg (N := 7) ?hd (cs := #[.slice A0 l0.length c0, .int .i64 0, .int .u64 0]) (t := 67) ?hr ?_; (case hd => rfl); (case hg => rfl); (case hr => first | (go_simp; done) | (go_simp; rfl)); intro gb567 hg w5 hbox hb; have n0_ := Aside0.mk (below_step qz1 hb); have n1_ := Aside0.mk ((⟨_, _, hbox, by rw [hg]; exact (below_size qz1), HR0.out⟩ : IsS67 w w5 gb567 l0 0 0)); clear HB; have HB := n0_; have HI567 := n1_; clear n0_ n1_; clear hb hbox hg) | ((with_reducible refine gate_callee (f := 47) rfl ?_); refine goesL_ (some 9) rfl rfl Try.func47 qz10 rfl #[.pointer (some ⟨gb567, 0, none⟩)] rfl qz2 ?_; (with_reducible refine (spec_l1Cur_points.calls k gb567 l0 0 0 t568 t571 t572 w _ ?side1 ?side2 A2.out).mono ?_); (case side1 => repeat (first | (with_reducible first | exact HI567.out | apply IsS67.alloc | apply IsS67.drewN | apply IsS67.drew | apply IsS67.set_1 | apply IsS67.set_2) | exact HI567.out)); (case side2 => repeat (first | (with_reducible first | exact HB.out | apply below_alloc | apply pw_below_drewN | apply below_drew1 | refine below_set ?_ (IsS67.ge HI567.out)) | exact HB.out)); rintro e w6 ⟨v569, rfl, ho0, hi, hb, hk⟩; refine ⟨_, rfl, ?_⟩; have n0_ := Aside0.mk (Kd.R_lower ho0 (below_size (by repeat (first | (with_reducible first | exact HB.out | apply below_alloc | apply pw_below_drewN | apply below_drew1 | refine below_set ?_ (IsS67.ge HI567.out)) | exact HB.out)))); have n1_ := Aside0.mk (hb); have n2_ := Aside0.mk (hi); clear HB; clear HI567; have HO570 := n0_; have HB := n1_; have HI567 := n2_; clear n0_ n1_ n2_; (try clear hb); (try clear hb2); (try clear hk); (try clear hi); (try clear ho0); obtain ⟨Ao7, co7, eo7⟩ := Kd.R_slice HO570.out; subst eo7; have q8 : (4 : Int) ≤ ((t568.length : Int) : Int) := of_decide_eq_true qz4; obtain ⟨i08, hi08, _, hsz8, _⟩ := info_parts info56; have hcut8 := cut_to (P := Try.prog) 24 56 .i64 Try.underlying24 hi08 Ao7 t568.length co7 4 (by omega) q8 (Kd.R_reads' HO570.out).2.1; have hr8 := Kd.R_take (m := (4 : Int).toNat) HO570.out (by omega); have hy8 : y573.length = (4 : Int).toNat := (by rw [Ny573.out, List.length_take]; omega); rw [← Ny573.out] at hr8; rw [← hy8] at hr8 hcut8; clear hy8 hi08 hsz8 HO570; have HO575 := Aside0.mk hr8; clear hr8; replace q8 := eq_true q8))
   go_ret
   exact ⟨_, by first | rfl | (simp [errW_none, errW_some] <;> rfl) | (simp [*, errW_none, errW_some] <;> rfl), by (with_reducible repeat (first | apply Kd.R_alloc | apply Kd.R_drewN | apply Kd.R_drew)); exact HO575.out, by repeat (first | (with_reducible first | exact HB.out | apply below_alloc | apply pw_below_drewN | apply below_drew1 | refine below_set ?_ (IsS67.ge HI567.out)) | exact HB.out)⟩
  ·
   rw [if_neg c4] at H
   exact absurd H (by simp)
 ·
  rw [if_neg c3] at H
  have c3b0 : decide (4 < (t568.length : Int)) = false := decide_eq_false c3
  have c3b1 : decide (4 < t568.length) = false := decide_eq_false (by omega)
  clear c3
  obtain rfl := Option.some.inj H
  go_enter Try.func42, Try.ntmps42
  go_wp2_with (first | ((with_reducible refine gate_dst (N := 7) rfl ?_); refine box_event ?hg (N := 7) ?hd (cs := #[.slice A0 l0.length c0, .int .i64 0, .int .u64 0]) (t := 67) ?hr ?_; (case hd => rfl); (case hg => rfl); (case hr => first | (go_simp; done) | (go_simp; rfl)); intro gb567 hg w9 hbox hb; have n0_ := Aside0.mk (below_step qz1 hb); have n1_ := Aside0.mk ((⟨_, _, hbox, by rw [hg]; exact (below_size qz1), HR0.out⟩ : IsS67 w w9 gb567 l0 0 0)); clear HB; have HB := n0_; have HI567 := n1_; clear n0_ n1_; clear hb hbox hg) | ((with_reducible refine gate_callee (f := 47) rfl ?_); refine goesL_ (some 9) rfl rfl Try.func47 qz10 rfl #[.pointer (some ⟨gb567, 0, none⟩)] rfl qz2 ?_; (with_reducible refine (spec_l1Cur_points.calls k gb567 l0 0 0 t568 t571 t572 w _ ?side1 ?side2 A2.out).mono ?_); (case side1 => repeat (first | (with_reducible first | exact HI567.out | apply IsS67.alloc | apply IsS67.drewN | apply IsS67.drew | apply IsS67.set_1 | apply IsS67.set_2) | exact HI567.out)); (case side2 => repeat (first | (with_reducible first | exact HB.out | apply below_alloc | apply pw_below_drewN | apply below_drew1 | refine below_set ?_ (IsS67.ge HI567.out)) | exact HB.out)); rintro e w10 ⟨v569, rfl, ho0, hi, hb, hk⟩; refine ⟨_, rfl, ?_⟩; have n0_ := Aside0.mk (Kd.R_lower ho0 (below_size (by repeat (first | (with_reducible first | exact HB.out | apply below_alloc | apply pw_below_drewN | apply below_drew1 | refine below_set ?_ (IsS67.ge HI567.out)) | exact HB.out)))); have n1_ := Aside0.mk (hb); have n2_ := Aside0.mk (hi); clear HB; clear HI567; have HO570 := n0_; have HB := n1_; have HI567 := n2_; clear n0_ n1_ n2_; (try clear hb); (try clear hb2); (try clear hk); (try clear hi); (try clear ho0); obtain ⟨Ao11, co11, eo11⟩ := Kd.R_slice HO570.out; subst eo11))
  go_ret
  exact ⟨_, by first | rfl | (simp [errW_none, errW_some] <;> rfl) | (simp [*, errW_none, errW_some] <;> rfl), by (with_reducible repeat (first | apply Kd.R_alloc | apply Kd.R_drewN | apply Kd.R_drew)); exact HO570.out, by repeat (first | (with_reducible first | exact HB.out | apply below_alloc | apply pw_below_drewN | apply below_drew1 | refine below_set ?_ (IsS67.ge HI567.out)) | exact HB.out)⟩
def spec_l11Same.l0 : Nat → List (S56) → List (S56) → Int → Option (Bool)
 | 0, _, _, _ => none
 | k + 1, x0, x1, x5 => if x5 ≤ 999 then ((spec_l11On.f k x0 x5).bind fun t576 => ((spec_l11On.f k x1 x5).bind fun t577 => (if t576 = t577 then (spec_l11Same.l0 k x0 x1 (wrap64 (x5 + 1))) else (some false)))) else (some true)
def spec_l11Same.f (k : Nat) (l0 : List (S56)) (l1 : List (S56)) : Option (Bool) := spec_l11Same.l0 k l0 l1 0
theorem spec_l11Same.mono_l : ∀ k, (∀ y0 y1 y2, LeO (spec_l11Same.l0 k y0 y1 y2) (spec_l11Same.l0 (k + 1) y0 y1 y2))
 | 0 => fun _ _ _ r h => by simp [spec_l11Same.l0] at h
 | k + 1 => by
  have ih0 := spec_l11Same.mono_l k
  ·
   intro y0 y1 y2
   unfold spec_l11Same.l0
   repeat' first
   | (with_reducible exact ih0 _ _ _)
   | (with_reducible exact spec_l11On.mono _ _ _)
   | (with_reducible exact LeO.refl _)
   | (with_reducible exact LeO.none _)
   | (with_reducible refine LeO.ite ?_ ?_)
   | (with_reducible refine LeO.bind ?_ (fun _ => ?_))
   | exact ih0 _ _ _
   | exact spec_l11On.mono _ _ _
   | exact LeO.none _
   | refine LeO.ite ?_ ?_
   | refine LeO.bind ?_ (fun _ => ?_)
theorem spec_l11Same.mono : ∀ a0 a1 k, LeO (spec_l11Same.f k a0 a1) (spec_l11Same.f (k + 1) a0 a1) := by
 intro a0 a1 k
 have ih0 := spec_l11Same.mono_l k
 unfold spec_l11Same.f
 repeat' first
   | (with_reducible exact ih0 _ _ _)
   | (with_reducible exact spec_l11On.mono _ _ _)
   | (with_reducible exact LeO.refl _)
   | (with_reducible exact LeO.none _)
   | (with_reducible refine LeO.ite ?_ ?_)
   | (with_reducible refine LeO.bind ?_ (fun _ => ?_))
   | exact ih0 _ _ _
   | exact spec_l11On.mono _ _ _
   | exact LeO.none _
   | refine LeO.ite ?_ ?_
   | refine LeO.bind ?_ (fun _ => ?_)
theorem spec_l11Same.calls (k : Nat) (A0 : Option Addr) (c0 : Nat) (l0 : List (S56)) (A1 : Option Addr) (c1 : Nat) (l1 : List (S56)) (r : Bool) (w : World) (hr0 : Kd.C k56 w A0 l0.length l0) (hc0 : l0.length ≤ c0) (hr1 : Kd.C k56 w A1 l1.length l1) (hc1 : l1.length ≤ c1) (h : spec_l11Same.f k l0 l1 = some r) :
  Calls Try.prog 84 #[.slice A0 l0.length c0, .slice A1 l1.length c1] w fun e w' => e = .returned (.bool r) ∧ Below w.heap.size w w' := by
 have HR0 := Aside0.mk hr0
 have HC0 := Aside0.mk hc0
 clear hr0 hc0
 have HR1 := Aside0.mk hr1
 have HC1 := Aside0.mk hc1
 clear hr1 hc1
 have HB := Aside0.mk (Below.refl w.heap.size w)
 have H : (spec_l11Same.l0 k l0 l1 0) = some r := h
 clear h
 have H' := Aside0.mk H
 clear H
 go_enter Try.func84, Try.ntmps84
 go_wp2
 go_loopg [5] k (fun kq v5 w' => ∃ (x5_1 : Int), v5 = .int .i64 x5_1 ∧ Aside0 (spec_l11Same.l0 kq l0 l1 x5_1 = some r) ∧ Aside0 (kq ≤ k) ∧ Aside0 (Below w.heap.size w w'))
 case atStart => exact ⟨(0), qz23, H', ⟨Nat.le_refl _⟩, ⟨by repeat (first | (with_reducible first | exact HB.out | apply below_alloc | apply pw_below_drewN | apply below_drew1) | exact HB.out)⟩⟩
 case round =>
  clear H'
  try clear c1
  try clear p2
  obtain ⟨x5_1, rfl, HA, HK1, HB⟩ := hrel
  cases gk with
  | zero => exact absurd HA.out (by simp [spec_l11Same.l0])
  | succ k1 =>
   have H := HA.out
   clear HA
   simp only [spec_l11Same.l0] at H
   by_cases c3 : x5_1 ≤ 999
   ·
    rw [if_pos c3] at H
    have c3b0 : decide (x5_1 ≤ 999) = true := decide_eq_true c3
    clear c3
    replace H := Option.bind_eq_some_iff.mp H
    obtain ⟨t576, A40, H⟩ := H
    replace H : ((spec_l11On.f k1 l1 x5_1).bind fun t577 => (if t576 = t577 then (spec_l11Same.l0 k1 l0 l1 (wrap64 (x5_1 + 1))) else (some false))) = some r := H
    have A4 := Aside0.mk A40
    clear A40
    replace H := Option.bind_eq_some_iff.mp H
    obtain ⟨t577, A50, H⟩ := H
    replace H : (if t576 = t577 then (spec_l11Same.l0 k1 l0 l1 (wrap64 (x5_1 + 1))) else (some false)) = some r := H
    have A5 := Aside0.mk A50
    clear A50
    by_cases c6 : t576 = t577
    ·
     rw [if_pos c6] at H
     have c6b0 : (t576 == t577) = true := beq_iff_eq.mpr c6
     have c6b1 : (t576 != t577) = false := bne_eq_false_iff_eq.mpr c6
     clear c6
     have H' := Aside0.mk H
     clear H
     go_wp2_with (first | ((with_reducible refine gate_callee (f := 57) rfl ?_); refine goesL_ (some 12) rfl rfl Try.func57 qz10 rfl #[.slice A0 l0.length c0, .int .i64 x5_1] rfl qz2 ?_; (with_reducible refine (spec_l11On.calls k1 _ _ l0 x5_1 t576 _ ?side1 ?side2 A4.out).mono ?_); (case side1 => repeat (first | exact (Kd.C_below HR0.out HB.out) | (with_reducible refine Kd.C_alloc ?_ _) | (with_reducible refine Kd.C_drewN ?_ _) | (with_reducible refine Kd.C_drew ?_))); (case side2 => exact HC0.out); rintro e w7 ⟨rfl, hb⟩; refine ⟨_, rfl, ?_⟩; have n0_ := Aside0.mk (below_step qz1 hb); clear HB; have HB := n0_; clear n0_; (try clear hb); (try clear hb2); (try clear hk); (try clear hi)) | ((with_reducible refine gate_callee (f := 57) rfl ?_); refine goesL_ (some 15) rfl rfl Try.func57 qz10 rfl #[.slice A1 l1.length c1, .int .i64 x5_1] rfl qz2 ?_; (with_reducible refine (spec_l11On.calls k1 _ _ l1 x5_1 t577 _ ?side1 ?side2 A5.out).mono ?_); (case side1 => repeat (first | exact (Kd.C_below HR1.out HB.out) | (with_reducible refine Kd.C_alloc ?_ _) | (with_reducible refine Kd.C_drewN ?_ _) | (with_reducible refine Kd.C_drew ?_))); (case side2 => exact HC1.out); rintro e w8 ⟨rfl, hb⟩; refine ⟨_, rfl, ?_⟩; have n0_ := Aside0.mk (below_step qz1 hb); clear HB; have HB := n0_; clear n0_; (try clear hb); (try clear hb2); (try clear hk); (try clear hi)))
     go_roundg k1
     case measure => have := HK1.out; omega
     case rel => exact ⟨(wrap64 (x5_1 + 1)), qz23, H', ⟨by have := HK1.out; omega⟩, ⟨by repeat (first | (with_reducible first | exact HB.out | apply below_alloc | apply pw_below_drewN | apply below_drew1) | exact HB.out)⟩⟩
    ·
     rw [if_neg c6] at H
     have c6b0 : (t576 == t577) = false := beq_eq_false_iff_ne.mpr c6
     have c6b1 : (t576 != t577) = true := bne_iff_ne.mpr c6
     obtain rfl := Option.some.inj H
     go_wp2_with (first | ((with_reducible refine gate_callee (f := 57) rfl ?_); refine goesL_ (some 12) rfl rfl Try.func57 qz10 rfl #[.slice A0 l0.length c0, .int .i64 x5_1] rfl qz2 ?_; (with_reducible refine (spec_l11On.calls k1 _ _ l0 x5_1 t576 _ ?side1 ?side2 A4.out).mono ?_); (case side1 => repeat (first | exact (Kd.C_below HR0.out HB.out) | (with_reducible refine Kd.C_alloc ?_ _) | (with_reducible refine Kd.C_drewN ?_ _) | (with_reducible refine Kd.C_drew ?_))); (case side2 => exact HC0.out); rintro e w9 ⟨rfl, hb⟩; refine ⟨_, rfl, ?_⟩; have n0_ := Aside0.mk (below_step qz1 hb); clear HB; have HB := n0_; clear n0_; (try clear hb); (try clear hb2); (try clear hk); (try clear hi)) | ((with_reducible refine gate_callee (f := 57) rfl ?_); refine goesL_ (some 15) rfl rfl Try.func57 qz10 rfl #[.slice A1 l1.length c1, .int .i64 x5_1] rfl qz2 ?_; (with_reducible refine (spec_l11On.calls k1 _ _ l1 x5_1 t577 _ ?side1 ?side2 A5.out).mono ?_); (case side1 => repeat (first | exact (Kd.C_below HR1.out HB.out) | (with_reducible refine Kd.C_alloc ?_ _) | (with_reducible refine Kd.C_drewN ?_ _) | (with_reducible refine Kd.C_drew ?_))); (case side2 => exact HC1.out); rintro e w10 ⟨rfl, hb⟩; refine ⟨_, rfl, ?_⟩; have n0_ := Aside0.mk (below_step qz1 hb); clear HB; have HB := n0_; clear n0_; (try clear hb); (try clear hb2); (try clear hk); (try clear hi)))
     go_ret
     exact ⟨by first | rfl | (simp [errW_none, errW_some] <;> rfl) | (simp [*, errW_none, errW_some] <;> rfl), by repeat (first | (with_reducible first | exact HB.out | apply below_alloc | apply pw_below_drewN | apply below_drew1) | exact HB.out)⟩
   ·
    rw [if_neg c3] at H
    have c3b0 : decide (x5_1 ≤ 999) = false := decide_eq_false c3
    clear c3
    obtain rfl := Option.some.inj H
    go_wp2
    go_ret
    exact ⟨by first | rfl | (simp [errW_none, errW_some] <;> rfl) | (simp [*, errW_none, errW_some] <;> rfl), by repeat (first | (with_reducible first | exact HB.out | apply below_alloc | apply pw_below_drewN | apply below_drew1) | exact HB.out)⟩
mutual
def spec_NeedlessPoints.l0 : Nat → List (S56) → List Int → Int → Option (List Int × Bool)
 | 0, _, _, _ => none
 | k + 1, x0, x4, x5 => if x5 < (x0.length : Int) then (spec_NeedlessPoints.j1 k x0 x4 x5 (decide ((x0.length : Int) > 1))) else (spec_NeedlessPoints.j1 k x0 x4 x5 false)
def spec_NeedlessPoints.j1 : Nat → List (S56) → List Int → Int → Bool → Option (List Int × Bool)
 | 0, _, _, _, _ => none
 | k + 1, x0, x4, x5, x20 => if x20 = true then ((some (([] : List (S56)) : List (S56))).bind fun y582 => (if 0 ≤ x5 then (if x5 ≤ (x0.length : Int) then ((some (x0.take (x5 : Int).toNat : List (S56))).bind fun y585 => (if y582.length + y585.length < 8796093022208 then ((some (y582 ++ y585 : List (S56))).bind fun y589 => (if 0 ≤ (wrap64 (x5 + 1)) then (if (wrap64 (x5 + 1)) ≤ (x0.length : Int) then ((some (x0.drop ((wrap64 (x5 + 1)) : Int).toNat : List (S56))).bind fun y592 => (if y589.length + y592.length < 8796093022208 then ((spec_l11Same.f k x0 (y589 ++ y592)).bind fun t599 => (if t599 = true then (if x4.length < 17592186044416 then (spec_NeedlessPoints.l0 k x0 (x4 ++ [x5]) (wrap64 (x5 + 1))) else (none)) else (spec_NeedlessPoints.l0 k x0 x4 (wrap64 (x5 + 1))))) else (none))) else (none)) else (none))) else (none))) else (none)) else (none))) else (some (x4, true))
end
def spec_NeedlessPoints.f (k : Nat) (l0 : List (S56)) : Option (List Int × Bool) := (some (([] : List Int) : List Int)).bind fun y578 => ((spec_l11Good.f k l0).bind fun t581 => (if t581 = true then (spec_NeedlessPoints.l0 k l0 y578 0) else (some (y578, false))))
theorem spec_NeedlessPoints.mono_l : ∀ k, (∀ y0 y1 y2, LeO (spec_NeedlessPoints.l0 k y0 y1 y2) (spec_NeedlessPoints.l0 (k + 1) y0 y1 y2)) ∧ (∀ y0 y1 y2 y3, LeO (spec_NeedlessPoints.j1 k y0 y1 y2 y3) (spec_NeedlessPoints.j1 (k + 1) y0 y1 y2 y3))
 | 0 => ⟨fun _ _ _ r h => by simp [spec_NeedlessPoints.l0] at h, fun _ _ _ _ r h => by simp [spec_NeedlessPoints.j1] at h⟩
 | k + 1 => by
  obtain ⟨ih0, ih1⟩ := spec_NeedlessPoints.mono_l k
  refine ⟨?_, ?_⟩
  ·
   intro y0 y1 y2
   unfold spec_NeedlessPoints.l0
   repeat' first
   | (with_reducible exact ih0 _ _ _)
   | (with_reducible exact ih1 _ _ _ _)
   | (with_reducible exact spec_l11Good.mono _ _)
   | (with_reducible exact spec_l11Same.mono _ _ _)
   | (with_reducible exact LeO.refl _)
   | (with_reducible exact LeO.none _)
   | (with_reducible refine LeO.ite ?_ ?_)
   | (with_reducible refine LeO.bind ?_ (fun _ => ?_))
   | exact ih0 _ _ _
   | exact ih1 _ _ _ _
   | exact spec_l11Good.mono _ _
   | exact spec_l11Same.mono _ _ _
   | exact LeO.none _
   | refine LeO.ite ?_ ?_
   | refine LeO.bind ?_ (fun _ => ?_)
  ·
   intro y0 y1 y2 y3
   unfold spec_NeedlessPoints.j1
   repeat' first
   | (with_reducible exact ih0 _ _ _)
   | (with_reducible exact ih1 _ _ _ _)
   | (with_reducible exact spec_l11Good.mono _ _)
   | (with_reducible exact spec_l11Same.mono _ _ _)
   | (with_reducible exact LeO.refl _)
   | (with_reducible exact LeO.none _)
   | (with_reducible refine LeO.ite ?_ ?_)
   | (with_reducible refine LeO.bind ?_ (fun _ => ?_))
   | exact ih0 _ _ _
   | exact ih1 _ _ _ _
   | exact spec_l11Good.mono _ _
   | exact spec_l11Same.mono _ _ _
   | exact LeO.none _
   | refine LeO.ite ?_ ?_
   | refine LeO.bind ?_ (fun _ => ?_)
theorem spec_NeedlessPoints.mono : ∀ a0 k, LeO (spec_NeedlessPoints.f k a0) (spec_NeedlessPoints.f (k + 1) a0) := by
 intro a0 k
 obtain ⟨ih0, ih1⟩ := spec_NeedlessPoints.mono_l k
 unfold spec_NeedlessPoints.f
 repeat' first
   | (with_reducible exact ih0 _ _ _)
   | (with_reducible exact ih1 _ _ _ _)
   | (with_reducible exact spec_l11Good.mono _ _)
   | (with_reducible exact spec_l11Same.mono _ _ _)
   | (with_reducible exact LeO.refl _)
   | (with_reducible exact LeO.none _)
   | (with_reducible refine LeO.ite ?_ ?_)
   | (with_reducible refine LeO.bind ?_ (fun _ => ?_))
   | exact ih0 _ _ _
   | exact ih1 _ _ _ _
   | exact spec_l11Good.mono _ _
   | exact spec_l11Same.mono _ _ _
   | exact LeO.none _
   | refine LeO.ite ?_ ?_
   | refine LeO.bind ?_ (fun _ => ?_)
def spec_NeedlessPoints.T7 : Bool × List (List Nat × List Nat) := (true, [([], []), ([], []), ([], []), ([1, 2], [1, 2]), ([0, 3], [0, 3]), ([], []), ([], []), ([6], [6]), ([5, 7], [5, 7]), ([4, 8, 4], [4, 8]), ([9, 9, 0, 1, 2, 3, 4, 5, 6, 7, 8, 9], [9])])
def spec_NeedlessPoints.B7 : List Nat := [0, 0, 0, 6, 15, 0, 0, 64, 224, 511, 1023]
theorem spec_NeedlessPoints.tab7 : rtab .any (opsOf Try.f44 7) = spec_NeedlessPoints.T7 := by kernel_rfl
theorem spec_NeedlessPoints.bits7 : waitsOk spec_NeedlessPoints.T7.2 spec_NeedlessPoints.B7 = true := by kernel_rfl
theorem spec_NeedlessPoints.calls (k : Nat) (A0 : Option Addr) (c0 : Nat) (l0 : List (S56)) (r1 : List Int) (r2 : Bool) (w : World) (hr0 : Kd.C k56 w A0 l0.length l0) (hc0 : l0.length ≤ c0) (h : spec_NeedlessPoints.f k l0 = some (r1, r2)) :
  Calls Try.prog 44 #[.slice A0 l0.length c0] w fun e w' => ∃ v0_ : Value, e = .returned (.tuple #[v0_, .bool r2]) ∧ Kd.R (Kd.int .i64) 3 w' w.heap.size (fun _ => True) v0_ r1 ∧ Below w.heap.size w w' := by
 have HR0 := Aside0.mk hr0
 have HC0 := Aside0.mk hc0
 clear hr0 hc0
 have HB := Aside0.mk (Below.refl w.heap.size w)
 have H : ((some (([] : List Int) : List Int)).bind fun y578 => ((spec_l11Good.f k l0).bind fun t581 => (if t581 = true then (spec_NeedlessPoints.l0 k l0 y578 0) else (some (y578, false))))) = some (r1, r2) := h
 clear h
 obtain ⟨y578, hy578⟩ : ∃ y_ : List Int, y_ = (([] : List Int)) := ⟨_, rfl⟩
 replace H : ((spec_l11Good.f k l0).bind fun t581 => (if t581 = true then (spec_NeedlessPoints.l0 k l0 y578 0) else (some (y578, false)))) = some (r1, r2) := by first | (rw [hy578]; with_reducible exact H) | (have H2_ := (Option.bind_some _ _).symm.trans H; rw [hy578]; with_reducible exact H2_) | (have H2_ := (Option.bind_some _ _).symm.trans H; with_reducible exact H2_) | with_reducible exact H | (rw [hy578]; exact H) | exact H
 have Ny578 := Aside0.mk hy578
 clear hy578
 replace H := Option.bind_eq_some_iff.mp H
 obtain ⟨t581, A20, H⟩ := H
 replace H : (if t581 = true then (spec_NeedlessPoints.l0 k l0 y578 0) else (some (y578, false))) = some (r1, r2) := H
 have A2 := Aside0.mk A20
 clear A20
 by_cases c3 : t581 = true
 ·
  subst c3
  have H1 : (spec_NeedlessPoints.l0 k l0 y578 0) = some (r1, r2) := by rw [if_pos rfl] at H; exact H
  clear H
  have H := H1
  clear H1
  have H' := Aside0.mk H
  clear H
  go_enter Try.func44, Try.ntmps44
  go_wp2_with (first | ((with_reducible refine gate_dst (N := 7) rfl ?_); (try (refine gate_guard (by rfl) ?_; dsimp only)); refine Kd.R_lit (Kd.int .i64) _ 3 ?hg (N := 7) ?hd (xs := ([] : List Int)) (inner := []) (ok := fun _ => True) (okp := fun _ => True) ?hr ?hp (fun _ hk => hk) trivial (Below.refl _ _) (Nat.le_refl _) (by simp) ?_; (case hd => rfl); (case hg => rfl); (case hr => first | (go_simp; done) | (go_simp; rfl)); (case hp => exact (Reps.none _ _)); intro v579 w4 ho5 hb hg_ hnew_; clear hg_ hnew_; (first | rw [← Ny578.out] at ho5 | (simp only [Int.reduceToNat] at ho5; rw [← Ny578.out] at ho5)); have n0_ := Aside0.mk (Kd.R_lower ho5 (below_size qz1)); have n1_ := Aside0.mk (below_step qz1 hb); clear HB; have HO580 := n0_; have HB := n1_; clear n0_ n1_; clear hb ho5) | ((with_reducible refine gate_callee (f := 54) rfl ?_); refine goesL_ (some 9) rfl rfl Try.func54 qz10 rfl #[.slice A0 l0.length c0] rfl qz2 ?_; (with_reducible refine (spec_l11Good.calls k _ _ l0 true _ ?side1 ?side2 A2.out).mono ?_); (case side1 => repeat (first | exact (Kd.C_below HR0.out HB.out) | (with_reducible refine Kd.C_alloc ?_ _) | (with_reducible refine Kd.C_drewN ?_ _) | (with_reducible refine Kd.C_drew ?_))); (case side2 => exact HC0.out); rintro e w6 ⟨rfl, hb⟩; refine ⟨_, rfl, ?_⟩; have n0_ := Aside0.mk (Kd.R_below (by (with_reducible repeat (first | apply Kd.R_alloc | apply Kd.R_drewN | apply Kd.R_drew)); exact HO580.out) hb); have n1_ := Aside0.mk (below_step qz1 hb); clear HO580; clear HB; have HO580 := n0_; have HB := n1_; clear n0_ n1_; (try clear hb); (try clear hb2); (try clear hk); (try clear hi)))
  go_loopg [4, 5] k (fun kq v4 v5 w' => ∃ (x4_1 : List Int) (x5_1 : Int), v5 = .int .i64 x5_1 ∧ Aside0 (spec_NeedlessPoints.l0 kq l0 x4_1 x5_1 = some (r1, r2)) ∧ Aside0 (kq ≤ k) ∧ Aside0 (Kd.R (Kd.int .i64) 3 w' w.heap.size (fun _ => True) v4 x4_1) ∧ Aside0 (Below w.heap.size w w'))
  case atStart => exact ⟨(y578), (0), qz23, H', ⟨Nat.le_refl _⟩, ⟨by (with_reducible repeat (first | apply Kd.R_alloc | apply Kd.R_drewN | apply Kd.R_drew)); exact HO580.out⟩, ⟨by repeat (first | (with_reducible first | exact HB.out | apply below_alloc | apply pw_below_drewN | apply below_drew1) | exact HB.out)⟩⟩
  case round =>
   clear H'
   try clear p2
   try clear c3
   try clear c4
   try clear c5
   obtain ⟨x4_1, x5_1, rfl, HA, HK1, HO_4, HB⟩ := hrel
   cases gk with
   | zero => exact absurd HA.out (by simp [spec_NeedlessPoints.l0])
   | succ k1 =>
    have H := HA.out
    clear HA
    simp only [spec_NeedlessPoints.l0] at H
    have HC7 := Aside0.mk H
    clear H
    go_upto_region 5 with (fail)
    go_cut [20] (fun v20 wc => ∃ (kq : Nat) (x20_6 : Bool), v20 = .bool x20_6 ∧ Aside0 (spec_NeedlessPoints.j1 kq l0 x4_1 x5_1 x20_6 = some (r1, r2)) ∧ Aside0 (kq ≤ k1) ∧ Aside0 (Kd.R (Kd.int .i64) 3 wc w.heap.size (fun _ => True) u4 x4_1) ∧ Aside0 (Below w.heap.size w wc))
    case first =>
     have H := HC7.out
     clear HC7
     by_cases c8 : x5_1 < (l0.length : Int)
     ·
      rw [if_pos c8] at H
      have c8b0 : decide (x5_1 < (l0.length : Int)) = true := decide_eq_true c8
      clear c8
      (first | rw [c8b0] | (simp only [i64_w, i32_w]; rw [c8b0]) | skip)
      have H' := Aside0.mk H
      clear H
      go_wp2
      go_meet
      case rel => exact ⟨_, (decide ((l0.length : Int) > 1)), qz23, H', ⟨by have := HK1.out; first | omega | exact Nat.le_refl _⟩, ⟨by (with_reducible repeat (first | apply Kd.R_alloc | apply Kd.R_drewN | apply Kd.R_drew)); exact HO_4.out⟩, ⟨by repeat (first | (with_reducible first | exact HB.out | apply below_alloc | apply pw_below_drewN | apply below_drew1) | exact HB.out)⟩⟩
     ·
      rw [if_neg c8] at H
      have c8b0 : decide (x5_1 < (l0.length : Int)) = false := decide_eq_false c8
      clear c8
      (first | rw [c8b0] | (simp only [i64_w, i32_w]; rw [c8b0]) | skip)
      have H' := Aside0.mk H
      clear H
      go_wp2
      go_meet
      case rel => exact ⟨_, (false), qz23, H', ⟨by have := HK1.out; first | omega | exact Nat.le_refl _⟩, ⟨by (with_reducible repeat (first | apply Kd.R_alloc | apply Kd.R_drewN | apply Kd.R_drew)); exact HO_4.out⟩, ⟨by repeat (first | (with_reducible first | exact HB.out | apply below_alloc | apply pw_below_drewN | apply below_drew1) | exact HB.out)⟩⟩
    case rest =>
     clear HC7
     try clear p2
     try clear c3
     try clear c4
     try clear c5
     try clear c8
     try clear c8b0
     try clear p2
     obtain ⟨kq, x20_6, rfl, HA, HJ6, HO_4, HB⟩ := hcut
     cases kq with
     | zero => exact absurd HA.out (by simp [spec_NeedlessPoints.j1])
     | succ kj6 =>
      have H := HA.out
      clear HA
      simp only [spec_NeedlessPoints.j1] at H
      by_cases c9 : x20_6 = true
      ·
       subst c9
       have H1 : ((some (([] : List (S56)) : List (S56))).bind fun y582 => (if 0 ≤ x5_1 then (if x5_1 ≤ (l0.length : Int) then ((some (l0.take (x5_1 : Int).toNat : List (S56))).bind fun y585 => (if y582.length + y585.length < 8796093022208 then ((some (y582 ++ y585 : List (S56))).bind fun y589 => (if 0 ≤ (wrap64 (x5_1 + 1)) then (if (wrap64 (x5_1 + 1)) ≤ (l0.length : Int) then ((some (l0.drop ((wrap64 (x5_1 + 1)) : Int).toNat : List (S56))).bind fun y592 => (if y589.length + y592.length < 8796093022208 then ((spec_l11Same.f kj6 l0 (y589 ++ y592)).bind fun t599 => (if t599 = true then (if x4_1.length < 17592186044416 then (spec_NeedlessPoints.l0 kj6 l0 (x4_1 ++ [x5_1]) (wrap64 (x5_1 + 1))) else (none)) else (spec_NeedlessPoints.l0 kj6 l0 x4_1 (wrap64 (x5_1 + 1))))) else (none))) else (none)) else (none))) else (none))) else (none)) else (none))) = some (r1, r2) := by rw [if_pos rfl] at H; exact H
       clear H
       have H := H1
       clear H1
       obtain ⟨y582, hy582⟩ : ∃ y_ : List (S56), y_ = (([] : List (S56))) := ⟨_, rfl⟩
       replace H : (if 0 ≤ x5_1 then (if x5_1 ≤ (l0.length : Int) then ((some (l0.take (x5_1 : Int).toNat : List (S56))).bind fun y585 => (if y582.length + y585.length < 8796093022208 then ((some (y582 ++ y585 : List (S56))).bind fun y589 => (if 0 ≤ (wrap64 (x5_1 + 1)) then (if (wrap64 (x5_1 + 1)) ≤ (l0.length : Int) then ((some (l0.drop ((wrap64 (x5_1 + 1)) : Int).toNat : List (S56))).bind fun y592 => (if y589.length + y592.length < 8796093022208 then ((spec_l11Same.f kj6 l0 (y589 ++ y592)).bind fun t599 => (if t599 = true then (if x4_1.length < 17592186044416 then (spec_NeedlessPoints.l0 kj6 l0 (x4_1 ++ [x5_1]) (wrap64 (x5_1 + 1))) else (none)) else (spec_NeedlessPoints.l0 kj6 l0 x4_1 (wrap64 (x5_1 + 1))))) else (none))) else (none)) else (none))) else (none))) else (none)) else (none)) = some (r1, r2) := by first | (rw [hy582]; with_reducible exact H) | (have H2_ := (Option.bind_some _ _).symm.trans H; rw [hy582]; with_reducible exact H2_) | (have H2_ := (Option.bind_some _ _).symm.trans H; with_reducible exact H2_) | with_reducible exact H | (rw [hy582]; exact H) | exact H
       have Ny582 := Aside0.mk hy582
       clear hy582
       by_cases c10 : 0 ≤ x5_1
       ·
        rw [if_pos c10] at H
        have c10b0 := eq_true c10
        have c10b1 : decide (0 ≤ x5_1) = true := decide_eq_true c10
        clear c10
        by_cases c11 : x5_1 ≤ (l0.length : Int)
        ·
         rw [if_pos c11] at H
         have c11b0 := eq_true c11
         have c11b1 : decide (x5_1 ≤ (l0.length : Int)) = true := decide_eq_true c11
         clear c11
         obtain ⟨y585, hy585⟩ : ∃ y_ : List (S56), y_ = (l0.take (x5_1 : Int).toNat) := ⟨_, rfl⟩
         replace H : (if y582.length + y585.length < 8796093022208 then ((some (y582 ++ y585 : List (S56))).bind fun y589 => (if 0 ≤ (wrap64 (x5_1 + 1)) then (if (wrap64 (x5_1 + 1)) ≤ (l0.length : Int) then ((some (l0.drop ((wrap64 (x5_1 + 1)) : Int).toNat : List (S56))).bind fun y592 => (if y589.length + y592.length < 8796093022208 then ((spec_l11Same.f kj6 l0 (y589 ++ y592)).bind fun t599 => (if t599 = true then (if x4_1.length < 17592186044416 then (spec_NeedlessPoints.l0 kj6 l0 (x4_1 ++ [x5_1]) (wrap64 (x5_1 + 1))) else (none)) else (spec_NeedlessPoints.l0 kj6 l0 x4_1 (wrap64 (x5_1 + 1))))) else (none))) else (none)) else (none))) else (none)) = some (r1, r2) := by first | (rw [hy585]; with_reducible exact H) | (have H2_ := (Option.bind_some _ _).symm.trans H; rw [hy585]; with_reducible exact H2_) | (have H2_ := (Option.bind_some _ _).symm.trans H; with_reducible exact H2_) | with_reducible exact H | (rw [hy585]; exact H) | exact H
         have Ny585 := Aside0.mk hy585
         clear hy585
         by_cases c12 : y582.length + y585.length < 8796093022208
         ·
          rw [if_pos c12] at H
          have LMc12 := Aside0.mk c12
          clear c12
          obtain ⟨y589, hy589⟩ : ∃ y_ : List (S56), y_ = (y582 ++ y585) := ⟨_, rfl⟩
          replace H : (if 0 ≤ (wrap64 (x5_1 + 1)) then (if (wrap64 (x5_1 + 1)) ≤ (l0.length : Int) then ((some (l0.drop ((wrap64 (x5_1 + 1)) : Int).toNat : List (S56))).bind fun y592 => (if y589.length + y592.length < 8796093022208 then ((spec_l11Same.f kj6 l0 (y589 ++ y592)).bind fun t599 => (if t599 = true then (if x4_1.length < 17592186044416 then (spec_NeedlessPoints.l0 kj6 l0 (x4_1 ++ [x5_1]) (wrap64 (x5_1 + 1))) else (none)) else (spec_NeedlessPoints.l0 kj6 l0 x4_1 (wrap64 (x5_1 + 1))))) else (none))) else (none)) else (none)) = some (r1, r2) := by first | (rw [hy589]; with_reducible exact H) | (have H2_ := (Option.bind_some _ _).symm.trans H; rw [hy589]; with_reducible exact H2_) | (have H2_ := (Option.bind_some _ _).symm.trans H; with_reducible exact H2_) | with_reducible exact H | (rw [hy589]; exact H) | exact H
          have Ny589 := Aside0.mk hy589
          clear hy589
          obtain ⟨ji13, hji13⟩ : ∃ j_ : Int, (wrap64 (x5_1 + 1)) = j_ := ⟨_, rfl⟩
          replace H : (if 0 ≤ (ji13) then (if (ji13) ≤ (l0.length : Int) then ((some (l0.drop ((ji13) : Int).toNat : List (S56))).bind fun y592 => (if y589.length + y592.length < 8796093022208 then ((spec_l11Same.f kj6 l0 (y589 ++ y592)).bind fun t599 => (if t599 = true then (if x4_1.length < 17592186044416 then (spec_NeedlessPoints.l0 kj6 l0 (x4_1 ++ [x5_1]) ji13) else (none)) else (spec_NeedlessPoints.l0 kj6 l0 x4_1 ji13))) else (none))) else (none)) else (none)) = some (r1, r2) := by first | (rw [hji13] at H; exact H) | (simp only [hji13] at H ⊢; exact H)
          have hji13w : (IntKind.i64.wrap (x5_1 + 1)) = ji13 := (i64_w _).trans hji13
          by_cases c14 : 0 ≤ (ji13)
          ·
           rw [if_pos c14] at H
           have c14b0 := eq_true c14
           have c14b1 : decide (0 ≤ (ji13)) = true := decide_eq_true c14
           clear c14
           by_cases c15 : (ji13) ≤ (l0.length : Int)
           ·
            rw [if_pos c15] at H
            have c15b0 := eq_true c15
            have c15b1 : decide ((ji13) ≤ (l0.length : Int)) = true := decide_eq_true c15
            clear c15
            obtain ⟨y592, hy592⟩ : ∃ y_ : List (S56), y_ = (l0.drop ((ji13) : Int).toNat) := ⟨_, rfl⟩
            replace H : (if y589.length + y592.length < 8796093022208 then ((spec_l11Same.f kj6 l0 (y589 ++ y592)).bind fun t599 => (if t599 = true then (if x4_1.length < 17592186044416 then (spec_NeedlessPoints.l0 kj6 l0 (x4_1 ++ [x5_1]) ji13) else (none)) else (spec_NeedlessPoints.l0 kj6 l0 x4_1 ji13))) else (none)) = some (r1, r2) := by first | (rw [hy592]; with_reducible exact H) | (have H2_ := (Option.bind_some _ _).symm.trans H; rw [hy592]; with_reducible exact H2_) | (have H2_ := (Option.bind_some _ _).symm.trans H; with_reducible exact H2_) | with_reducible exact H | (rw [hy592]; exact H) | exact H
            have Ny592 := Aside0.mk hy592
            clear hy592
            by_cases c16 : y589.length + y592.length < 8796093022208
            ·
             rw [if_pos c16] at H
             have LMc16 := Aside0.mk c16
             clear c16
             obtain ⟨y596, hy596⟩ : ∃ y_ : List (S56), y_ = (y589 ++ y592) := ⟨_, rfl⟩
             replace H : ((spec_l11Same.f kj6 l0 y596).bind fun t599 => (if t599 = true then (if x4_1.length < 17592186044416 then (spec_NeedlessPoints.l0 kj6 l0 (x4_1 ++ [x5_1]) ji13) else (none)) else (spec_NeedlessPoints.l0 kj6 l0 x4_1 ji13))) = some (r1, r2) := by first | (rw [hy596]; with_reducible exact H) | (have H2_ := (Option.bind_some _ _).symm.trans H; rw [hy596]; with_reducible exact H2_) | (have H2_ := (Option.bind_some _ _).symm.trans H; with_reducible exact H2_) | with_reducible exact H | (rw [hy596]; exact H) | exact H
             have Ny596 := Aside0.mk hy596
             clear hy596
             replace H := Option.bind_eq_some_iff.mp H
             obtain ⟨t599, A170, H⟩ := H
             replace H : (if t599 = true then (if x4_1.length < 17592186044416 then (spec_NeedlessPoints.l0 kj6 l0 (x4_1 ++ [x5_1]) ji13) else (none)) else (spec_NeedlessPoints.l0 kj6 l0 x4_1 ji13)) = some (r1, r2) := H
             have A17 := Aside0.mk A170
             clear A170
             by_cases c18 : t599 = true
             ·
              subst c18
              have H1 : (if x4_1.length < 17592186044416 then (spec_NeedlessPoints.l0 kj6 l0 (x4_1 ++ [x5_1]) ji13) else (none)) = some (r1, r2) := by rw [if_pos rfl] at H; exact H
              clear H
              have H := H1
              clear H1
              by_cases c19 : x4_1.length < 17592186044416
              ·
               rw [if_pos c19] at H
               have LMc19 := Aside0.mk c19
               clear c19
               obtain ⟨y600, hy600⟩ : ∃ y_ : List Int, y_ = (x4_1 ++ [x5_1]) := ⟨_, rfl⟩
               replace H : (spec_NeedlessPoints.l0 kj6 l0 y600 ji13) = some (r1, r2) := by first | (rw [hy600]; with_reducible exact H) | (have H2_ := (Option.bind_some _ _).symm.trans H; rw [hy600]; with_reducible exact H2_) | (have H2_ := (Option.bind_some _ _).symm.trans H; with_reducible exact H2_) | with_reducible exact H | (rw [hy600]; exact H) | exact H
               have Ny600 := Aside0.mk hy600
               clear hy600
               have H' := Aside0.mk H
               clear H
               try go_wp2
               have n0_ := Aside0.mk (Kd.R_drew HO_4.out)
               have n1_ := Aside0.mk (below_drew1 HB.out)
               clear HO_4
               clear HB
               have HO_4 := n0_
               have HB := n1_
               clear n0_ n1_
               have q21 : (x5_1 : Int) ≤ ((l0.length : Int) : Int) := of_decide_eq_true qz4
               obtain ⟨i021, hi021, _, hsz21, _⟩ := info_parts info56
               have hroom21 : l0.length ≤ c0 := HC0.out
               have hC21 : Kd.C k56 _ A0 l0.length l0 := HR0.out
               have hcut21 := cut_to (P := Try.prog) 24 56 .i64 Try.underlying24 hi021 A0 l0.length c0 x5_1 (of_decide_eq_true qz4) q21 hroom21
               have hr21 := Kd.C_take (m := (x5_1 : Int).toNat) hC21 (by omega)
               have hy21 : y585.length = (x5_1 : Int).toNat := (by rw [Ny585.out, List.length_take]; omega)
               rw [← Ny585.out] at hr21
               rw [← hy21] at hcut21
               have HR588 := Aside0.mk hr21
               have HC588 := Aside0.mk (show y585.length ≤ c0 from by omega)
               clear hr21 hC21 hroom21 hi021 hsz21
               have KY21 := Aside0.mk hy21
               clear hy21
               replace q21 := eq_true q21
               have q22 : ((ji13) : Int) ≤ ((l0.length : Int) : Int) := of_decide_eq_true qz4
               obtain ⟨i022, hi022, _, hsz22, _⟩ := info_parts info56
               have hroom22 : l0.length ≤ c0 := HC0.out
               have hC22 : Kd.C k56 _ A0 l0.length l0 := HR0.out
               have q022 : (0 : Int) ≤ ((ji13) : Int) := of_decide_eq_true qz4
               have hcut22 := cut_from (P := Try.prog) 24 56 .i64 Try.underlying24 hi022 2 hsz22 A0 l0.length c0 (ji13) q022 q22
               have hr22 := Kd.C_drop (m := ((ji13) : Int).toNat) (c := c0) hC22 (by omega) hroom22
               obtain ⟨A22, hA22⟩ : ∃ A1, A1 = (if c0 = ((ji13) : Int).toNat then A0 else (A0 : Option Addr).map (·.add (((ji13) : Int).toNat * 2))) := ⟨_, rfl⟩
               obtain ⟨c22, hc22⟩ : ∃ c1, c1 = c0 - ((ji13) : Int).toNat := ⟨_, rfl⟩
               have hy22 : y592.length = l0.length - ((ji13) : Int).toNat := (by rw [Ny592.out, List.length_drop] <;> omega)
               rw [show (l0).drop ((ji13) : Int).toNat = y592 from Ny592.out.symm] at hr22
               replace hr22 : Kd.C k56 _ A22 y592.length y592 := (by rw [hA22]; exact hr22)
               rw [← hy22, ← hA22, ← hc22] at hcut22
               have HR595 := Aside0.mk hr22
               have HC595 := Aside0.mk (show y592.length ≤ c22 from by rw [hy22, hc22]; exact Nat.sub_le_sub_right hroom22 _)
               clear hr22 hC22 hroom22 hi022 hsz22 hc22
               have KY22 := Aside0.mk hy22
               have KA22 := Aside0.mk hA22
               clear hy22 hA22
               replace q22 := eq_true q22
               refine start_ (n := 11) (S := fun w' => True) (ds := []) #[false, false, false, false, false, false, false, false, false, false, false] qz10 rfl rfl trivial (fun hHeld => ?_); refine with_tabW spec_NeedlessPoints.tab7 spec_NeedlessPoints.bits7 (fun HT_ HW_ => ?_)
               generalize wc.drew = w20 at HO_4 HB HR588 HR595 hHeld ⊢
               refine pZ 1 (some 24) (bz 11 2) ?_
               refine pZ 2 (some 25) (bz 11 6) ?_
               refine pZ 3 (some 26) (bz 11 14) ?_
               refine pZ 5 (some 28) (bz 11 46) ?_
               refine pZ 6 (some 29) (bz 11 110) ?_
               refine pZ 7 (some 30) (bz 11 238) ?_
               refine pZ 8 (some 31) (bz 11 494) ?_
               refine one_ (i := 0) (N := some 23) #[true, true, true, true, false, true, true, true, true, false, false] rfl rfl (one_of HT_.out qz10) (by decide) (fun K hK => ?_)
               refine Kd.R_lit_step k56 _ 56 ?hg (N := 23) ?hd (xs := ([] : List (S56))) (inner := []) (ok := fun _ => True) (okp := fun _ => True) ?hr ?hp (fun _ hk => hk) trivial (Below.refl _ _) (Nat.le_refl _) (by simp) ?_; (case hd => rfl); (case hg => rfl); (case hr => first | (go_simp; done) | (go_simp; rfl)); (case hp => exact (Reps.none _ _))
               intro v583 w23 ho24 hb hg_ hnew_
               clear hg_ hnew_
               (first | rw [← Ny582.out] at ho24 | (simp only [Int.reduceToNat] at ho24; rw [← Ny582.out] at ho24))
               have n0_ := Aside0.mk (Kd.R_below qz49 hb)
               have n1_ := Aside0.mk (Kd.R_lower ho24 (below_size qz1))
               have n2_ := Aside0.mk (below_step qz1 hb)
               clear HO_4
               clear HB
               have HO_4 := n0_
               have HO584 := n1_
               have HB := n2_
               clear n0_ n1_ n2_
               clear hb ho24
               refine hK.out _ _ trivial (fun hHeld => ?_)
               clear hK K
               refine norm_ (a' := ?_) ?_ ?_
               rotate_left
               ·
                show Act.put _ (some 23) _ = _
                simp only [Act.put, List.setIfInBounds_toArray, List.set_cons_zero, List.set_cons_succ, i64_w, i32_w]
                rfl
               refine one_ (i := 4) (N := some 27) #[true, true, true, true, true, true, true, true, true, false, false] rfl rfl (one_of HT_.out qz10) (by decide) (fun K hK => ?_)
               refine Kd.R_append_rows_step k56 (w0 := w) w.heap.size (by rfl) (.tmp 23) (.tmp 26) 24 56 (.agg #[(.int .i64 0), (.int .i64 0)]) 16 rfl Try.underlying24 info56 rfl (by decide) (by omega) v583 y582 y585 _ _ _ (fun _ => True) (fun _ => False) rfl rfl ?aO ?aR (fun _ _ h => h) (fun _ h => h.elim) ?aF ?aB ?aS ?aL ?_
               (case aR => repeat (first | exact (Kd.C_below HR588.out HB.out) | (with_reducible refine Kd.C_alloc ?_ _) | (with_reducible refine Kd.C_drewN ?_ _) | (with_reducible refine Kd.C_drew ?_)))
               (case aB => exact qz1)
               (case aF => exact (fun _ _ => trivial))
               (case aO => exact qz69)
               (case aS => exact (below_size qz1))
               (case aL => have := LMc12.out; omega)
               intro v590 w25 ho hb hg hat
               rw [← Ny589.out] at ho
               have n0_ := Aside0.mk (Kd.R_over' qz49 (Kd.R_typed qz69) (by decide) hg)
               have n1_ := Aside0.mk (hb)
               have n2_ := Aside0.mk (ho)
               clear HO_4
               clear HB
               clear HO584
               have HO_4 := n0_
               have HB := n1_
               have HO591 := n2_
               clear n0_ n1_ n2_
               clear ho hb hg hat
               refine hK.out _ _ trivial (fun hHeld => ?_)
               clear hK K
               refine norm_ (a' := ?_) ?_ ?_
               rotate_left
               ·
                show Act.put _ (some 27) _ = _
                simp only [Act.put, List.setIfInBounds_toArray, List.set_cons_zero, List.set_cons_succ, i64_w, i32_w]
                rfl
               refine one_ (i := 9) (N := some 32) #[true, true, true, true, true, true, true, true, true, true, false] rfl rfl (one_of HT_.out qz10) (by decide) (fun K hK => ?_)
               refine Kd.R_append_rows_step k56 (w0 := w) w.heap.size (by rfl) (.tmp 27) (.tmp 31) 24 56 (.agg #[(.int .i64 0), (.int .i64 0)]) 16 rfl Try.underlying24 info56 rfl (by decide) (by omega) v590 y589 y592 _ _ _ (fun _ => True) (fun _ => False) rfl rfl ?aO ?aR (fun _ _ h => h) (fun _ h => h.elim) ?aF ?aB ?aS ?aL ?_
               (case aR => repeat (first | exact (Kd.C_below HR595.out HB.out) | (with_reducible refine Kd.C_alloc ?_ _) | (with_reducible refine Kd.C_drewN ?_ _) | (with_reducible refine Kd.C_drew ?_)))
               (case aB => exact qz1)
               (case aF => exact (fun _ _ => trivial))
               (case aO => exact qz68)
               (case aS => exact (below_size qz1))
               (case aL => have := LMc16.out; omega)
               intro v597 w26 ho hb hg hat
               rw [← Ny596.out] at ho
               have n0_ := Aside0.mk (Kd.R_over' qz49 (Kd.R_typed qz68) (by decide) hg)
               have n1_ := Aside0.mk (hb)
               have n2_ := Aside0.mk (ho)
               clear HO_4
               clear HB
               clear HO591
               have HO_4 := n0_
               have HB := n1_
               have HO598 := n2_
               clear n0_ n1_ n2_
               clear ho hb hg hat
               refine hK.out _ _ trivial (fun hHeld => ?_)
               clear hK K
               refine norm_ (a' := ?_) ?_ ?_
               rotate_left
               ·
                show Act.put _ (some 32) _ = _
                simp only [Act.put, List.setIfInBounds_toArray, List.set_cons_zero, List.set_cons_succ, i64_w, i32_w]
                rfl
               refine pZ 10 (some 6) (bz 11 2047) ?_
               refine done_ (done_of HT_.out qz10) ?_
               obtain ⟨Ao27, co27, eo27⟩ := Kd.R_slice HO598.out
               subst eo27
               try go_wp2_with (first | ((with_reducible refine gate_callee (f := 84) rfl ?_); refine goesL_ (some 35) rfl rfl Try.func84 qz10 rfl #[.slice A0 l0.length c0, .slice Ao27 y596.length co27] rfl qz2 ?_; (with_reducible refine (spec_l11Same.calls kj6 _ _ l0 _ _ y596 true _ ?side1 ?side2 ?side3 ?side4 A17.out).mono ?_); (case side1 => repeat (first | exact (Kd.C_below HR0.out HB.out) | (with_reducible refine Kd.C_alloc ?_ _) | (with_reducible refine Kd.C_drewN ?_ _) | (with_reducible refine Kd.C_drew ?_))); (case side2 => exact HC0.out); (case side3 => repeat (first | exact (Kd.R_reads' HO598.out).2.2 | (with_reducible refine Kd.C_alloc ?_ _) | (with_reducible refine Kd.C_drewN ?_ _) | (with_reducible refine Kd.C_drew ?_))); (case side4 => exact (Kd.R_reads' HO598.out).2.1); rintro e w28 ⟨rfl, hb⟩; refine ⟨_, rfl, ?_⟩; have n0_ := Aside0.mk (Kd.R_below qz49 hb); have n1_ := Aside0.mk (Kd.R_below qz75 hb); have n2_ := Aside0.mk (below_step qz1 hb); clear HO_4; clear HO598; clear HB; have HO_4 := n0_; have HO598 := n1_; have HB := n2_; clear n0_ n1_ n2_; (try clear hb); (try clear hb2); (try clear hk); (try clear hi)) | ((with_reducible refine gate_builtin (b := .append) (xs := #[.tmp 36, .tmp 38]) rfl ?_); (try (refine gate_guard (by rfl) ?_; dsimp only)); at_builtin; refine Kd.R_append (Kd.int .i64) (w0 := w) w.heap.size rfl (.tmp 36) (.tmp 38) 32 3 (.int .i64 0) 8 rfl Try.underlying32 info3 rfl (by decide) (by omega) u4 x4_1 x5_1 [.int .i64 x5_1] (fun _ => True) (fun _ => False) rfl rfl ?aP (fun _ hk => hk.elim) ?aF ?aO ?aB ?aS ?aL ?_; (case aP => exact rfl); (case aB => exact qz1); (case aF => exact (fun _ _ => trivial)); (case aO => exact qz49); (case aS => exact (below_size qz1)); (case aL => have := LMc19.out; omega); intro v601 w29 ho hb hg hat; rw [← Ny600.out] at ho; have n0_ := Aside0.mk (Kd.R_over' qz75 (Kd.R_typed qz49) (by decide) hg); have n1_ := Aside0.mk (hb); have n2_ := Aside0.mk (ho); clear HO598; clear HB; clear HO_4; have HO598 := n0_; have HB := n1_; have HO602 := n2_; clear n0_ n1_ n2_; clear ho hb hg hat))
               go_roundg kj6
               case measure => have := HK1.out; have := HJ6.out; omega
               case rel => exact ⟨(y600), (ji13), (by first | rfl | (simp; done) | (simp only [← hji13] <;> (first | rfl | simp)) | (simp [*]; done)), H', ⟨by have := HK1.out; have := HJ6.out; omega⟩, ⟨by (with_reducible repeat (first | apply Kd.R_alloc | apply Kd.R_drewN | apply Kd.R_drew)); exact HO602.out⟩, ⟨by repeat (first | (with_reducible first | exact HB.out | apply below_alloc | apply pw_below_drewN | apply below_drew1) | exact HB.out)⟩⟩
              ·
               rw [if_neg c19] at H
               exact absurd H (by simp)
             ·
              replace c18 := Bool.eq_false_iff.mpr c18
              subst c18
              have H1 : (spec_NeedlessPoints.l0 kj6 l0 x4_1 ji13) = some (r1, r2) := by rw [if_neg (show ¬ (false = true) by decide)] at H; exact H
              clear H
              have H := H1
              clear H1
              have H' := Aside0.mk H
              clear H
              try go_wp2
              have n0_ := Aside0.mk (Kd.R_drew HO_4.out)
              have n1_ := Aside0.mk (below_drew1 HB.out)
              clear HO_4
              clear HB
              have HO_4 := n0_
              have HB := n1_
              clear n0_ n1_
              have q31 : (x5_1 : Int) ≤ ((l0.length : Int) : Int) := of_decide_eq_true qz4
              obtain ⟨i031, hi031, _, hsz31, _⟩ := info_parts info56
              have hroom31 : l0.length ≤ c0 := HC0.out
              have hC31 : Kd.C k56 _ A0 l0.length l0 := HR0.out
              have hcut31 := cut_to (P := Try.prog) 24 56 .i64 Try.underlying24 hi031 A0 l0.length c0 x5_1 (of_decide_eq_true qz4) q31 hroom31
              have hr31 := Kd.C_take (m := (x5_1 : Int).toNat) hC31 (by omega)
              have hy31 : y585.length = (x5_1 : Int).toNat := (by rw [Ny585.out, List.length_take]; omega)
              rw [← Ny585.out] at hr31
              rw [← hy31] at hcut31
              have HR588 := Aside0.mk hr31
              have HC588 := Aside0.mk (show y585.length ≤ c0 from by omega)
              clear hr31 hC31 hroom31 hi031 hsz31
              have KY31 := Aside0.mk hy31
              clear hy31
              replace q31 := eq_true q31
              have q32 : ((ji13) : Int) ≤ ((l0.length : Int) : Int) := of_decide_eq_true qz4
              obtain ⟨i032, hi032, _, hsz32, _⟩ := info_parts info56
              have hroom32 : l0.length ≤ c0 := HC0.out
              have hC32 : Kd.C k56 _ A0 l0.length l0 := HR0.out
              have q032 : (0 : Int) ≤ ((ji13) : Int) := of_decide_eq_true qz4
              have hcut32 := cut_from (P := Try.prog) 24 56 .i64 Try.underlying24 hi032 2 hsz32 A0 l0.length c0 (ji13) q032 q32
              have hr32 := Kd.C_drop (m := ((ji13) : Int).toNat) (c := c0) hC32 (by omega) hroom32
              obtain ⟨A32, hA32⟩ : ∃ A1, A1 = (if c0 = ((ji13) : Int).toNat then A0 else (A0 : Option Addr).map (·.add (((ji13) : Int).toNat * 2))) := ⟨_, rfl⟩
              obtain ⟨c32, hc32⟩ : ∃ c1, c1 = c0 - ((ji13) : Int).toNat := ⟨_, rfl⟩
              have hy32 : y592.length = l0.length - ((ji13) : Int).toNat := (by rw [Ny592.out, List.length_drop] <;> omega)
              rw [show (l0).drop ((ji13) : Int).toNat = y592 from Ny592.out.symm] at hr32
              replace hr32 : Kd.C k56 _ A32 y592.length y592 := (by rw [hA32]; exact hr32)
              rw [← hy32, ← hA32, ← hc32] at hcut32
              have HR595 := Aside0.mk hr32
              have HC595 := Aside0.mk (show y592.length ≤ c32 from by rw [hy32, hc32]; exact Nat.sub_le_sub_right hroom32 _)
              clear hr32 hC32 hroom32 hi032 hsz32 hc32
              have KY32 := Aside0.mk hy32
              have KA32 := Aside0.mk hA32
              clear hy32 hA32
              replace q32 := eq_true q32
              refine start_ (n := 11) (S := fun w' => True) (ds := []) #[false, false, false, false, false, false, false, false, false, false, false] qz10 rfl rfl trivial (fun hHeld => ?_); refine with_tabW spec_NeedlessPoints.tab7 spec_NeedlessPoints.bits7 (fun HT_ HW_ => ?_)
              generalize wc.drew = w30 at HO_4 HB HR588 HR595 hHeld ⊢
              refine pZ 1 (some 24) (bz 11 2) ?_
              refine pZ 2 (some 25) (bz 11 6) ?_
              refine pZ 3 (some 26) (bz 11 14) ?_
              refine pZ 5 (some 28) (bz 11 46) ?_
              refine pZ 6 (some 29) (bz 11 110) ?_
              refine pZ 7 (some 30) (bz 11 238) ?_
              refine pZ 8 (some 31) (bz 11 494) ?_
              refine one_ (i := 0) (N := some 23) #[true, true, true, true, false, true, true, true, true, false, false] rfl rfl (one_of HT_.out qz10) (by decide) (fun K hK => ?_)
              refine Kd.R_lit_step k56 _ 56 ?hg (N := 23) ?hd (xs := ([] : List (S56))) (inner := []) (ok := fun _ => True) (okp := fun _ => True) ?hr ?hp (fun _ hk => hk) trivial (Below.refl _ _) (Nat.le_refl _) (by simp) ?_; (case hd => rfl); (case hg => rfl); (case hr => first | (go_simp; done) | (go_simp; rfl)); (case hp => exact (Reps.none _ _))
              intro v583 w33 ho34 hb hg_ hnew_
              clear hg_ hnew_
              (first | rw [← Ny582.out] at ho34 | (simp only [Int.reduceToNat] at ho34; rw [← Ny582.out] at ho34))
              have n0_ := Aside0.mk (Kd.R_below qz49 hb)
              have n1_ := Aside0.mk (Kd.R_lower ho34 (below_size qz1))
              have n2_ := Aside0.mk (below_step qz1 hb)
              clear HO_4
              clear HB
              have HO_4 := n0_
              have HO584 := n1_
              have HB := n2_
              clear n0_ n1_ n2_
              clear hb ho34
              refine hK.out _ _ trivial (fun hHeld => ?_)
              clear hK K
              refine norm_ (a' := ?_) ?_ ?_
              rotate_left
              ·
               show Act.put _ (some 23) _ = _
               simp only [Act.put, List.setIfInBounds_toArray, List.set_cons_zero, List.set_cons_succ, i64_w, i32_w]
               rfl
              refine one_ (i := 4) (N := some 27) #[true, true, true, true, true, true, true, true, true, false, false] rfl rfl (one_of HT_.out qz10) (by decide) (fun K hK => ?_)
              refine Kd.R_append_rows_step k56 (w0 := w) w.heap.size (by rfl) (.tmp 23) (.tmp 26) 24 56 (.agg #[(.int .i64 0), (.int .i64 0)]) 16 rfl Try.underlying24 info56 rfl (by decide) (by omega) v583 y582 y585 _ _ _ (fun _ => True) (fun _ => False) rfl rfl ?aO ?aR (fun _ _ h => h) (fun _ h => h.elim) ?aF ?aB ?aS ?aL ?_
              (case aR => repeat (first | exact (Kd.C_below HR588.out HB.out) | (with_reducible refine Kd.C_alloc ?_ _) | (with_reducible refine Kd.C_drewN ?_ _) | (with_reducible refine Kd.C_drew ?_)))
              (case aB => exact qz1)
              (case aF => exact (fun _ _ => trivial))
              (case aO => exact qz69)
              (case aS => exact (below_size qz1))
              (case aL => have := LMc12.out; omega)
              intro v590 w35 ho hb hg hat
              rw [← Ny589.out] at ho
              have n0_ := Aside0.mk (Kd.R_over' qz49 (Kd.R_typed qz69) (by decide) hg)
              have n1_ := Aside0.mk (hb)
              have n2_ := Aside0.mk (ho)
              clear HO_4
              clear HB
              clear HO584
              have HO_4 := n0_
              have HB := n1_
              have HO591 := n2_
              clear n0_ n1_ n2_
              clear ho hb hg hat
              refine hK.out _ _ trivial (fun hHeld => ?_)
              clear hK K
              refine norm_ (a' := ?_) ?_ ?_
              rotate_left
              ·
               show Act.put _ (some 27) _ = _
               simp only [Act.put, List.setIfInBounds_toArray, List.set_cons_zero, List.set_cons_succ, i64_w, i32_w]
               rfl
              refine one_ (i := 9) (N := some 32) #[true, true, true, true, true, true, true, true, true, true, false] rfl rfl (one_of HT_.out qz10) (by decide) (fun K hK => ?_)
              refine Kd.R_append_rows_step k56 (w0 := w) w.heap.size (by rfl) (.tmp 27) (.tmp 31) 24 56 (.agg #[(.int .i64 0), (.int .i64 0)]) 16 rfl Try.underlying24 info56 rfl (by decide) (by omega) v590 y589 y592 _ _ _ (fun _ => True) (fun _ => False) rfl rfl ?aO ?aR (fun _ _ h => h) (fun _ h => h.elim) ?aF ?aB ?aS ?aL ?_
              (case aR => repeat (first | exact (Kd.C_below HR595.out HB.out) | (with_reducible refine Kd.C_alloc ?_ _) | (with_reducible refine Kd.C_drewN ?_ _) | (with_reducible refine Kd.C_drew ?_)))
              (case aB => exact qz1)
              (case aF => exact (fun _ _ => trivial))
              (case aO => exact qz68)
              (case aS => exact (below_size qz1))
              (case aL => have := LMc16.out; omega)
              intro v597 w36 ho hb hg hat
              rw [← Ny596.out] at ho
              have n0_ := Aside0.mk (Kd.R_over' qz49 (Kd.R_typed qz68) (by decide) hg)
              have n1_ := Aside0.mk (hb)
              have n2_ := Aside0.mk (ho)
              clear HO_4
              clear HB
              clear HO591
              have HO_4 := n0_
              have HB := n1_
              have HO598 := n2_
              clear n0_ n1_ n2_
              clear ho hb hg hat
              refine hK.out _ _ trivial (fun hHeld => ?_)
              clear hK K
              refine norm_ (a' := ?_) ?_ ?_
              rotate_left
              ·
               show Act.put _ (some 32) _ = _
               simp only [Act.put, List.setIfInBounds_toArray, List.set_cons_zero, List.set_cons_succ, i64_w, i32_w]
               rfl
              refine pZ 10 (some 6) (bz 11 2047) ?_
              refine done_ (done_of HT_.out qz10) ?_
              obtain ⟨Ao37, co37, eo37⟩ := Kd.R_slice HO598.out
              subst eo37
              try go_wp2_with (first | ((with_reducible refine gate_callee (f := 84) rfl ?_); refine goesL_ (some 35) rfl rfl Try.func84 qz10 rfl #[.slice A0 l0.length c0, .slice Ao37 y596.length co37] rfl qz2 ?_; (with_reducible refine (spec_l11Same.calls kj6 _ _ l0 _ _ y596 false _ ?side1 ?side2 ?side3 ?side4 A17.out).mono ?_); (case side1 => repeat (first | exact (Kd.C_below HR0.out HB.out) | (with_reducible refine Kd.C_alloc ?_ _) | (with_reducible refine Kd.C_drewN ?_ _) | (with_reducible refine Kd.C_drew ?_))); (case side2 => exact HC0.out); (case side3 => repeat (first | exact (Kd.R_reads' HO598.out).2.2 | (with_reducible refine Kd.C_alloc ?_ _) | (with_reducible refine Kd.C_drewN ?_ _) | (with_reducible refine Kd.C_drew ?_))); (case side4 => exact (Kd.R_reads' HO598.out).2.1); rintro e w38 ⟨rfl, hb⟩; refine ⟨_, rfl, ?_⟩; have n0_ := Aside0.mk (Kd.R_below qz49 hb); have n1_ := Aside0.mk (Kd.R_below qz75 hb); have n2_ := Aside0.mk (below_step qz1 hb); clear HO_4; clear HO598; clear HB; have HO_4 := n0_; have HO598 := n1_; have HB := n2_; clear n0_ n1_ n2_; (try clear hb); (try clear hb2); (try clear hk); (try clear hi)))
              go_roundg kj6
              case measure => have := HK1.out; have := HJ6.out; omega
              case rel => exact ⟨(x4_1), (ji13), (by first | rfl | (simp; done) | (simp only [← hji13] <;> (first | rfl | simp)) | (simp [*]; done)), H', ⟨by have := HK1.out; have := HJ6.out; omega⟩, ⟨by (with_reducible repeat (first | apply Kd.R_alloc | apply Kd.R_drewN | apply Kd.R_drew)); exact HO_4.out⟩, ⟨by repeat (first | (with_reducible first | exact HB.out | apply below_alloc | apply pw_below_drewN | apply below_drew1) | exact HB.out)⟩⟩
            ·
             rw [if_neg c16] at H
             exact absurd H (by simp)
           ·
            rw [if_neg c15] at H
            exact absurd H (by simp)
          ·
           rw [if_neg c14] at H
           exact absurd H (by simp)
         ·
          rw [if_neg c12] at H
          exact absurd H (by simp)
        ·
         rw [if_neg c11] at H
         exact absurd H (by simp)
       ·
        rw [if_neg c10] at H
        exact absurd H (by simp)
      ·
       replace c9 := Bool.eq_false_iff.mpr c9
       subst c9
       have H1 : (some (x4_1, true)) = some (r1, r2) := by rw [if_neg (show ¬ (false = true) by decide)] at H; exact H
       clear H
       have H := H1
       clear H1
       simp only [Option.some.injEq, Prod.mk.injEq] at H
       obtain ⟨rfl, rfl⟩ := H
       go_wp2
       go_ret2
       exact ⟨_, by first | rfl | (simp [errW_none, errW_some] <;> rfl) | (simp [*, errW_none, errW_some] <;> rfl), by (with_reducible repeat (first | apply Kd.R_alloc | apply Kd.R_drewN | apply Kd.R_drew)); exact HO_4.out, by repeat (first | (with_reducible first | exact HB.out | apply below_alloc | apply pw_below_drewN | apply below_drew1) | exact HB.out)⟩
 ·
  replace c3 := Bool.eq_false_iff.mpr c3
  subst c3
  have H1 : (some (y578, false)) = some (r1, r2) := by rw [if_neg (show ¬ (false = true) by decide)] at H; exact H
  clear H
  have H := H1
  clear H1
  simp only [Option.some.injEq, Prod.mk.injEq] at H
  obtain ⟨rfl, rfl⟩ := H
  go_enter Try.func44, Try.ntmps44
  go_wp2_with (first | ((with_reducible refine gate_dst (N := 7) rfl ?_); (try (refine gate_guard (by rfl) ?_; dsimp only)); refine Kd.R_lit (Kd.int .i64) _ 3 ?hg (N := 7) ?hd (xs := ([] : List Int)) (inner := []) (ok := fun _ => True) (okp := fun _ => True) ?hr ?hp (fun _ hk => hk) trivial (Below.refl _ _) (Nat.le_refl _) (by simp) ?_; (case hd => rfl); (case hg => rfl); (case hr => first | (go_simp; done) | (go_simp; rfl)); (case hp => exact (Reps.none _ _)); intro v579 w39 ho40 hb hg_ hnew_; clear hg_ hnew_; (first | rw [← Ny578.out] at ho40 | (simp only [Int.reduceToNat] at ho40; rw [← Ny578.out] at ho40)); have n0_ := Aside0.mk (Kd.R_lower ho40 (below_size qz1)); have n1_ := Aside0.mk (below_step qz1 hb); clear HB; have HO580 := n0_; have HB := n1_; clear n0_ n1_; clear hb ho40) | ((with_reducible refine gate_callee (f := 54) rfl ?_); refine goesL_ (some 9) rfl rfl Try.func54 qz10 rfl #[.slice A0 l0.length c0] rfl qz2 ?_; (with_reducible refine (spec_l11Good.calls k _ _ l0 false _ ?side1 ?side2 A2.out).mono ?_); (case side1 => repeat (first | exact (Kd.C_below HR0.out HB.out) | (with_reducible refine Kd.C_alloc ?_ _) | (with_reducible refine Kd.C_drewN ?_ _) | (with_reducible refine Kd.C_drew ?_))); (case side2 => exact HC0.out); rintro e w41 ⟨rfl, hb⟩; refine ⟨_, rfl, ?_⟩; have n0_ := Aside0.mk (Kd.R_below (by (with_reducible repeat (first | apply Kd.R_alloc | apply Kd.R_drewN | apply Kd.R_drew)); exact HO580.out) hb); have n1_ := Aside0.mk (below_step qz1 hb); clear HO580; clear HB; have HO580 := n0_; have HB := n1_; clear n0_ n1_; (try clear hb); (try clear hb2); (try clear hk); (try clear hi)))
  go_ret2
  exact ⟨_, by first | rfl | (simp [errW_none, errW_some] <;> rfl) | (simp [*, errW_none, errW_some] <;> rfl), by (with_reducible repeat (first | apply Kd.R_alloc | apply Kd.R_drewN | apply Kd.R_drew)); exact HO580.out, by repeat (first | (with_reducible first | exact HB.out | apply below_alloc | apply pw_below_drewN | apply below_drew1) | exact HB.out)⟩
def spec_DrawDeclinationOn.f (k : Nat) (l0 : List Int) : Option ((List (S56)) × Int) := (spec_l1Cur_points.f k l0 0 0).bind fun bt604 => ((spec_l1Cur_day11.f l0 bt604.2.1 bt604.2.2).bind fun bt609 => (some (bt604.1, bt609.1)))
theorem spec_DrawDeclinationOn.mono : ∀ a0 k, LeO (spec_DrawDeclinationOn.f k a0) (spec_DrawDeclinationOn.f (k + 1) a0) := by
 intro a0 k
 unfold spec_DrawDeclinationOn.f
 repeat' first
   | (with_reducible exact spec_l1Cur_points.mono _ _ _ _)
   | (with_reducible exact LeO.refl _)
   | (with_reducible exact LeO.none _)
   | (with_reducible refine LeO.ite ?_ ?_)
   | (with_reducible refine LeO.bind ?_ (fun _ => ?_))
   | exact spec_l1Cur_points.mono _ _ _ _
   | exact LeO.none _
   | refine LeO.ite ?_ ?_
   | refine LeO.bind ?_ (fun _ => ?_)
theorem spec_DrawDeclinationOn.calls (k : Nat) (A0 : Option Addr) (c0 : Nat) (l0 : List Int) (r1 : List (S56)) (r2 : Int) (w : World) (hr0 : Kd.C (Kd.int .u8) w A0 l0.length l0) (hc0 : l0.length ≤ c0) (h : spec_DrawDeclinationOn.f k l0 = some (r1, r2)) :
  Calls Try.prog 45 #[.slice A0 l0.length c0] w fun e w' => ∃ v0_ : Value, e = .returned (.tuple #[v0_, .int .i64 r2]) ∧ Kd.R k56 56 w' w.heap.size (fun _ => True) v0_ r1 ∧ Below w.heap.size w w' := by
 have hu67 := Try.underlying67
 have HR0 := Aside0.mk hr0
 have HC0 := Aside0.mk hc0
 clear hr0 hc0
 have HB := Aside0.mk (Below.refl w.heap.size w)
 have H : ((spec_l1Cur_points.f k l0 0 0).bind fun bt604 => ((spec_l1Cur_day11.f l0 bt604.2.1 bt604.2.2).bind fun bt609 => (some (bt604.1, bt609.1)))) = some (r1, r2) := h
 clear h
 replace H := Option.bind_eq_some_iff.mp H
 obtain ⟨⟨t604, t607, t608⟩, A20, H⟩ := H
 replace H : ((spec_l1Cur_day11.f l0 t607 t608).bind fun bt609 => (some (t604, bt609.1))) = some (r1, r2) := H
 have A2 := Aside0.mk A20
 clear A20
 replace H := Option.bind_eq_some_iff.mp H
 obtain ⟨⟨t609, t610, t611⟩, A30, H⟩ := H
 replace H : (some (t604, t609)) = some (r1, r2) := H
 have A3 := Aside0.mk A30
 clear A30
 simp only [Option.some.injEq, Prod.mk.injEq] at H
 obtain ⟨rfl, rfl⟩ := H
 go_enter Try.func45, Try.ntmps45
 go_wp2_with (first | ((with_reducible refine gate_dst (N := 8) rfl ?_); refine box_event ?hg (N := 8) ?hd (cs := #[.slice A0 l0.length c0, .int .i64 0, .int .u64 0]) (t := 67) ?hr ?_; (case hd => rfl); (case hg => rfl); (case hr => first | (go_simp; done) | (go_simp; rfl)); intro gb603 hg w4 hbox hb; have n0_ := Aside0.mk (below_step qz1 hb); have n1_ := Aside0.mk ((⟨_, _, hbox, by rw [hg]; exact (below_size qz1), HR0.out⟩ : IsS67 w w4 gb603 l0 0 0)); clear HB; have HB := n0_; have HI603 := n1_; clear n0_ n1_; clear hb hbox hg) | ((with_reducible refine gate_callee (f := 47) rfl ?_); refine goesL_ (some 10) rfl rfl Try.func47 qz10 rfl #[.pointer (some ⟨gb603, 0, none⟩)] rfl qz2 ?_; (with_reducible refine (spec_l1Cur_points.calls k gb603 l0 0 0 t604 t607 t608 w _ ?side1 ?side2 A2.out).mono ?_); (case side1 => repeat (first | (with_reducible first | exact HI603.out | apply IsS67.alloc | apply IsS67.drewN | apply IsS67.drew | apply IsS67.set_1 | apply IsS67.set_2) | exact HI603.out)); (case side2 => repeat (first | (with_reducible first | exact HB.out | apply below_alloc | apply pw_below_drewN | apply below_drew1 | refine below_set ?_ (IsS67.ge HI603.out)) | exact HB.out)); rintro e w5 ⟨v605, rfl, ho0, hi, hb, hk⟩; refine ⟨_, rfl, ?_⟩; have n0_ := Aside0.mk (Kd.R_lower ho0 (below_size (by repeat (first | (with_reducible first | exact HB.out | apply below_alloc | apply pw_below_drewN | apply below_drew1 | refine below_set ?_ (IsS67.ge HI603.out)) | exact HB.out)))); have n1_ := Aside0.mk (hb); have n2_ := Aside0.mk (hi); clear HB; clear HI603; have HO606 := n0_; have HB := n1_; have HI603 := n2_; clear n0_ n1_ n2_; (try clear hb); (try clear hb2); (try clear hk); (try clear hi); (try clear ho0)) | ((with_reducible refine gate_callee (f := 48) rfl ?_); refine goesL_ (some 13) rfl rfl Try.func48 qz10 rfl #[.pointer (some ⟨gb603, 0, none⟩)] rfl qz2 ?_; (with_reducible refine (spec_l1Cur_day11.calls gb603 l0 t607 t608 t609 t610 t611 w _ ?side1 ?side2 A3.out).mono ?_); (case side1 => repeat (first | (with_reducible first | exact HI603.out | apply IsS67.alloc | apply IsS67.drewN | apply IsS67.drew | apply IsS67.set_1 | apply IsS67.set_2) | exact HI603.out)); (case side2 => repeat (first | (with_reducible first | exact HB.out | apply below_alloc | apply pw_below_drewN | apply below_drew1 | refine below_set ?_ (IsS67.ge HI603.out)) | exact HB.out)); rintro e w6 ⟨rfl, hi, hb, hk⟩; refine ⟨_, rfl, ?_⟩; have n0_ := Aside0.mk (Kd.R_mono (Kd.R_keep (IsS67.apart (show IsS67 w _ gb603 l0 t607 t608 from by repeat (first | (with_reducible first | exact HI603.out | apply IsS67.alloc | apply IsS67.drewN | apply IsS67.drew | apply IsS67.set_1 | apply IsS67.set_2) | exact HI603.out)) (by (with_reducible repeat (first | apply Kd.R_alloc | apply Kd.R_drewN | apply Kd.R_drew)); exact HO606.out) (by decide)) hk (fun _ h => h.2)) (fun _ h => h.1)); have n1_ := Aside0.mk (hb); have n2_ := Aside0.mk (hi); clear HO606; clear HB; clear HI603; have HO606 := n0_; have HB := n1_; have HI603 := n2_; clear n0_ n1_ n2_; (try clear hb); (try clear hb2); (try clear hk); (try clear hi)))
 go_ret2
 exact ⟨_, by first | rfl | (simp [errW_none, errW_some] <;> rfl) | (simp [*, errW_none, errW_some] <;> rfl), by (with_reducible repeat (first | apply Kd.R_alloc | apply Kd.R_drewN | apply Kd.R_drew)); exact HO606.out, by repeat (first | (with_reducible first | exact HB.out | apply below_alloc | apply pw_below_drewN | apply below_drew1 | refine below_set ?_ (IsS67.ge HI603.out)) | exact HB.out)⟩
def spec_DeclinationOn.f (k : Nat) (l0 : List (S56)) (a1 : Int) : Option (Int × Bool) := (spec_l11Good.f k l0).bind fun t612 => (if t612 = true then ((spec_l11Day.f a1).bind fun t613 => (if t613 = true then ((spec_l11On.f k l0 a1).bind fun t614 => (some (t614, true))) else (some (0, false)))) else (some (0, false)))
theorem spec_DeclinationOn.mono : ∀ a0 a1 k, LeO (spec_DeclinationOn.f k a0 a1) (spec_DeclinationOn.f (k + 1) a0 a1) := by
 intro a0 a1 k
 unfold spec_DeclinationOn.f
 repeat' first
   | (with_reducible exact spec_l11Good.mono _ _)
   | (with_reducible exact spec_l11On.mono _ _ _)
   | (with_reducible exact LeO.refl _)
   | (with_reducible exact LeO.none _)
   | (with_reducible refine LeO.ite ?_ ?_)
   | (with_reducible refine LeO.bind ?_ (fun _ => ?_))
   | exact spec_l11Good.mono _ _
   | exact spec_l11On.mono _ _ _
   | exact LeO.none _
   | refine LeO.ite ?_ ?_
   | refine LeO.bind ?_ (fun _ => ?_)
theorem spec_DeclinationOn.calls (k : Nat) (A0 : Option Addr) (c0 : Nat) (l0 : List (S56)) (a1 : Int) (r1 : Int) (r2 : Bool) (w : World) (hr0 : Kd.C k56 w A0 l0.length l0) (hc0 : l0.length ≤ c0) (h : spec_DeclinationOn.f k l0 a1 = some (r1, r2)) :
  Calls Try.prog 46 #[.slice A0 l0.length c0, .int .i64 a1] w fun e w' => e = .returned (.tuple #[.int .i64 r1, .bool r2]) ∧ Below w.heap.size w w' := by
 have HR0 := Aside0.mk hr0
 have HC0 := Aside0.mk hc0
 clear hr0 hc0
 have HB := Aside0.mk (Below.refl w.heap.size w)
 have H : ((spec_l11Good.f k l0).bind fun t612 => (if t612 = true then ((spec_l11Day.f a1).bind fun t613 => (if t613 = true then ((spec_l11On.f k l0 a1).bind fun t614 => (some (t614, true))) else (some (0, false)))) else (some (0, false)))) = some (r1, r2) := h
 clear h
 replace H := Option.bind_eq_some_iff.mp H
 obtain ⟨t612, A30, H⟩ := H
 replace H : (if t612 = true then ((spec_l11Day.f a1).bind fun t613 => (if t613 = true then ((spec_l11On.f k l0 a1).bind fun t614 => (some (t614, true))) else (some (0, false)))) else (some (0, false))) = some (r1, r2) := H
 have A3 := Aside0.mk A30
 clear A30
 by_cases c4 : t612 = true
 ·
  subst c4
  have H1 : ((spec_l11Day.f a1).bind fun t613 => (if t613 = true then ((spec_l11On.f k l0 a1).bind fun t614 => (some (t614, true))) else (some (0, false)))) = some (r1, r2) := by rw [if_pos rfl] at H; exact H
  clear H
  have H := H1
  clear H1
  replace H := Option.bind_eq_some_iff.mp H
  obtain ⟨t613, A50, H⟩ := H
  replace H : (if t613 = true then ((spec_l11On.f k l0 a1).bind fun t614 => (some (t614, true))) else (some (0, false))) = some (r1, r2) := H
  have A5 := Aside0.mk A50
  clear A50
  by_cases c6 : t613 = true
  ·
   subst c6
   have H1 : ((spec_l11On.f k l0 a1).bind fun t614 => (some (t614, true))) = some (r1, r2) := by rw [if_pos rfl] at H; exact H
   clear H
   have H := H1
   clear H1
   replace H := Option.bind_eq_some_iff.mp H
   obtain ⟨t614, A70, H⟩ := H
   replace H : (some (t614, true)) = some (r1, r2) := H
   have A7 := Aside0.mk A70
   clear A70
   simp only [Option.some.injEq, Prod.mk.injEq] at H
   obtain ⟨rfl, rfl⟩ := H
   go_enter Try.func46, Try.ntmps46
   go_wp2_with (first | ((with_reducible refine gate_callee (f := 54) rfl ?_); refine goesL_ (some 7) rfl rfl Try.func54 qz10 rfl #[.slice A0 l0.length c0] rfl qz2 ?_; (with_reducible refine (spec_l11Good.calls k _ _ l0 true _ ?side1 ?side2 A3.out).mono ?_); (case side1 => repeat (first | exact HR0.out | (with_reducible refine Kd.C_alloc ?_ _) | (with_reducible refine Kd.C_drewN ?_ _) | (with_reducible refine Kd.C_drew ?_))); (case side2 => exact HC0.out); rintro e w8 ⟨rfl, hb⟩; refine ⟨_, rfl, ?_⟩; have n0_ := Aside0.mk (below_step qz1 hb); clear HB; have HB := n0_; clear n0_; (try clear hb); (try clear hb2); (try clear hk); (try clear hi)) | (go_at_call 55; (with_reducible refine (spec_l11Day.calls a1 true _ A5.out).mono ?_); rintro e w' ⟨rfl, ⟨nd, rfl⟩⟩) | ((with_reducible refine gate_callee (f := 57) rfl ?_); refine goesL_ (some 16) rfl rfl Try.func57 qz10 rfl #[.slice A0 l0.length c0, .int .i64 a1] rfl qz2 ?_; (with_reducible refine (spec_l11On.calls k _ _ l0 a1 t614 _ ?side1 ?side2 A7.out).mono ?_); (case side1 => repeat (first | exact (Kd.C_below HR0.out qz1) | (with_reducible refine Kd.C_alloc ?_ _) | (with_reducible refine Kd.C_drewN ?_ _) | (with_reducible refine Kd.C_drew ?_))); (case side2 => exact HC0.out); rintro e w9 ⟨rfl, hb⟩; refine ⟨_, rfl, ?_⟩; have n0_ := Aside0.mk (below_step qz1 hb); clear HB; have HB := n0_; clear n0_; (try clear hb); (try clear hb2); (try clear hk); (try clear hi)))
   go_ret2
   exact ⟨by first | rfl | (simp [errW_none, errW_some] <;> rfl) | (simp [*, errW_none, errW_some] <;> rfl), by repeat (first | (with_reducible first | exact HB.out | apply below_alloc | apply pw_below_drewN | apply below_drew1) | exact HB.out)⟩
  ·
   replace c6 := Bool.eq_false_iff.mpr c6
   subst c6
   have H1 : (some (0, false)) = some (r1, r2) := by rw [if_neg (show ¬ (false = true) by decide)] at H; exact H
   clear H
   have H := H1
   clear H1
   simp only [Option.some.injEq, Prod.mk.injEq] at H
   obtain ⟨rfl, rfl⟩ := H
   go_enter Try.func46, Try.ntmps46
   go_wp2_with (first | ((with_reducible refine gate_callee (f := 54) rfl ?_); refine goesL_ (some 7) rfl rfl Try.func54 qz10 rfl #[.slice A0 l0.length c0] rfl qz2 ?_; (with_reducible refine (spec_l11Good.calls k _ _ l0 true _ ?side1 ?side2 A3.out).mono ?_); (case side1 => repeat (first | exact HR0.out | (with_reducible refine Kd.C_alloc ?_ _) | (with_reducible refine Kd.C_drewN ?_ _) | (with_reducible refine Kd.C_drew ?_))); (case side2 => exact HC0.out); rintro e w10 ⟨rfl, hb⟩; refine ⟨_, rfl, ?_⟩; have n0_ := Aside0.mk (below_step qz1 hb); clear HB; have HB := n0_; clear n0_; (try clear hb); (try clear hb2); (try clear hk); (try clear hi)) | (go_at_call 55; (with_reducible refine (spec_l11Day.calls a1 false _ A5.out).mono ?_); rintro e w' ⟨rfl, ⟨nd, rfl⟩⟩))
   go_ret2
   exact ⟨by first | rfl | (simp [errW_none, errW_some] <;> rfl) | (simp [*, errW_none, errW_some] <;> rfl), by repeat (first | (with_reducible first | exact HB.out | apply below_alloc | apply pw_below_drewN | apply below_drew1) | exact HB.out)⟩
 ·
  replace c4 := Bool.eq_false_iff.mpr c4
  subst c4
  have H1 : (some (0, false)) = some (r1, r2) := by rw [if_neg (show ¬ (false = true) by decide)] at H; exact H
  clear H
  have H := H1
  clear H1
  simp only [Option.some.injEq, Prod.mk.injEq] at H
  obtain ⟨rfl, rfl⟩ := H
  go_enter Try.func46, Try.ntmps46
  go_wp2_with (first | ((with_reducible refine gate_callee (f := 54) rfl ?_); refine goesL_ (some 7) rfl rfl Try.func54 qz10 rfl #[.slice A0 l0.length c0] rfl qz2 ?_; (with_reducible refine (spec_l11Good.calls k _ _ l0 false _ ?side1 ?side2 A3.out).mono ?_); (case side1 => repeat (first | exact HR0.out | (with_reducible refine Kd.C_alloc ?_ _) | (with_reducible refine Kd.C_drewN ?_ _) | (with_reducible refine Kd.C_drew ?_))); (case side2 => exact HC0.out); rintro e w11 ⟨rfl, hb⟩; refine ⟨_, rfl, ?_⟩; have n0_ := Aside0.mk (below_step qz1 hb); clear HB; have HB := n0_; clear n0_; (try clear hb); (try clear hb2); (try clear hk); (try clear hi)))
  go_ret2
  exact ⟨by first | rfl | (simp [errW_none, errW_some] <;> rfl) | (simp [*, errW_none, errW_some] <;> rfl), by repeat (first | (with_reducible first | exact HB.out | apply below_alloc | apply pw_below_drewN | apply below_drew1) | exact HB.out)⟩
end Go.Proofs.Ytlipaiabjcaeiaa.A
