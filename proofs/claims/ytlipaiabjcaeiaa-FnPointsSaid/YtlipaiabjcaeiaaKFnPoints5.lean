/- One Lean function and its proof for each Go function that the law reaches, written by a program out of the translation. No conditions. -/
import Derived.Test.YtlipaiabjcaeiaaKFnPoints3
set_option linter.unusedSimpArgs false
set_option linter.unusedVariables false
namespace Go.Proofs.Ytlipaiabjcaeiaa.A
open Go.RowKit YtlipaiabjcaeiaaW.PrintWords YtlipaiabjcaeiaaW.PrintLast YtlipaiabjcaeiaaW.PrintMore
attribute [local go_sem] max2_int min2_int max_two min_two max_three min_three max_four min_four
mutual
def spec_AddPoint.j0 : Nat → List (S56) → Bool → Int → Int → Option ((List (S56)) × Bool)
 | 0, _, _, _, _ => none
 | k + 1, x0, x16, x505000, x505001 => if x16 = true then (some ((([] : List (S56))), false)) else (spec_AddPoint.l0 k x0 0 x505000 x505001)
def spec_AddPoint.j2 : Nat → List (S56) → Int → Int → Int → Option ((List (S56)) × Bool)
 | 0, _, _, _, _ => none
 | k + 1, x0, x6, x505000, x505001 => if 0 ≤ x6 then (if x6 ≤ (x0.length : Int) then ((some (x0.drop (x6 : Int).toNat : List (S56))).bind fun y510 => (if (y510.length : Int) > 0 then (if 0 < (y510.length : Int) then (spec_AddPoint.j3 k x0 x6 y510 (((rd_T56 y510 0).f0) == x505000) x505000 x505001) else (none)) else (spec_AddPoint.j3 k x0 x6 y510 false x505000 x505001))) else (none)) else (none)
def spec_AddPoint.j3 : Nat → List (S56) → Int → List (S56) → Bool → Int → Int → Option ((List (S56)) × Bool)
 | 0, _, _, _, _, _, _ => none
 | k + 1, x0, x6, x7, x48, x505000, x505001 => if x48 = true then (if 1 ≤ (x7.length : Int) then ((some (x7.drop 1 : List (S56))).bind fun y515 => ((some (([] : List (S56)) : List (S56))).bind fun y519 => (if 0 ≤ x6 then (if x6 ≤ (x0.length : Int) then ((some (x0.take (x6 : Int).toNat : List (S56))).bind fun y522 => (if y519.length + y522.length < 8796093022208 then ((some (y519 ++ y522 : List (S56))).bind fun y526 => ((some (([(⟨x505000, x505001⟩ : S56)] : List (S56)) : List (S56))).bind fun y529 => (if y526.length + y529.length < 8796093022208 then ((some (y526 ++ y529 : List (S56))).bind fun y532 => (if y532.length + y515.length < 8796093022208 then ((some (y532 ++ y515 : List (S56))).bind fun y535 => ((spec_l11Good.f k y535).bind fun t538 => (if t538 = true then (some (y535, true)) else (some ((([] : List (S56))), false))))) else (none))) else (none)))) else (none))) else (none)) else (none)))) else (none)) else ((some (([] : List (S56)) : List (S56))).bind fun y542 => (if 0 ≤ x6 then (if x6 ≤ (x0.length : Int) then ((some (x0.take (x6 : Int).toNat : List (S56))).bind fun y545 => (if y542.length + y545.length < 8796093022208 then ((some (y542 ++ y545 : List (S56))).bind fun y549 => ((some (([(⟨x505000, x505001⟩ : S56)] : List (S56)) : List (S56))).bind fun y552 => (if y549.length + y552.length < 8796093022208 then ((some (y549 ++ y552 : List (S56))).bind fun y555 => (if y555.length + x7.length < 8796093022208 then ((some (y555 ++ x7 : List (S56))).bind fun y558 => ((spec_l11Good.f k y558).bind fun t561 => (if t561 = true then (some (y558, true)) else (some ((([] : List (S56))), false))))) else (none))) else (none)))) else (none))) else (none)) else (none)))
def spec_AddPoint.l0 : Nat → List (S56) → Int → Int → Int → Option ((List (S56)) × Bool)
 | 0, _, _, _, _ => none
 | k + 1, x0, x6, x505000, x505001 => if x6 < (x0.length : Int) then (if 0 ≤ x6 then (if ((rd_T56 x0 x6).f0) < x505000 then (spec_AddPoint.l0 k x0 (wrap64 (x6 + 1)) x505000 x505001) else (spec_AddPoint.j2 k x0 x6 x505000 x505001)) else (none)) else (spec_AddPoint.j2 k x0 x6 x505000 x505001)
end
def spec_AddPoint.f (k : Nat) (l0 : List (S56)) (a1_0 : Int) (a1_1 : Int) : Option ((List (S56)) × Bool) := (spec_l11Good.f k l0).bind fun t505 => (if t505 = true then (spec_AddPoint.j0 k l0 false a1_0 a1_1) else (spec_AddPoint.j0 k l0 (decide ((l0.length : Int) > 0)) a1_0 a1_1))
theorem spec_AddPoint.mono_l : ∀ k, (∀ y0 y1 y2 y3, LeO (spec_AddPoint.j0 k y0 y1 y2 y3) (spec_AddPoint.j0 (k + 1) y0 y1 y2 y3)) ∧ (∀ y0 y1 y2 y3, LeO (spec_AddPoint.j2 k y0 y1 y2 y3) (spec_AddPoint.j2 (k + 1) y0 y1 y2 y3)) ∧ (∀ y0 y1 y2 y3 y4 y5, LeO (spec_AddPoint.j3 k y0 y1 y2 y3 y4 y5) (spec_AddPoint.j3 (k + 1) y0 y1 y2 y3 y4 y5)) ∧ (∀ y0 y1 y2 y3, LeO (spec_AddPoint.l0 k y0 y1 y2 y3) (spec_AddPoint.l0 (k + 1) y0 y1 y2 y3))
 | 0 => ⟨fun _ _ _ _ r h => by simp [spec_AddPoint.j0] at h, fun _ _ _ _ r h => by simp [spec_AddPoint.j2] at h, fun _ _ _ _ _ _ r h => by simp [spec_AddPoint.j3] at h, fun _ _ _ _ r h => by simp [spec_AddPoint.l0] at h⟩
 | k + 1 => by
  obtain ⟨ih0, ih1, ih2, ih3⟩ := spec_AddPoint.mono_l k
  refine ⟨?_, ?_, ?_, ?_⟩
  ·
   intro y0 y1 y2 y3
   unfold spec_AddPoint.j0
   repeat' first
   | (with_reducible exact ih0 _ _ _ _)
   | (with_reducible exact ih1 _ _ _ _)
   | (with_reducible exact ih2 _ _ _ _ _ _)
   | (with_reducible exact ih3 _ _ _ _)
   | (with_reducible exact spec_l11Good.mono _ _)
   | (with_reducible exact LeO.refl _)
   | (with_reducible exact LeO.none _)
   | (with_reducible refine LeO.ite ?_ ?_)
   | (with_reducible refine LeO.bind ?_ (fun _ => ?_))
   | exact ih0 _ _ _ _
   | exact ih1 _ _ _ _
   | exact ih2 _ _ _ _ _ _
   | exact ih3 _ _ _ _
   | exact spec_l11Good.mono _ _
   | exact LeO.none _
   | refine LeO.ite ?_ ?_
   | refine LeO.bind ?_ (fun _ => ?_)
  ·
   intro y0 y1 y2 y3
   unfold spec_AddPoint.j2
   repeat' first
   | (with_reducible exact ih0 _ _ _ _)
   | (with_reducible exact ih1 _ _ _ _)
   | (with_reducible exact ih2 _ _ _ _ _ _)
   | (with_reducible exact ih3 _ _ _ _)
   | (with_reducible exact spec_l11Good.mono _ _)
   | (with_reducible exact LeO.refl _)
   | (with_reducible exact LeO.none _)
   | (with_reducible refine LeO.ite ?_ ?_)
   | (with_reducible refine LeO.bind ?_ (fun _ => ?_))
   | exact ih0 _ _ _ _
   | exact ih1 _ _ _ _
   | exact ih2 _ _ _ _ _ _
   | exact ih3 _ _ _ _
   | exact spec_l11Good.mono _ _
   | exact LeO.none _
   | refine LeO.ite ?_ ?_
   | refine LeO.bind ?_ (fun _ => ?_)
  ·
   intro y0 y1 y2 y3 y4 y5
   unfold spec_AddPoint.j3
   repeat' first
   | (with_reducible exact ih0 _ _ _ _)
   | (with_reducible exact ih1 _ _ _ _)
   | (with_reducible exact ih2 _ _ _ _ _ _)
   | (with_reducible exact ih3 _ _ _ _)
   | (with_reducible exact spec_l11Good.mono _ _)
   | (with_reducible exact LeO.refl _)
   | (with_reducible exact LeO.none _)
   | (with_reducible refine LeO.ite ?_ ?_)
   | (with_reducible refine LeO.bind ?_ (fun _ => ?_))
   | exact ih0 _ _ _ _
   | exact ih1 _ _ _ _
   | exact ih2 _ _ _ _ _ _
   | exact ih3 _ _ _ _
   | exact spec_l11Good.mono _ _
   | exact LeO.none _
   | refine LeO.ite ?_ ?_
   | refine LeO.bind ?_ (fun _ => ?_)
  ·
   intro y0 y1 y2 y3
   unfold spec_AddPoint.l0
   repeat' first
   | (with_reducible exact ih0 _ _ _ _)
   | (with_reducible exact ih1 _ _ _ _)
   | (with_reducible exact ih2 _ _ _ _ _ _)
   | (with_reducible exact ih3 _ _ _ _)
   | (with_reducible exact spec_l11Good.mono _ _)
   | (with_reducible exact LeO.refl _)
   | (with_reducible exact LeO.none _)
   | (with_reducible refine LeO.ite ?_ ?_)
   | (with_reducible refine LeO.bind ?_ (fun _ => ?_))
   | exact ih0 _ _ _ _
   | exact ih1 _ _ _ _
   | exact ih2 _ _ _ _ _ _
   | exact ih3 _ _ _ _
   | exact spec_l11Good.mono _ _
   | exact LeO.none _
   | refine LeO.ite ?_ ?_
   | refine LeO.bind ?_ (fun _ => ?_)
theorem spec_AddPoint.mono : ∀ a0 a1 a2 k, LeO (spec_AddPoint.f k a0 a1 a2) (spec_AddPoint.f (k + 1) a0 a1 a2) := by
 intro a0 a1 a2 k
 obtain ⟨ih0, ih1, ih2, ih3⟩ := spec_AddPoint.mono_l k
 unfold spec_AddPoint.f
 repeat' first
   | (with_reducible exact ih0 _ _ _ _)
   | (with_reducible exact ih1 _ _ _ _)
   | (with_reducible exact ih2 _ _ _ _ _ _)
   | (with_reducible exact ih3 _ _ _ _)
   | (with_reducible exact spec_l11Good.mono _ _)
   | (with_reducible exact LeO.refl _)
   | (with_reducible exact LeO.none _)
   | (with_reducible refine LeO.ite ?_ ?_)
   | (with_reducible refine LeO.bind ?_ (fun _ => ?_))
   | exact ih0 _ _ _ _
   | exact ih1 _ _ _ _
   | exact ih2 _ _ _ _ _ _
   | exact ih3 _ _ _ _
   | exact spec_l11Good.mono _ _
   | exact LeO.none _
   | refine LeO.ite ?_ ?_
   | refine LeO.bind ?_ (fun _ => ?_)
def spec_AddPoint.T4 : Bool × List (List Nat × List Nat) := (true, [([], []), ([], []), ([1], [1]), ([0, 2], [0, 2]), ([3], [3]), ([4], [4]), ([4], [4]), ([5, 6, 4], [4, 5, 6]), ([7, 4], [4, 7]), ([8, 4], [4, 8]), ([4], [4]), ([10, 4], [4, 10]), ([9, 11, 4], [4, 9, 11]), ([4, 12], [4, 12])])
def spec_AddPoint.B4 : List Nat := [0, 0, 2, 7, 15, 31, 31, 127, 255, 511, 31, 1055, 4095, 8191]
theorem spec_AddPoint.tab4 : rtab .any (opsOf Try.f40 4) = spec_AddPoint.T4 := by kernel_rfl
theorem spec_AddPoint.bits4 : waitsOk spec_AddPoint.T4.2 spec_AddPoint.B4 = true := by kernel_rfl
def spec_AddPoint.T7 : Bool × List (List Nat × List Nat) := (true, [([], []), ([0], [0]), ([1], [1]), ([2], [2]), ([3], [3]), ([4, 3], [3, 4]), ([5, 3], [3, 5]), ([6, 3], [3, 6]), ([3], [3]), ([8, 3], [3, 8]), ([7, 9, 3], [3, 7, 9]), ([3, 10], [3, 10])])
def spec_AddPoint.B7 : List Nat := [0, 1, 3, 7, 15, 31, 63, 127, 15, 271, 1023, 2047]
theorem spec_AddPoint.tab7 : rtab .any (opsOf Try.f40 7) = spec_AddPoint.T7 := by kernel_rfl
theorem spec_AddPoint.bits7 : waitsOk spec_AddPoint.T7.2 spec_AddPoint.B7 = true := by kernel_rfl
def spec_AddPoint.T9 : Bool × List (List Nat × List Nat) := (true, [([], []), ([], []), ([], []), ([1, 2], [1, 2]), ([0, 3], [0, 3]), ([], []), ([5], [5]), ([4, 6, 4], [4, 6]), ([], []), ([7, 8, 7], [7, 8]), ([9, 9, 0, 1, 2, 3, 4, 5, 6, 7, 8, 9], [9])])
def spec_AddPoint.B9 : List Nat := [0, 0, 0, 6, 15, 0, 32, 127, 0, 511, 1023]
theorem spec_AddPoint.tab9 : rtab .any (opsOf Try.f40 9) = spec_AddPoint.T9 := by kernel_rfl
theorem spec_AddPoint.bits9 : waitsOk spec_AddPoint.T9.2 spec_AddPoint.B9 = true := by kernel_rfl
set_option maxHeartbeats 8000000 in
set_option maxRecDepth 100000 in
theorem spec_AddPoint.calls (k : Nat) (A0 : Option Addr) (c0 : Nat) (l0 : List (S56)) (a1_0 : Int) (a1_1 : Int) (r1 : List (S56)) (r2 : Bool) (w : World) (hr0 : Kd.C k56 w A0 l0.length l0) (hc0 : l0.length ≤ c0) (h : spec_AddPoint.f k l0 a1_0 a1_1 = some (r1, r2)) :
  Calls Try.prog 40 #[.slice A0 l0.length c0, .agg #[.int .i64 a1_0, .int .i64 a1_1]] w fun e w' => ∃ v0_ : Value, e = .returned (.tuple #[v0_, .bool r2]) ∧ Kd.R k56 56 w' w.heap.size (fun _ => True) v0_ r1 ∧ Below w.heap.size w w' := by
 have hu56 := Try.underlying56
 have HR0 := Aside0.mk hr0
 have HC0 := Aside0.mk hc0
 clear hr0 hc0
 have HB := Aside0.mk (Below.refl w.heap.size w)
 have H : ((spec_l11Good.f k l0).bind fun t505 => (if t505 = true then (spec_AddPoint.j0 k l0 false a1_0 a1_1) else (spec_AddPoint.j0 k l0 (decide ((l0.length : Int) > 0)) a1_0 a1_1))) = some (r1, r2) := h
 clear h
 have HC3 := Aside0.mk H
 clear H
 go_enter Try.func40, Try.ntmps40
 go_upto_region 1 with (first | ((with_reducible refine gate_dst (N := 3) rfl ?_); (try (refine gate_guard (by rfl) ?_; dsimp only)); refine box_event ?hg (N := 3) ?hd (cs := #[.int .i64 a1_0, .int .i64 a1_1]) (t := 56) ?hr ?_; (case hd => rfl); (case hg => rfl); (case hr => first | (go_simp; done) | (go_simp; rfl)); intro gb504 hg w4 hbox hb; have n0_ := Aside0.mk (below_step qz1 hb); have n1_ := Aside0.mk (hbox); have n2_ := Aside0.mk ((by rw [hg]; exact (below_size qz1) : w.heap.size ≤ gb504)); have n3_ := Aside0.mk ((by rw [hg]; exact (below_size qz1) : w.heap.size ≤ gb504)); clear HB; have HB := n0_; have BK504 := n1_; have GW504 := n2_; have GE504 := n3_; clear n0_ n1_ n2_ n3_; clear hb hbox hg))
 (try simp only [Act.put, List.setIfInBounds_toArray, List.set_cons_zero, List.set_cons_succ])
 go_cut [16] (fun v16 wc => ∃ (kq : Nat) (x16_2 : Bool), v16 = .bool x16_2 ∧ Aside0 (spec_AddPoint.j0 kq l0 x16_2 a1_0 a1_1 = some (r1, r2)) ∧ Aside0 (kq ≤ k) ∧ Aside0 (wc.heap[gb504]? = some (.cells #[.int .i64 a1_0, .int .i64 a1_1] 56 (0, 0))) ∧ Aside0 (Below w.heap.size w wc))
 case first =>
  have H := HC3.out
  clear HC3
  replace H := Option.bind_eq_some_iff.mp H
  obtain ⟨t505, A50, H⟩ := H
  replace H : (if t505 = true then (spec_AddPoint.j0 k l0 false a1_0 a1_1) else (spec_AddPoint.j0 k l0 (decide ((l0.length : Int) > 0)) a1_0 a1_1)) = some (r1, r2) := H
  have A5 := Aside0.mk A50
  clear A50
  by_cases c6 : t505 = true
  ·
   subst c6
   have H1 : (spec_AddPoint.j0 k l0 false a1_0 a1_1) = some (r1, r2) := by rw [if_pos rfl] at H; exact H
   clear H
   have H := H1
   clear H1
   have H' := Aside0.mk H
   clear H
   go_wp2_with (first | ((with_reducible refine gate_callee (f := 54) rfl ?_); refine goesL_ (some 10) rfl rfl Try.func54 qz10 rfl #[.slice A0 l0.length c0] rfl qz2 ?_; (with_reducible refine (spec_l11Good.calls k _ _ l0 true _ ?side1 ?side2 A5.out).mono ?_); (case side1 => repeat (first | exact (Kd.C_below HR0.out HB.out) | (with_reducible refine Kd.C_alloc ?_ _) | (with_reducible refine Kd.C_drewN ?_ _) | (with_reducible refine Kd.C_drew ?_))); (case side2 => exact HC0.out); rintro e w7 ⟨rfl, hb⟩; refine ⟨_, rfl, ?_⟩; have n0_ := Aside0.mk (blk_below (g := gb504) (o := .cells #[.int .i64 a1_0, .int .i64 a1_1] 56 (0, 0)) qz3 hb); have n1_ := Aside0.mk (below_step qz0 hb); clear BK504; clear HB; have BK504 := n0_; have HB := n1_; clear n0_ n1_; (try clear hb); (try clear hb2); (try clear hk); (try clear hi)))
   go_meet
   case rel => exact ⟨_, (false), qz23, H', ⟨by first | omega | exact Nat.le_refl _⟩, ⟨by (with_reducible repeat (first | refine blk_drewN ?_ _ | refine blk_drew ?_ | refine blk_alloc ?_ _)); exact BK504.out⟩, ⟨by repeat (first | (with_reducible first | exact HB.out | apply below_alloc | apply pw_below_drewN | apply below_drew1 | refine below_set ?_ GE504.out) | exact HB.out)⟩⟩
  ·
   replace c6 := Bool.eq_false_iff.mpr c6
   subst c6
   have H1 : (spec_AddPoint.j0 k l0 (decide ((l0.length : Int) > 0)) a1_0 a1_1) = some (r1, r2) := by rw [if_neg (show ¬ (false = true) by decide)] at H; exact H
   clear H
   have H := H1
   clear H1
   have H' := Aside0.mk H
   clear H
   go_wp2_with (first | ((with_reducible refine gate_callee (f := 54) rfl ?_); refine goesL_ (some 10) rfl rfl Try.func54 qz10 rfl #[.slice A0 l0.length c0] rfl qz2 ?_; (with_reducible refine (spec_l11Good.calls k _ _ l0 false _ ?side1 ?side2 A5.out).mono ?_); (case side1 => repeat (first | exact (Kd.C_below HR0.out HB.out) | (with_reducible refine Kd.C_alloc ?_ _) | (with_reducible refine Kd.C_drewN ?_ _) | (with_reducible refine Kd.C_drew ?_))); (case side2 => exact HC0.out); rintro e w8 ⟨rfl, hb⟩; refine ⟨_, rfl, ?_⟩; have n0_ := Aside0.mk (blk_below (g := gb504) (o := .cells #[.int .i64 a1_0, .int .i64 a1_1] 56 (0, 0)) qz3 hb); have n1_ := Aside0.mk (below_step qz0 hb); clear BK504; clear HB; have BK504 := n0_; have HB := n1_; clear n0_ n1_; (try clear hb); (try clear hb2); (try clear hk); (try clear hi)))
   go_meet
   case rel => exact ⟨_, (decide ((l0.length : Int) > 0)), qz23, H', ⟨by first | omega | exact Nat.le_refl _⟩, ⟨by (with_reducible repeat (first | refine blk_drewN ?_ _ | refine blk_drew ?_ | refine blk_alloc ?_ _)); exact BK504.out⟩, ⟨by repeat (first | (with_reducible first | exact HB.out | apply below_alloc | apply pw_below_drewN | apply below_drew1 | refine below_set ?_ GE504.out) | exact HB.out)⟩⟩
 case rest =>
  clear HC3
  try clear p2
  try clear c4
  try clear c5
  try clear c6
  obtain ⟨kq, x16_2, rfl, HA, HJ2, BK504, HB⟩ := hcut
  cases kq with
  | zero => exact absurd HA.out (by simp [spec_AddPoint.j0])
  | succ kj2 =>
   have H := HA.out
   clear HA
   simp only [spec_AddPoint.j0] at H
   by_cases c9 : x16_2 = true
   ·
    subst c9
    have H1 : (some ((([] : List (S56))), false)) = some (r1, r2) := by rw [if_pos rfl] at H; exact H
    clear H
    have H := H1
    clear H1
    obtain ⟨y506, hy506⟩ : ∃ y_ : List (S56), y_ = (([] : List (S56))) := ⟨_, rfl⟩
    replace H : (some (y506, false)) = some (r1, r2) := by first | (rw [hy506]; with_reducible exact H) | (have H2_ := (Option.bind_some _ _).symm.trans H; rw [hy506]; with_reducible exact H2_) | (have H2_ := (Option.bind_some _ _).symm.trans H; with_reducible exact H2_) | with_reducible exact H | (rw [hy506]; exact H) | exact H
    have Ny506 := Aside0.mk hy506
    clear hy506
    simp only [Option.some.injEq, Prod.mk.injEq] at H
    obtain ⟨rfl, rfl⟩ := H
    go_wp2_with (first | ((with_reducible refine gate_dst (N := 17) rfl ?_); (try (refine gate_guard (by rfl) ?_; dsimp only)); refine Kd.R_lit k56 _ 56 ?hg (N := 17) ?hd (xs := ([] : List (S56))) (inner := []) (ok := fun _ => True) (okp := fun _ => True) ?hr ?hp (fun _ hk => hk) trivial (Below.refl _ _) (Nat.le_refl _) (by simp) ?_; (case hd => rfl); (case hg => rfl); (case hr => first | (go_simp; done) | (go_simp; rfl)); (case hp => exact (Reps.none _ _)); intro v507 w10 ho11 hb hg_ hnew_; clear hg_ hnew_; (first | rw [← Ny506.out] at ho11 | (simp only [Int.reduceToNat] at ho11; rw [← Ny506.out] at ho11)); have n0_ := Aside0.mk (Kd.R_lower (Kd.R_newB ho11 (g := gb504) (o := .cells #[.int .i64 a1_0, .int .i64 a1_1] 56 (0, 0)) qz3) (below_size qz0)); have n1_ := Aside0.mk (blk_below (g := gb504) (o := .cells #[.int .i64 a1_0, .int .i64 a1_1] 56 (0, 0)) qz3 hb); have n2_ := Aside0.mk (below_step qz0 hb); clear BK504; clear HB; have HO508 := n0_; have BK504 := n1_; have HB := n2_; clear n0_ n1_ n2_; clear hb ho11))
    go_ret2
    exact ⟨_, by first | rfl | (simp [errW_none, errW_some] <;> rfl) | (simp [*, errW_none, errW_some] <;> rfl), by (with_reducible repeat (first | apply Kd.R_alloc | apply Kd.R_drewN | apply Kd.R_drew)); exact Kd.R_mono HO508.out (fun _ hk => trivial), by repeat (first | (with_reducible first | exact HB.out | apply below_alloc | apply pw_below_drewN | apply below_drew1 | refine below_set ?_ GE504.out) | exact HB.out)⟩
   ·
    replace c9 := Bool.eq_false_iff.mpr c9
    subst c9
    have H1 : (spec_AddPoint.l0 kj2 l0 0 a1_0 a1_1) = some (r1, r2) := by rw [if_neg (show ¬ (false = true) by decide)] at H; exact H
    clear H
    have H := H1
    clear H1
    have HC12 := Aside0.mk H
    clear H
    go_upto_block 0 with (fail)
    go_cut [6] (fun v6 wc => ∃ (kq : Nat) (x6_11 : Int), v6 = .int .i64 x6_11 ∧ Aside0 (spec_AddPoint.j2 kq l0 x6_11 a1_0 a1_1 = some (r1, r2)) ∧ Aside0 (kq ≤ kj2) ∧ Aside0 (wc.heap[gb504]? = some (.cells #[.int .i64 a1_0, .int .i64 a1_1] 56 (0, 0))) ∧ Aside0 (Below w.heap.size w wc))
    case first =>
     have H := HC12.out
     clear HC12
     have H' := Aside0.mk H
     clear H
     go_wp2
     go_loopg [6] kj2 (fun kq v6 w' => ∃ (x6_2 : Int), v6 = .int .i64 x6_2 ∧ Aside0 (spec_AddPoint.l0 kq l0 x6_2 a1_0 a1_1 = some (r1, r2)) ∧ Aside0 (kq ≤ kj2) ∧ Aside0 (w'.heap[gb504]? = some (.cells #[.int .i64 a1_0, .int .i64 a1_1] 56 (0, 0))) ∧ Aside0 (Below w.heap.size w w'))
     case atStart => exact ⟨(0), qz23, H', ⟨Nat.le_refl _⟩, ⟨by (with_reducible repeat (first | refine blk_drewN ?_ _ | refine blk_drew ?_ | refine blk_alloc ?_ _)); exact BK504.out⟩, ⟨by repeat (first | (with_reducible first | exact HB.out | apply below_alloc | apply pw_below_drewN | apply below_drew1 | refine below_set ?_ GE504.out) | exact HB.out)⟩⟩
     case round =>
      clear H'
      try clear p2
      try clear c4
      try clear c5
      try clear c6
      try clear c9
      try clear p2
      obtain ⟨x6_2, rfl, HA, HK2, BK504, HB⟩ := hrel
      cases gk with
      | zero => exact absurd HA.out (by simp [spec_AddPoint.l0])
      | succ k2 =>
       have H := HA.out
       clear HA
       simp only [spec_AddPoint.l0] at H
       by_cases c13 : x6_2 < (l0.length : Int)
       ·
        rw [if_pos c13] at H
        have c13b0 : decide (x6_2 < (l0.length : Int)) = true := decide_eq_true c13
        clear c13
        (first | rw [c13b0] | (simp only [i64_w, i32_w]; rw [c13b0]) | skip)
        by_cases c14 : 0 ≤ x6_2
        ·
         rw [if_pos c14] at H
         have c14b0 : decide (0 ≤ x6_2) = true := decide_eq_true c14
         clear c14
         by_cases c15 : ((rd_T56 l0 x6_2).f0) < a1_0
         ·
          rw [if_pos c15] at H
          have c15b0 : decide (((rd_T56 l0 x6_2).f0) < a1_0) = true := decide_eq_true c15
          clear c15
          have H' := Aside0.mk H
          clear H
          try go_wp2
          have n0_ := Aside0.mk (blk_drew BK504.out)
          have n1_ := Aside0.mk (below_drew1 HB.out)
          clear BK504
          clear HB
          have BK504 := n0_
          have HB := n1_
          clear n0_ n1_
          have p509 : 0 ≤ (x6_2 : Int) := of_decide_eq_true qz4
          have q509 : x6_2 < (l0.length : Int) := of_decide_eq_true qz4
          obtain ⟨ad509, e509, hx509_0, hx509_1⟩ := at_T56 HR0.out x6_2 p509 q509
          have hw509_1 := hx509_1
          have hw509_0 := hx509_0
          cases e509
          replace hx509_0 := (HB.out.cell (World.block_lt_of_cell? w _ hx509_0)).trans hx509_0
          replace hx509_1 := (HB.out.cell (World.block_lt_of_cell? w _ hx509_1)).trans hx509_1
          replace p509 := eq_true p509
          replace q509 := eq_true q509
          refine start_ (n := 14) (S := fun w' => w'.cell? ⟨gb504, 0, none⟩ = some (.int .i64 a1_0) ∧ w'.cell? ⟨gb504, 1, none⟩ = some (.int .i64 a1_1) ∧ w'.cell? (ad509.add ((x6_2).toNat * 2)) = some (.int .i64 ((rd_T56 l0 x6_2).f0)) ∧ w'.cell? ⟨(ad509.add ((x6_2).toNat * 2)).block, (ad509.add ((x6_2).toNat * 2)).off + 1, none⟩ = some (.int .i64 ((rd_T56 l0 x6_2).f1))) (ds := []) #[false, false, false, false, false, false, false, false, false, false, false, false, false, false] qz10 rfl rfl ⟨(blk_cell BK504.out 0).trans rfl, (blk_cell BK504.out 1).trans rfl, ((HB.out.cell (World.block_lt_of_cell? w _ hw509_0)).trans hw509_0), ((HB.out.cell (World.block_lt_of_cell? w _ hw509_1)).trans hw509_1)⟩ (fun hHeld => ?_); refine with_tabW spec_AddPoint.tab4 spec_AddPoint.bits4 (fun HT_ HW_ => ?_)
          generalize wr.drew = w16 at BK504 HB hx509_0 hx509_1 hHeld ⊢
          refine pZ 0 (some 18) (bz 14 1) ?_
          refine pZ 1 (some 19) (bz 14 3) ?_
          refine pZ 2 (some 20) (bz 14 7) ?_
          refine pZ 3 (some 21) (bz 14 15) ?_
          refine pZ 4 (some 22) (bz 14 31) ?_
          refine pZ 5 (some 23) (bz 14 63) ?_
          refine pZ 6 (some 24) (bz 14 127) ?_
          refine pZ 7 (some 25) (bz 14 255) ?_
          refine pZ 8 (some 26) (bz 14 511) ?_
          refine pZ 10 (some 28) (bz 14 1535) ?_
          refine tZ0 9 (some 27) (bz 14 2047) ?_
          refine tZ0 11 (some 29) (bz 14 4095) ?_
          refine pZ 12 (some 30) (bz 14 8191) ?_
          refine pZ 13 (some 31) (bz 14 16383) ?_
          refine done_ (done_of HT_.out qz10) ?_
          try go_wp2
          go_roundg k2
          case measure => have := HJ2.out; have := HK2.out; omega
          case rel => exact ⟨(wrap64 (x6_2 + 1)), qz23, H', ⟨by have := HJ2.out; have := HK2.out; omega⟩, ⟨by (with_reducible repeat (first | refine blk_drewN ?_ _ | refine blk_drew ?_ | refine blk_alloc ?_ _)); exact BK504.out⟩, ⟨by repeat (first | (with_reducible first | exact HB.out | apply below_alloc | apply pw_below_drewN | apply below_drew1 | refine below_set ?_ GE504.out) | exact HB.out)⟩⟩
         ·
          rw [if_neg c15] at H
          have c15b0 : decide (((rd_T56 l0 x6_2).f0) < a1_0) = false := decide_eq_false c15
          clear c15
          have H' := Aside0.mk H
          clear H
          try go_wp2
          have n0_ := Aside0.mk (blk_drew BK504.out)
          have n1_ := Aside0.mk (below_drew1 HB.out)
          clear BK504
          clear HB
          have BK504 := n0_
          have HB := n1_
          clear n0_ n1_
          have p509 : 0 ≤ (x6_2 : Int) := of_decide_eq_true qz4
          have q509 : x6_2 < (l0.length : Int) := of_decide_eq_true qz4
          obtain ⟨ad509, e509, hx509_0, hx509_1⟩ := at_T56 HR0.out x6_2 p509 q509
          have hw509_1 := hx509_1
          have hw509_0 := hx509_0
          cases e509
          replace hx509_0 := (HB.out.cell (World.block_lt_of_cell? w _ hx509_0)).trans hx509_0
          replace hx509_1 := (HB.out.cell (World.block_lt_of_cell? w _ hx509_1)).trans hx509_1
          replace p509 := eq_true p509
          replace q509 := eq_true q509
          refine start_ (n := 14) (S := fun w' => w'.cell? ⟨gb504, 0, none⟩ = some (.int .i64 a1_0) ∧ w'.cell? ⟨gb504, 1, none⟩ = some (.int .i64 a1_1) ∧ w'.cell? (ad509.add ((x6_2).toNat * 2)) = some (.int .i64 ((rd_T56 l0 x6_2).f0)) ∧ w'.cell? ⟨(ad509.add ((x6_2).toNat * 2)).block, (ad509.add ((x6_2).toNat * 2)).off + 1, none⟩ = some (.int .i64 ((rd_T56 l0 x6_2).f1))) (ds := []) #[false, false, false, false, false, false, false, false, false, false, false, false, false, false] qz10 rfl rfl ⟨(blk_cell BK504.out 0).trans rfl, (blk_cell BK504.out 1).trans rfl, ((HB.out.cell (World.block_lt_of_cell? w _ hw509_0)).trans hw509_0), ((HB.out.cell (World.block_lt_of_cell? w _ hw509_1)).trans hw509_1)⟩ (fun hHeld => ?_); refine with_tabW spec_AddPoint.tab4 spec_AddPoint.bits4 (fun HT_ HW_ => ?_)
          generalize wr.drew = w17 at BK504 HB hx509_0 hx509_1 hHeld ⊢
          refine pZ 0 (some 18) (bz 14 1) ?_
          refine pZ 1 (some 19) (bz 14 3) ?_
          refine pZ 2 (some 20) (bz 14 7) ?_
          refine pZ 3 (some 21) (bz 14 15) ?_
          refine pZ 4 (some 22) (bz 14 31) ?_
          refine pZ 5 (some 23) (bz 14 63) ?_
          refine pZ 6 (some 24) (bz 14 127) ?_
          refine pZ 7 (some 25) (bz 14 255) ?_
          refine pZ 8 (some 26) (bz 14 511) ?_
          refine pZ 10 (some 28) (bz 14 1535) ?_
          refine tZ0 9 (some 27) (bz 14 2047) ?_
          refine tZ0 11 (some 29) (bz 14 4095) ?_
          refine pZ 12 (some 30) (bz 14 8191) ?_
          refine pZ 13 (some 31) (bz 14 16383) ?_
          refine done_ (done_of HT_.out qz10) ?_
          try go_wp2
          go_meet
          case rel => exact ⟨_, (x6_2), qz23, H', ⟨by have := HJ2.out; have := HK2.out; first | omega | exact Nat.le_refl _⟩, ⟨by (with_reducible repeat (first | refine blk_drewN ?_ _ | refine blk_drew ?_ | refine blk_alloc ?_ _)); exact BK504.out⟩, ⟨by repeat (first | (with_reducible first | exact HB.out | apply below_alloc | apply pw_below_drewN | apply below_drew1 | refine below_set ?_ GE504.out) | exact HB.out)⟩⟩
        ·
         rw [if_neg c14] at H
         exact absurd H (by simp)
       ·
        rw [if_neg c13] at H
        have c13b0 : decide (x6_2 < (l0.length : Int)) = false := decide_eq_false c13
        clear c13
        (first | rw [c13b0] | (simp only [i64_w, i32_w]; rw [c13b0]) | skip)
        have H' := Aside0.mk H
        clear H
        try go_wp2
        have n0_ := Aside0.mk (blk_drew BK504.out)
        have n1_ := Aside0.mk (below_drew1 HB.out)
        clear BK504
        clear HB
        have BK504 := n0_
        have HB := n1_
        clear n0_ n1_
        refine start_ (n := 14) (S := fun w' => True) (ds := []) #[false, false, false, false, false, false, false, false, false, false, false, false, false, false] qz10 rfl rfl trivial (fun hHeld => ?_); refine with_tabW spec_AddPoint.tab4 spec_AddPoint.bits4 (fun HT_ HW_ => ?_)
        generalize wr.drew = w18 at BK504 HB hHeld ⊢
        refine pZ 0 (some 18) (bz 14 1) ?_
        refine pZ 1 (some 19) (bz 14 3) ?_
        refine pZ 2 (some 20) (bz 14 7) ?_
        refine pZ 3 (some 21) (bz 14 15) ?_
        refine pZ 4 (some 22) (bz 14 31) ?_
        refine pure_ (i := 5) (N := some 23) (v := undef) (a' := ?_) #[true, true, true, true, true, true, false, false, false, false, false, false, false, false] rfl rfl (any_of HT_.out qz10) (fun _ _ _ h => h) (Or.inr ⟨by rfl, rfl⟩) ?_ ?_
        rotate_left
        ·
         simp only [Act.put, List.setIfInBounds_toArray, List.set_cons_zero, List.set_cons_succ, i64_w, i32_w]
         rfl
        refine pure_ (i := 6) (N := some 24) (v := undef) (a' := ?_) #[true, true, true, true, true, true, true, false, false, false, false, false, false, false] rfl rfl (any_of HT_.out qz10) (fun _ _ _ h => h) (Or.inr ⟨by rfl, rfl⟩) ?_ ?_
        rotate_left
        ·
         simp only [Act.put, List.setIfInBounds_toArray, List.set_cons_zero, List.set_cons_succ, i64_w, i32_w]
         rfl
        refine pure_ (i := 7) (N := some 25) (v := undef) (a' := ?_) #[true, true, true, true, true, true, true, true, false, false, false, false, false, false] rfl rfl (any_of HT_.out qz10) (fun _ _ _ h => h) (Or.inr ⟨by rfl, rfl⟩) ?_ ?_
        rotate_left
        ·
         simp only [Act.put, List.setIfInBounds_toArray, List.set_cons_zero, List.set_cons_succ, i64_w, i32_w]
         rfl
        refine pure_ (i := 8) (N := some 26) (v := undef) (a' := ?_) #[true, true, true, true, true, true, true, true, true, false, false, false, false, false] rfl rfl (any_of HT_.out qz10) (fun _ _ _ h => h) (Or.inr ⟨by rfl, rfl⟩) ?_ ?_
        rotate_left
        ·
         simp only [Act.put, List.setIfInBounds_toArray, List.set_cons_zero, List.set_cons_succ, i64_w, i32_w]
         rfl
        refine pure_ (i := 9) (N := some 27) (v := undef) (a' := ?_) #[true, true, true, true, true, true, true, true, true, true, false, false, false, false] rfl rfl (any_of HT_.out qz10) (fun _ _ _ h => h) (Or.inr ⟨by rfl, rfl⟩) ?_ ?_
        rotate_left
        ·
         simp only [Act.put, List.setIfInBounds_toArray, List.set_cons_zero, List.set_cons_succ, i64_w, i32_w]
         rfl
        refine pure_ (i := 10) (N := some 28) (v := undef) (a' := ?_) #[true, true, true, true, true, true, true, true, true, true, true, false, false, false] rfl rfl (any_of HT_.out qz10) (fun _ _ _ h => h) (Or.inr ⟨by rfl, rfl⟩) ?_ ?_
        rotate_left
        ·
         simp only [Act.put, List.setIfInBounds_toArray, List.set_cons_zero, List.set_cons_succ, i64_w, i32_w]
         rfl
        refine pure_ (i := 11) (N := some 29) (v := undef) (a' := ?_) #[true, true, true, true, true, true, true, true, true, true, true, true, false, false] rfl rfl (any_of HT_.out qz10) (fun _ _ _ h => h) (Or.inr ⟨by rfl, rfl⟩) ?_ ?_
        rotate_left
        ·
         simp only [Act.put, List.setIfInBounds_toArray, List.set_cons_zero, List.set_cons_succ, i64_w, i32_w]
         rfl
        refine pure_ (i := 12) (N := some 30) (v := undef) (a' := ?_) #[true, true, true, true, true, true, true, true, true, true, true, true, true, false] rfl rfl (any_of HT_.out qz10) (fun _ _ _ h => h) (Or.inr ⟨by rfl, rfl⟩) ?_ ?_
        rotate_left
        ·
         simp only [Act.put, List.setIfInBounds_toArray, List.set_cons_zero, List.set_cons_succ, i64_w, i32_w]
         rfl
        refine pZ 13 (some 31) (bz 14 16383) ?_
        refine done_ (done_of HT_.out qz10) ?_
        try go_wp2
        go_meet
        case rel => exact ⟨_, (x6_2), qz23, H', ⟨by have := HJ2.out; have := HK2.out; first | omega | exact Nat.le_refl _⟩, ⟨by (with_reducible repeat (first | refine blk_drewN ?_ _ | refine blk_drew ?_ | refine blk_alloc ?_ _)); exact BK504.out⟩, ⟨by repeat (first | (with_reducible first | exact HB.out | apply below_alloc | apply pw_below_drewN | apply below_drew1 | refine below_set ?_ GE504.out) | exact HB.out)⟩⟩
    case rest =>
     clear HC12
     try clear c1
     try clear p2
     try clear c4
     try clear c5
     try clear p5
     try clear q5
     try clear hx5
     try clear c6
     try clear p6
     try clear c9
     try clear c13
     try clear c13b0
     try clear c14
     try clear c14b0
     try clear c15
     try clear c15b0
     try clear hx509_0
     try clear hx509_1
     try clear p2
     try clear p509
     try clear q509
     obtain ⟨kq, x6_11, rfl, HA, HJ11, BK504, HB⟩ := hcut
     cases kq with
     | zero => exact absurd HA.out (by simp [spec_AddPoint.j2])
     | succ kj11 =>
      have H := HA.out
      clear HA
      simp only [spec_AddPoint.j2] at H
      by_cases c19 : 0 ≤ x6_11
      ·
       rw [if_pos c19] at H
       have c19b0 := eq_true c19
       have c19b1 : decide (0 ≤ x6_11) = true := decide_eq_true c19
       clear c19
       by_cases c20 : x6_11 ≤ (l0.length : Int)
       ·
        rw [if_pos c20] at H
        have c20b0 := eq_true c20
        have c20b1 : decide (x6_11 ≤ (l0.length : Int)) = true := decide_eq_true c20
        clear c20
        obtain ⟨y510, hy510⟩ : ∃ y_ : List (S56), y_ = (l0.drop (x6_11 : Int).toNat) := ⟨_, rfl⟩
        replace H : (if (y510.length : Int) > 0 then (if 0 < (y510.length : Int) then (spec_AddPoint.j3 kj11 l0 x6_11 y510 (((rd_T56 y510 0).f0) == a1_0) a1_0 a1_1) else (none)) else (spec_AddPoint.j3 kj11 l0 x6_11 y510 false a1_0 a1_1)) = some (r1, r2) := by first | (rw [hy510]; with_reducible exact H) | (have H2_ := (Option.bind_some _ _).symm.trans H; rw [hy510]; with_reducible exact H2_) | (have H2_ := (Option.bind_some _ _).symm.trans H; with_reducible exact H2_) | with_reducible exact H | (rw [hy510]; exact H) | exact H
        have Ny510 := Aside0.mk hy510
        clear hy510
        have HC21 := Aside0.mk H
        clear H
        have q22 : (x6_11 : Int) ≤ ((l0.length : Int) : Int) := of_decide_eq_true qz4
        obtain ⟨i022, hi022, _, hsz22, _⟩ := info_parts info56
        have hroom22 : l0.length ≤ c0 := HC0.out
        have hC22 : Kd.C k56 _ A0 l0.length l0 := HR0.out
        have q022 : (0 : Int) ≤ (x6_11 : Int) := of_decide_eq_true qz4
        have hcut22 := cut_from (P := Try.prog) 24 56 .i64 Try.underlying24 hi022 2 hsz22 A0 l0.length c0 x6_11 q022 q22
        have hr22 := Kd.C_drop (m := (x6_11 : Int).toNat) (c := c0) hC22 (by omega) hroom22
        obtain ⟨A22, hA22⟩ : ∃ A1, A1 = (if c0 = (x6_11 : Int).toNat then A0 else (A0 : Option Addr).map (·.add ((x6_11 : Int).toNat * 2))) := ⟨_, rfl⟩
        obtain ⟨c22, hc22⟩ : ∃ c1, c1 = c0 - (x6_11 : Int).toNat := ⟨_, rfl⟩
        have hy22 : y510.length = l0.length - (x6_11 : Int).toNat := (by rw [Ny510.out, List.length_drop] <;> omega)
        rw [show (l0).drop (x6_11 : Int).toNat = y510 from Ny510.out.symm] at hr22
        replace hr22 : Kd.C k56 _ A22 y510.length y510 := (by rw [hA22]; exact hr22)
        rw [← hy22, ← hA22, ← hc22] at hcut22
        have HR513 := Aside0.mk hr22
        have HC513 := Aside0.mk (show y510.length ≤ c22 from by rw [hy22, hc22]; exact Nat.sub_le_sub_right hroom22 _)
        clear hr22 hC22 hroom22 hi022 hsz22 hc22
        have KY22 := Aside0.mk hy22
        have KA22 := Aside0.mk hA22
        clear hy22 hA22
        replace q22 := eq_true q22
        go_upto_region 7 with (fail)
        go_cut [48] (fun v48 wc => ∃ (kq : Nat) (x48_20 : Bool), v48 = .bool x48_20 ∧ Aside0 (spec_AddPoint.j3 kq l0 x6_11 y510 x48_20 a1_0 a1_1 = some (r1, r2)) ∧ Aside0 (kq ≤ kj11) ∧ Aside0 (wc.heap[gb504]? = some (.cells #[.int .i64 a1_0, .int .i64 a1_1] 56 (0, 0))) ∧ Aside0 (Below w.heap.size w wc))
        case first =>
         have H := HC21.out
         clear HC21
         by_cases c23 : (y510.length : Int) > 0
         ·
          rw [if_pos c23] at H
          have c23b0 : decide (0 < (y510.length : Int)) = true := decide_eq_true c23
          have c23b1 : decide (0 < y510.length) = true := decide_eq_true (by omega)
          clear c23
          (first | rw [c23b0] | (simp only [i64_w, i32_w]; rw [c23b0]) | skip)
          by_cases c24 : 0 < (y510.length : Int)
          ·
           rw [if_pos c24] at H
           have c24b0 : decide (0 < (y510.length : Int)) = true := decide_eq_true c24
           have c24b1 : decide (0 < y510.length) = true := decide_eq_true (by omega)
           clear c24
           have H' := Aside0.mk H
           clear H
           try go_wp2
           have n0_ := Aside0.mk (blk_drew BK504.out)
           have n1_ := Aside0.mk (below_drew1 HB.out)
           clear BK504
           clear HB
           have BK504 := n0_
           have HB := n1_
           clear n0_ n1_
           have p514 : 0 ≤ (0 : Int) := (by omega)
           have q514 : 0 < (y510.length : Int) := of_decide_eq_true qz4
           obtain ⟨ad514, e514, hx514_0, hx514_1⟩ := at_T56 HR513.out 0 p514 q514
           have hw514_1 := hx514_1
           (try rw [show ((0 : Int)).toNat = 0 from rfl] at hw514_1)
           (try rw [show 0 * 2 = 0 from rfl] at hw514_1)
           (try rw [Addr.add_zero'] at hw514_1)
           have hw514_0 := hx514_0
           (try rw [show ((0 : Int)).toNat = 0 from rfl] at hw514_0)
           (try rw [show 0 * 2 = 0 from rfl] at hw514_0)
           (try rw [Addr.add_zero'] at hw514_0)
           cases e514
           have qi514 : (0 < y510.length) = True := eq_true (by omega)
           (try rw [show ((0 : Int)).toNat = 0 from rfl] at hx514_0)
           (try rw [show 0 * 2 = 0 from rfl] at hx514_0)
           (try rw [Addr.add_zero'] at hx514_0)
           (try rw [show ((0 : Int)).toNat = 0 from rfl] at hx514_1)
           (try rw [show 0 * 2 = 0 from rfl] at hx514_1)
           (try rw [Addr.add_zero'] at hx514_1)
           replace hx514_0 := (HB.out.cell (World.block_lt_of_cell? w _ hx514_0)).trans hx514_0
           replace hx514_1 := (HB.out.cell (World.block_lt_of_cell? w _ hx514_1)).trans hx514_1
           replace p514 := eq_true p514
           replace q514 := eq_true q514
           refine start_ (n := 12) (S := fun w' => w'.cell? ⟨gb504, 0, none⟩ = some (.int .i64 a1_0) ∧ w'.cell? ⟨gb504, 1, none⟩ = some (.int .i64 a1_1) ∧ w'.cell? ad514 = some (.int .i64 ((rd_T56 y510 0).f0)) ∧ w'.cell? ⟨ad514.block, ad514.off + 1, none⟩ = some (.int .i64 ((rd_T56 y510 0).f1))) (ds := []) #[false, false, false, false, false, false, false, false, false, false, false, false] qz10 rfl rfl ⟨(blk_cell BK504.out 0).trans rfl, (blk_cell BK504.out 1).trans rfl, ((HB.out.cell (World.block_lt_of_cell? w _ hw514_0)).trans hw514_0), ((HB.out.cell (World.block_lt_of_cell? w _ hw514_1)).trans hw514_1)⟩ (fun hHeld => ?_); refine with_tabW spec_AddPoint.tab7 spec_AddPoint.bits7 (fun HT_ HW_ => ?_)
           generalize wc.drew = w25 at BK504 HB hx514_0 hx514_1 hHeld ⊢
           refine pZ 0 (some 37) (bz 12 1) ?_
           refine pZ 1 (some 38) (bz 12 3) ?_
           refine pZ 2 (some 39) (bz 12 7) ?_
           refine pZ 3 (some 40) (bz 12 15) ?_
           refine pZ 4 (some 41) (bz 12 31) ?_
           refine pZ 5 (some 42) (bz 12 63) ?_
           refine pZ 6 (some 43) (bz 12 127) ?_
           refine pZ 8 (some 45) (bz 12 383) ?_
           refine tZ0 7 (some 44) (bz 12 511) ?_
           refine tZ0 9 (some 46) (bz 12 1023) ?_
           refine pZ 10 (some 47) (bz 12 2047) ?_
           refine pZ 11 (some 48) (bz 12 4095) ?_
           refine done_ (done_of HT_.out qz10) ?_
           try go_wp2
           go_meet
           case rel => exact ⟨_, ((((rd_T56 y510 0).f0) == a1_0)), qz23, H', ⟨by have := HJ2.out; have := HJ11.out; first | omega | exact Nat.le_refl _⟩, ⟨by (with_reducible repeat (first | refine blk_drewN ?_ _ | refine blk_drew ?_ | refine blk_alloc ?_ _)); exact BK504.out⟩, ⟨by repeat (first | (with_reducible first | exact HB.out | apply below_alloc | apply pw_below_drewN | apply below_drew1 | refine below_set ?_ GE504.out) | exact HB.out)⟩⟩
          ·
           rw [if_neg c24] at H
           exact absurd H (by simp)
         ·
          rw [if_neg c23] at H
          have c23b0 : decide (0 < (y510.length : Int)) = false := decide_eq_false c23
          have c23b1 : decide (0 < y510.length) = false := decide_eq_false (by omega)
          clear c23
          (first | rw [c23b0] | (simp only [i64_w, i32_w]; rw [c23b0]) | skip)
          have H' := Aside0.mk H
          clear H
          try go_wp2
          have n0_ := Aside0.mk (blk_drew BK504.out)
          have n1_ := Aside0.mk (below_drew1 HB.out)
          clear BK504
          clear HB
          have BK504 := n0_
          have HB := n1_
          clear n0_ n1_
          refine start_ (n := 12) (S := fun w' => True) (ds := []) #[false, false, false, false, false, false, false, false, false, false, false, false] qz10 rfl rfl trivial (fun hHeld => ?_); refine with_tabW spec_AddPoint.tab7 spec_AddPoint.bits7 (fun HT_ HW_ => ?_)
          generalize wc.drew = w26 at BK504 HB hHeld ⊢
          refine pZ 0 (some 37) (bz 12 1) ?_
          refine pZ 1 (some 38) (bz 12 3) ?_
          refine pZ 2 (some 39) (bz 12 7) ?_
          refine pZ 3 (some 40) (bz 12 15) ?_
          refine pure_ (i := 4) (N := some 41) (v := undef) (a' := ?_) #[true, true, true, true, true, false, false, false, false, false, false, false] rfl rfl (any_of HT_.out qz10) (fun _ _ _ h => h) (Or.inr ⟨by rfl, rfl⟩) ?_ ?_
          rotate_left
          ·
           simp only [Act.put, List.setIfInBounds_toArray, List.set_cons_zero, List.set_cons_succ, i64_w, i32_w]
           rfl
          refine pure_ (i := 5) (N := some 42) (v := undef) (a' := ?_) #[true, true, true, true, true, true, false, false, false, false, false, false] rfl rfl (any_of HT_.out qz10) (fun _ _ _ h => h) (Or.inr ⟨by rfl, rfl⟩) ?_ ?_
          rotate_left
          ·
           simp only [Act.put, List.setIfInBounds_toArray, List.set_cons_zero, List.set_cons_succ, i64_w, i32_w]
           rfl
          refine pure_ (i := 6) (N := some 43) (v := undef) (a' := ?_) #[true, true, true, true, true, true, true, false, false, false, false, false] rfl rfl (any_of HT_.out qz10) (fun _ _ _ h => h) (Or.inr ⟨by rfl, rfl⟩) ?_ ?_
          rotate_left
          ·
           simp only [Act.put, List.setIfInBounds_toArray, List.set_cons_zero, List.set_cons_succ, i64_w, i32_w]
           rfl
          refine pure_ (i := 7) (N := some 44) (v := undef) (a' := ?_) #[true, true, true, true, true, true, true, true, false, false, false, false] rfl rfl (any_of HT_.out qz10) (fun _ _ _ h => h) (Or.inr ⟨by rfl, rfl⟩) ?_ ?_
          rotate_left
          ·
           simp only [Act.put, List.setIfInBounds_toArray, List.set_cons_zero, List.set_cons_succ, i64_w, i32_w]
           rfl
          refine pure_ (i := 8) (N := some 45) (v := undef) (a' := ?_) #[true, true, true, true, true, true, true, true, true, false, false, false] rfl rfl (any_of HT_.out qz10) (fun _ _ _ h => h) (Or.inr ⟨by rfl, rfl⟩) ?_ ?_
          rotate_left
          ·
           simp only [Act.put, List.setIfInBounds_toArray, List.set_cons_zero, List.set_cons_succ, i64_w, i32_w]
           rfl
          refine pure_ (i := 9) (N := some 46) (v := undef) (a' := ?_) #[true, true, true, true, true, true, true, true, true, true, false, false] rfl rfl (any_of HT_.out qz10) (fun _ _ _ h => h) (Or.inr ⟨by rfl, rfl⟩) ?_ ?_
          rotate_left
          ·
           simp only [Act.put, List.setIfInBounds_toArray, List.set_cons_zero, List.set_cons_succ, i64_w, i32_w]
           rfl
          refine pure_ (i := 10) (N := some 47) (v := undef) (a' := ?_) #[true, true, true, true, true, true, true, true, true, true, true, false] rfl rfl (any_of HT_.out qz10) (fun _ _ _ h => h) (Or.inr ⟨by rfl, rfl⟩) ?_ ?_
          rotate_left
          ·
           simp only [Act.put, List.setIfInBounds_toArray, List.set_cons_zero, List.set_cons_succ, i64_w, i32_w]
           rfl
          refine pZ 11 (some 48) (bz 12 4095) ?_
          refine done_ (done_of HT_.out qz10) ?_
          try go_wp2
          go_meet
          case rel => exact ⟨_, (false), qz23, H', ⟨by have := HJ2.out; have := HJ11.out; first | omega | exact Nat.le_refl _⟩, ⟨by (with_reducible repeat (first | refine blk_drewN ?_ _ | refine blk_drew ?_ | refine blk_alloc ?_ _)); exact BK504.out⟩, ⟨by repeat (first | (with_reducible first | exact HB.out | apply below_alloc | apply pw_below_drewN | apply below_drew1 | refine below_set ?_ GE504.out) | exact HB.out)⟩⟩
        case rest =>
         clear HC21
         try clear c1
         try clear c2
         try clear p2
         try clear q2
         try clear c4
         try clear c5
         try clear p5
         try clear q5
         try clear hx5
         try clear qi5
         try clear c6
         try clear p6
         try clear c9
         try clear c13
         try clear c13b0
         try clear c14
         try clear c14b0
         try clear c15
         try clear c15b0
         try clear c19
         try clear c19b0
         try clear c19b1
         try clear c20
         try clear c20b0
         try clear c20b1
         try clear c22
         try clear q22
         try clear c23
         try clear c23b0
         try clear c23b1
         try clear c24
         try clear c24b0
         try clear c24b1
         try clear hx509_0
         try clear hx509_1
         try clear hx514_0
         try clear hx514_1
         try clear p2
         try clear p5
         try clear p509
         try clear p514
         try clear p6
         try clear q022
         try clear q22
         try clear q5
         try clear q509
         try clear q514
         obtain ⟨kq, x48_20, rfl, HA, HJ20, BK504, HB⟩ := hcut
         cases kq with
         | zero => exact absurd HA.out (by simp [spec_AddPoint.j3])
         | succ kj20 =>
          have H := HA.out
          clear HA
          simp only [spec_AddPoint.j3] at H
          by_cases c27 : x48_20 = true
          ·
           subst c27
           have H1 : (if 1 ≤ (y510.length : Int) then ((some (y510.drop 1 : List (S56))).bind fun y515 => ((some (([] : List (S56)) : List (S56))).bind fun y519 => (if 0 ≤ x6_11 then (if x6_11 ≤ (l0.length : Int) then ((some (l0.take (x6_11 : Int).toNat : List (S56))).bind fun y522 => (if y519.length + y522.length < 8796093022208 then ((some (y519 ++ y522 : List (S56))).bind fun y526 => ((some (([(⟨a1_0, a1_1⟩ : S56)] : List (S56)) : List (S56))).bind fun y529 => (if y526.length + y529.length < 8796093022208 then ((some (y526 ++ y529 : List (S56))).bind fun y532 => (if y532.length + y515.length < 8796093022208 then ((some (y532 ++ y515 : List (S56))).bind fun y535 => ((spec_l11Good.f kj20 y535).bind fun t538 => (if t538 = true then (some (y535, true)) else (some ((([] : List (S56))), false))))) else (none))) else (none)))) else (none))) else (none)) else (none)))) else (none)) = some (r1, r2) := by rw [if_pos rfl] at H; exact H
           clear H
           have H := H1
           clear H1
           by_cases c28 : 1 ≤ (y510.length : Int)
           ·
            rw [if_pos c28] at H
            have c28b0 := eq_true c28
            have c28b1 : decide (1 ≤ (y510.length : Int)) = true := decide_eq_true c28
            clear c28
            obtain ⟨y515, hy515⟩ : ∃ y_ : List (S56), y_ = (y510.drop 1) := ⟨_, rfl⟩
            replace H : ((some (([] : List (S56)) : List (S56))).bind fun y519 => (if 0 ≤ x6_11 then (if x6_11 ≤ (l0.length : Int) then ((some (l0.take (x6_11 : Int).toNat : List (S56))).bind fun y522 => (if y519.length + y522.length < 8796093022208 then ((some (y519 ++ y522 : List (S56))).bind fun y526 => ((some (([(⟨a1_0, a1_1⟩ : S56)] : List (S56)) : List (S56))).bind fun y529 => (if y526.length + y529.length < 8796093022208 then ((some (y526 ++ y529 : List (S56))).bind fun y532 => (if y532.length + y515.length < 8796093022208 then ((some (y532 ++ y515 : List (S56))).bind fun y535 => ((spec_l11Good.f kj20 y535).bind fun t538 => (if t538 = true then (some (y535, true)) else (some ((([] : List (S56))), false))))) else (none))) else (none)))) else (none))) else (none)) else (none))) = some (r1, r2) := by first | (rw [hy515]; with_reducible exact H) | (have H2_ := (Option.bind_some _ _).symm.trans H; rw [hy515]; with_reducible exact H2_) | (have H2_ := (Option.bind_some _ _).symm.trans H; with_reducible exact H2_) | with_reducible exact H | (rw [hy515]; exact H) | exact H
            have Ny515 := Aside0.mk hy515
            clear hy515
            obtain ⟨y519, hy519⟩ : ∃ y_ : List (S56), y_ = (([] : List (S56))) := ⟨_, rfl⟩
            replace H : (if 0 ≤ x6_11 then (if x6_11 ≤ (l0.length : Int) then ((some (l0.take (x6_11 : Int).toNat : List (S56))).bind fun y522 => (if y519.length + y522.length < 8796093022208 then ((some (y519 ++ y522 : List (S56))).bind fun y526 => ((some (([(⟨a1_0, a1_1⟩ : S56)] : List (S56)) : List (S56))).bind fun y529 => (if y526.length + y529.length < 8796093022208 then ((some (y526 ++ y529 : List (S56))).bind fun y532 => (if y532.length + y515.length < 8796093022208 then ((some (y532 ++ y515 : List (S56))).bind fun y535 => ((spec_l11Good.f kj20 y535).bind fun t538 => (if t538 = true then (some (y535, true)) else (some ((([] : List (S56))), false))))) else (none))) else (none)))) else (none))) else (none)) else (none)) = some (r1, r2) := by first | (rw [hy519]; with_reducible exact H) | (have H2_ := (Option.bind_some _ _).symm.trans H; rw [hy519]; with_reducible exact H2_) | (have H2_ := (Option.bind_some _ _).symm.trans H; with_reducible exact H2_) | with_reducible exact H | (rw [hy519]; exact H) | exact H
            have Ny519 := Aside0.mk hy519
            clear hy519
            by_cases c29 : 0 ≤ x6_11
            ·
             rw [if_pos c29] at H
             have c29b0 := eq_true c29
             have c29b1 : decide (0 ≤ x6_11) = true := decide_eq_true c29
             clear c29
             by_cases c30 : x6_11 ≤ (l0.length : Int)
             ·
              rw [if_pos c30] at H
              have c30b0 := eq_true c30
              have c30b1 : decide (x6_11 ≤ (l0.length : Int)) = true := decide_eq_true c30
              clear c30
              obtain ⟨y522, hy522⟩ : ∃ y_ : List (S56), y_ = (l0.take (x6_11 : Int).toNat) := ⟨_, rfl⟩
              replace H : (if y519.length + y522.length < 8796093022208 then ((some (y519 ++ y522 : List (S56))).bind fun y526 => ((some (([(⟨a1_0, a1_1⟩ : S56)] : List (S56)) : List (S56))).bind fun y529 => (if y526.length + y529.length < 8796093022208 then ((some (y526 ++ y529 : List (S56))).bind fun y532 => (if y532.length + y515.length < 8796093022208 then ((some (y532 ++ y515 : List (S56))).bind fun y535 => ((spec_l11Good.f kj20 y535).bind fun t538 => (if t538 = true then (some (y535, true)) else (some ((([] : List (S56))), false))))) else (none))) else (none)))) else (none)) = some (r1, r2) := by first | (rw [hy522]; with_reducible exact H) | (have H2_ := (Option.bind_some _ _).symm.trans H; rw [hy522]; with_reducible exact H2_) | (have H2_ := (Option.bind_some _ _).symm.trans H; with_reducible exact H2_) | with_reducible exact H | (rw [hy522]; exact H) | exact H
              have Ny522 := Aside0.mk hy522
              clear hy522
              by_cases c31 : y519.length + y522.length < 8796093022208
              ·
               rw [if_pos c31] at H
               have LMc31 := Aside0.mk c31
               clear c31
               obtain ⟨y526, hy526⟩ : ∃ y_ : List (S56), y_ = (y519 ++ y522) := ⟨_, rfl⟩
               replace H : ((some (([(⟨a1_0, a1_1⟩ : S56)] : List (S56)) : List (S56))).bind fun y529 => (if y526.length + y529.length < 8796093022208 then ((some (y526 ++ y529 : List (S56))).bind fun y532 => (if y532.length + y515.length < 8796093022208 then ((some (y532 ++ y515 : List (S56))).bind fun y535 => ((spec_l11Good.f kj20 y535).bind fun t538 => (if t538 = true then (some (y535, true)) else (some ((([] : List (S56))), false))))) else (none))) else (none))) = some (r1, r2) := by first | (rw [hy526]; with_reducible exact H) | (have H2_ := (Option.bind_some _ _).symm.trans H; rw [hy526]; with_reducible exact H2_) | (have H2_ := (Option.bind_some _ _).symm.trans H; with_reducible exact H2_) | with_reducible exact H | (rw [hy526]; exact H) | exact H
               have Ny526 := Aside0.mk hy526
               clear hy526
               obtain ⟨y529, hy529⟩ : ∃ y_ : List (S56), y_ = (([(⟨a1_0, a1_1⟩ : S56)] : List (S56))) := ⟨_, rfl⟩
               replace H : (if y526.length + y529.length < 8796093022208 then ((some (y526 ++ y529 : List (S56))).bind fun y532 => (if y532.length + y515.length < 8796093022208 then ((some (y532 ++ y515 : List (S56))).bind fun y535 => ((spec_l11Good.f kj20 y535).bind fun t538 => (if t538 = true then (some (y535, true)) else (some ((([] : List (S56))), false))))) else (none))) else (none)) = some (r1, r2) := by first | (rw [hy529]; with_reducible exact H) | (have H2_ := (Option.bind_some _ _).symm.trans H; rw [hy529]; with_reducible exact H2_) | (have H2_ := (Option.bind_some _ _).symm.trans H; with_reducible exact H2_) | with_reducible exact H | (rw [hy529]; exact H) | exact H
               have Ny529 := Aside0.mk hy529
               clear hy529
               by_cases c32 : y526.length + y529.length < 8796093022208
               ·
                rw [if_pos c32] at H
                have LMc32 := Aside0.mk c32
                clear c32
                obtain ⟨y532, hy532⟩ : ∃ y_ : List (S56), y_ = (y526 ++ y529) := ⟨_, rfl⟩
                replace H : (if y532.length + y515.length < 8796093022208 then ((some (y532 ++ y515 : List (S56))).bind fun y535 => ((spec_l11Good.f kj20 y535).bind fun t538 => (if t538 = true then (some (y535, true)) else (some ((([] : List (S56))), false))))) else (none)) = some (r1, r2) := by first | (rw [hy532]; with_reducible exact H) | (have H2_ := (Option.bind_some _ _).symm.trans H; rw [hy532]; with_reducible exact H2_) | (have H2_ := (Option.bind_some _ _).symm.trans H; with_reducible exact H2_) | with_reducible exact H | (rw [hy532]; exact H) | exact H
                have Ny532 := Aside0.mk hy532
                clear hy532
                by_cases c33 : y532.length + y515.length < 8796093022208
                ·
                 rw [if_pos c33] at H
                 have LMc33 := Aside0.mk c33
                 clear c33
                 obtain ⟨y535, hy535⟩ : ∃ y_ : List (S56), y_ = (y532 ++ y515) := ⟨_, rfl⟩
                 replace H : ((spec_l11Good.f kj20 y535).bind fun t538 => (if t538 = true then (some (y535, true)) else (some ((([] : List (S56))), false)))) = some (r1, r2) := by first | (rw [hy535]; with_reducible exact H) | (have H2_ := (Option.bind_some _ _).symm.trans H; rw [hy535]; with_reducible exact H2_) | (have H2_ := (Option.bind_some _ _).symm.trans H; with_reducible exact H2_) | with_reducible exact H | (rw [hy535]; exact H) | exact H
                 have Ny535 := Aside0.mk hy535
                 clear hy535
                 replace H := Option.bind_eq_some_iff.mp H
                 obtain ⟨t538, A340, H⟩ := H
                 replace H : (if t538 = true then (some (y535, true)) else (some ((([] : List (S56))), false))) = some (r1, r2) := H
                 have A34 := Aside0.mk A340
                 clear A340
                 by_cases c35 : t538 = true
                 ·
                  subst c35
                  have H1 : (some (y535, true)) = some (r1, r2) := by rw [if_pos rfl] at H; exact H
                  clear H
                  have H := H1
                  clear H1
                  simp only [Option.some.injEq, Prod.mk.injEq] at H
                  obtain ⟨rfl, rfl⟩ := H
                  have q36 : (1 : Int) ≤ ((y510.length : Int) : Int) := of_decide_eq_true qz4
                  obtain ⟨i036, hi036, _, hsz36, _⟩ := info_parts info56
                  have hroom36 : y510.length ≤ c22 := HC513.out
                  have hC36 : Kd.C k56 _ A22 y510.length y510 := HR513.out
                  have hcut36 := cut_from (P := Try.prog) 24 56 .i64 Try.underlying24 hi036 2 hsz36 A22 y510.length c22 1 (by omega) q36
                  have hr36 := Kd.C_drop (m := (1 : Int).toNat) (c := c22) hC36 (by omega) hroom36
                  obtain ⟨A36, hA36⟩ : ∃ A1, A1 = (if c22 = (1 : Int).toNat then A22 else (A22 : Option Addr).map (·.add ((1 : Int).toNat * 2))) := ⟨_, rfl⟩
                  obtain ⟨c36, hc36⟩ : ∃ c1, c1 = c22 - (1 : Int).toNat := ⟨_, rfl⟩
                  have hy36 : y515.length = y510.length - (1 : Int).toNat := (by rw [Ny515.out, List.length_drop] <;> omega)
                  rw [show (y510).drop (1 : Int).toNat = y515 from Ny515.out.symm] at hr36
                  replace hr36 : Kd.C k56 _ A36 y515.length y515 := (by rw [hA36]; exact hr36)
                  rw [← hy36, ← hA36, ← hc36] at hcut36
                  have HR518 := Aside0.mk hr36
                  have HC518 := Aside0.mk (show y515.length ≤ c36 from by rw [hy36, hc36]; exact Nat.sub_le_sub_right hroom36 _)
                  clear hr36 hC36 hroom36 hi036 hsz36 hc36
                  have KY36 := Aside0.mk hy36
                  have KA36 := Aside0.mk hA36
                  clear hy36 hA36
                  replace q36 := eq_true q36
                  try go_wp2
                  have n0_ := Aside0.mk (blk_drew BK504.out)
                  have n1_ := Aside0.mk (below_drew1 HB.out)
                  clear BK504
                  clear HB
                  have BK504 := n0_
                  have HB := n1_
                  clear n0_ n1_
                  have q38 : (x6_11 : Int) ≤ ((l0.length : Int) : Int) := of_decide_eq_true qz4
                  obtain ⟨i038, hi038, _, hsz38, _⟩ := info_parts info56
                  have hroom38 : l0.length ≤ c0 := HC0.out
                  have hC38 : Kd.C k56 _ A0 l0.length l0 := HR0.out
                  have hcut38 := cut_to (P := Try.prog) 24 56 .i64 Try.underlying24 hi038 A0 l0.length c0 x6_11 (of_decide_eq_true qz4) q38 hroom38
                  have hr38 := Kd.C_take (m := (x6_11 : Int).toNat) hC38 (by omega)
                  have hy38 : y522.length = (x6_11 : Int).toNat := (by rw [Ny522.out, List.length_take]; omega)
                  rw [← Ny522.out] at hr38
                  rw [← hy38] at hcut38
                  have HR525 := Aside0.mk hr38
                  have HC525 := Aside0.mk (show y522.length ≤ c0 from by omega)
                  clear hr38 hC38 hroom38 hi038 hsz38
                  have KY38 := Aside0.mk hy38
                  clear hy38
                  replace q38 := eq_true q38
                  refine start_ (n := 11) (S := fun w' => w'.cell? ⟨gb504, 0, none⟩ = some (.int .i64 a1_0) ∧ w'.cell? ⟨gb504, 1, none⟩ = some (.int .i64 a1_1)) (ds := []) #[false, false, false, false, false, false, false, false, false, false, false] qz10 rfl rfl ⟨(blk_cell BK504.out 0).trans rfl, (blk_cell BK504.out 1).trans rfl⟩ (fun hHeld => ?_); refine with_tabW spec_AddPoint.tab9 spec_AddPoint.bits9 (fun HT_ HW_ => ?_)
                  generalize wc.drew = w37 at BK504 HB HR525 hHeld ⊢
                  refine pZ 1 (some 52) (bz 11 2) ?_
                  refine pZ 2 (some 53) (bz 11 6) ?_
                  refine pZ 3 (some 54) (bz 11 14) ?_
                  refine pZ 8 (some 59) (bz 11 270) ?_
                  refine tZ2 5 (some 56) (bz 11 302) ?_
                  refine join_ (σ := Value × Value × Value) 3 #[true, true, true, true, true, true, true, false, true, false, false] (fun s_ => [(51, s_.1), (55, s_.2.1), (57, s_.2.2)]) (fun s_ w' => (w'.cell? ⟨gb504, 0, none⟩ = some (.int .i64 a1_0) ∧ w'.cell? ⟨gb504, 1, none⟩ = some (.int .i64 a1_1)) ∧ (Kd.R k56 56 w' w.heap.size (fun k_ => some k_ ≠ (s_.2.2 : Value).ownBlock ∧ k_ ≠ gb504) s_.2.1 y526) ∧ (Kd.R k56 56 w' w.heap.size (fun k_ => some k_ ≠ (s_.2.1 : Value).ownBlock ∧ k_ ≠ gb504) s_.2.2 y529) ∧ (w'.heap[gb504]? = some (.cells #[.int .i64 a1_0, .int .i64 a1_1] 56 (0, 0))) ∧ (Below w.heap.size w w')) ?_ ?_
                  rotate_left
                  ·
                   intro hCont
                   refine two_ (i := 0) (j := 6) (Ni := some 51) (Nj := some 57) #[true, true, true, true, false, true, false, false, true, false, false] #[false, true, true, true, false, true, true, false, true, false, false] rfl rfl rfl rfl (two_of HT_.out qz10) (by decide) (by decide) (fun K hK => ?_) (fun K hK => ?_)
                   ·
                    skip
                    refine Kd.R_lit_step k56 _ 56 ?hg (N := 51) ?hd (xs := ([] : List (S56))) (inner := []) (ok := fun _ => True) (okp := fun _ => True) ?hr ?hp (fun _ hk => hk) trivial (Below.refl _ _) (Nat.le_refl _) (by simp) ?_; (case hd => rfl); (case hg => rfl); (case hr => first | (go_simp; done) | (go_simp; rfl)); (case hp => exact (Reps.none _ _))
                    intro v520 w39 ho40 hb hg_ hnew_
                    clear hg_ hnew_
                    (first | rw [← Ny519.out] at ho40 | (simp only [Int.reduceToNat] at ho40; rw [← Ny519.out] at ho40))
                    have n0_ := Aside0.mk (Kd.R_lower (Kd.R_newB ho40 (g := gb504) (o := .cells #[.int .i64 a1_0, .int .i64 a1_1] 56 (0, 0)) qz3) (below_size qz0))
                    have n1_ := Aside0.mk (blk_below (g := gb504) (o := .cells #[.int .i64 a1_0, .int .i64 a1_1] 56 (0, 0)) qz3 hb)
                    have n2_ := Aside0.mk (below_step qz0 hb)
                    clear BK504
                    clear HB
                    have HO521 := n0_
                    have BK504 := n1_
                    have HB := n2_
                    clear n0_ n1_ n2_
                    clear hb ho40
                    refine hK.out _ _ ⟨(blk_cell BK504.out 0).trans rfl, (blk_cell BK504.out 1).trans rfl⟩ (fun hHeld => ?_)
                    clear hK K
                    refine norm_ (a' := ?_) ?_ ?_
                    rotate_left
                    ·
                     show Act.put _ (some 51) _ = _
                     simp only [Act.put, List.setIfInBounds_toArray, List.set_cons_zero, List.set_cons_succ, i64_w, i32_w]
                     rfl
                    refine two_ (i := 4) (j := 6) (Ni := some 55) (Nj := some 57) #[true, true, true, true, true, true, false, false, true, false, false] #[true, true, true, true, false, true, true, false, true, false, false] rfl rfl rfl rfl (two_of HT_.out qz10) (by decide) (by decide) (fun K hK => ?_) (fun K hK => ?_)
                    ·
                     skip
                     refine Kd.R_append_rows_step k56 (w0 := w) w.heap.size (by rfl) (.tmp 51) (.tmp 54) 24 56 (.agg #[(.int .i64 0), (.int .i64 0)]) 16 rfl Try.underlying24 info56 rfl (by decide) (by omega) v520 y519 y522 _ _ _ (fun k_ => k_ ≠ gb504) (fun _ => False) rfl rfl ?aO ?aR (fun _ _ h => h) (fun _ h => h.elim) ?aF ?aB ?aS ?aL ?_
                     (case aR => repeat (first | exact (Kd.C_below HR525.out HB.out) | (with_reducible refine Kd.C_alloc ?_ _) | (with_reducible refine Kd.C_drewN ?_ _) | (with_reducible refine Kd.C_drew ?_)))
                     (case aB => exact qz0)
                     (case aF => exact (fun k_ hk => Kd.freshB (g := gb504) (o := .cells #[.int .i64 a1_0, .int .i64 a1_1] 56 (0, 0)) qz3 k_ hk))
                     (case aO => exact (by (with_reducible repeat (first | apply Kd.R_alloc | apply Kd.R_drewN | apply Kd.R_drew)); exact Kd.R_mono HO521.out (fun _ hk => hk.2)))
                     (case aS => exact (below_size qz0))
                     (case aL => have := LMc31.out; omega)
                     intro v527 w41 ho hb hg hat
                     rw [← Ny526.out] at ho
                     have n0_ := Aside0.mk (blk_grown (g := gb504) (o := .cells #[.int .i64 a1_0, .int .i64 a1_1] 56 (0, 0)) qz3 hg (Kd.R_away HO521.out (fun _ hk => hk.2)))
                     have n1_ := Aside0.mk (hb)
                     have n2_ := Aside0.mk (ho)
                     clear BK504
                     clear HB
                     clear HO521
                     have BK504 := n0_
                     have HB := n1_
                     have HO528 := n2_
                     clear n0_ n1_ n2_
                     clear ho hb hg hat
                     refine hK.out _ _ ⟨(blk_cell BK504.out 0).trans rfl, (blk_cell BK504.out 1).trans rfl⟩ (fun hHeld => ?_)
                     clear hK K
                     refine norm_ (a' := ?_) ?_ ?_
                     rotate_left
                     ·
                      show Act.put _ (some 55) _ = _
                      simp only [Act.put, List.setIfInBounds_toArray, List.set_cons_zero, List.set_cons_succ, i64_w, i32_w]
                      rfl
                     refine one_ (i := 6) (N := some 57) #[true, true, true, true, true, true, true, false, true, false, false] rfl rfl (one_of HT_.out qz10) (by decide) (fun K hK => ?_)
                     refine Kd.R_lit_step k56 _ 56 ?hg (N := 57) ?hd (xs := ([(⟨a1_0, a1_1⟩ : S56)] : List (S56))) (inner := [.int .i64 a1_0, .int .i64 a1_1]) (ok := fun _ => True) (okp := fun _ => True) ?hr ?hp (fun _ hk => hk) trivial (Below.refl _ _) (Nat.le_refl _) (by simp) ?_; (case hd => rfl); (case hg => rfl); (case hr => first | (go_simp; done) | (go_simp; rfl)); (case hp => exact (Reps.c2 (show Kd.M k56 _ _ _ (⟨a1_0, a1_1⟩ : S56) [.int .i64 a1_0, .int .i64 a1_1] from (k56_mkM _ _ _ (⟨a1_0, a1_1⟩ : S56) )) (Reps.none _ _)))
                     intro v530 w42 ho43 hb hg_ hnew_
                     clear hg_ hnew_
                     (first | rw [← Ny529.out] at ho43 | (simp only [Int.reduceToNat] at ho43; rw [← Ny529.out] at ho43))
                     have n0_ := Aside0.mk (Kd.R_elder' qz48 (Kd.R_base ho43) hb)
                     have n1_ := Aside0.mk (Kd.R_lower (Kd.R_newB (Kd.R_new' ho43 (Kd.R_lt qz48)) (g := gb504) (o := .cells #[.int .i64 a1_0, .int .i64 a1_1] 56 (0, 0)) qz3) (below_size qz0))
                     have n2_ := Aside0.mk (blk_below (g := gb504) (o := .cells #[.int .i64 a1_0, .int .i64 a1_1] 56 (0, 0)) qz3 hb)
                     have n3_ := Aside0.mk (below_step qz0 hb)
                     clear HO528
                     clear BK504
                     clear HB
                     have HO528 := n0_
                     have HO531 := n1_
                     have BK504 := n2_
                     have HB := n3_
                     clear n0_ n1_ n2_ n3_
                     clear hb ho43
                     refine hK.out _ _ ⟨(blk_cell BK504.out 0).trans rfl, (blk_cell BK504.out 1).trans rfl⟩ (fun hHeld => ?_)
                     clear hK K
                     refine norm_ (a' := ?_) ?_ ?_
                     rotate_left
                     ·
                      show Act.put _ (some 57) _ = _
                      simp only [Act.put, List.setIfInBounds_toArray, List.set_cons_zero, List.set_cons_succ, i64_w, i32_w]
                      rfl
                     exact norm_ qz25 (hCont (v520, v527, v530) _ ⟨hHeld, (by (with_reducible repeat (first | apply Kd.R_alloc | apply Kd.R_drewN | apply Kd.R_drew)); exact Kd.R_mono HO528.out (fun _ hk => ⟨hk.2, hk.1⟩)), qz64, qz3, qz0⟩)
                    ·
                     skip
                     refine Kd.R_lit_step k56 _ 56 ?hg (N := 57) ?hd (xs := ([(⟨a1_0, a1_1⟩ : S56)] : List (S56))) (inner := [.int .i64 a1_0, .int .i64 a1_1]) (ok := fun _ => True) (okp := fun _ => True) ?hr ?hp (fun _ hk => hk) trivial (Below.refl _ _) (Nat.le_refl _) (by simp) ?_; (case hd => rfl); (case hg => rfl); (case hr => first | (go_simp; done) | (go_simp; rfl)); (case hp => exact (Reps.c2 (show Kd.M k56 _ _ _ (⟨a1_0, a1_1⟩ : S56) [.int .i64 a1_0, .int .i64 a1_1] from (k56_mkM _ _ _ (⟨a1_0, a1_1⟩ : S56) )) (Reps.none _ _)))
                     intro v530 w41 ho42 hb hg_ hnew_
                     clear hg_ hnew_
                     (first | rw [← Ny529.out] at ho42 | (simp only [Int.reduceToNat] at ho42; rw [← Ny529.out] at ho42))
                     have n0_ := Aside0.mk (Kd.R_elder' qz73 (Kd.R_base ho42) hb)
                     have n1_ := Aside0.mk (Kd.R_lower (Kd.R_newB (Kd.R_new' ho42 (Kd.R_lt qz73)) (g := gb504) (o := .cells #[.int .i64 a1_0, .int .i64 a1_1] 56 (0, 0)) qz3) (below_size qz0))
                     have n2_ := Aside0.mk (blk_below (g := gb504) (o := .cells #[.int .i64 a1_0, .int .i64 a1_1] 56 (0, 0)) qz3 hb)
                     have n3_ := Aside0.mk (below_step qz0 hb)
                     clear HO521
                     clear BK504
                     clear HB
                     have HO521 := n0_
                     have HO531 := n1_
                     have BK504 := n2_
                     have HB := n3_
                     clear n0_ n1_ n2_ n3_
                     clear hb ho42
                     refine hK.out _ _ ⟨(blk_cell BK504.out 0).trans rfl, (blk_cell BK504.out 1).trans rfl⟩ (fun hHeld => ?_)
                     clear hK K
                     refine norm_ (a' := ?_) ?_ ?_
                     rotate_left
                     ·
                      show Act.put _ (some 57) _ = _
                      simp only [Act.put, List.setIfInBounds_toArray, List.set_cons_zero, List.set_cons_succ, i64_w, i32_w]
                      rfl
                     refine one_ (i := 4) (N := some 55) #[true, true, true, true, true, true, true, false, true, false, false] rfl rfl (one_of HT_.out qz10) (by decide) (fun K hK => ?_)
                     refine Kd.R_append_rows_step k56 (w0 := w) w.heap.size (by rfl) (.tmp 51) (.tmp 54) 24 56 (.agg #[(.int .i64 0), (.int .i64 0)]) 16 rfl Try.underlying24 info56 rfl (by decide) (by omega) v520 y519 y522 _ _ _ (fun k_ => some k_ ≠ (v530 : Value).ownBlock ∧ k_ ≠ gb504) (fun _ => False) rfl rfl ?aO ?aR (fun _ _ h => h) (fun _ h => h.elim) ?aF ?aB ?aS ?aL ?_
                     (case aR => repeat (first | exact (Kd.C_below HR525.out HB.out) | (with_reducible refine Kd.C_alloc ?_ _) | (with_reducible refine Kd.C_drewN ?_ _) | (with_reducible refine Kd.C_drew ?_)))
                     (case aB => exact qz0)
                     (case aF => exact (fun k_ hk => ⟨Kd.fresh' (Kd.R_lt qz20) k_ hk, Kd.freshB (g := gb504) (o := .cells #[.int .i64 a1_0, .int .i64 a1_1] 56 (0, 0)) qz3 k_ hk⟩))
                     (case aO => exact (by (with_reducible repeat (first | apply Kd.R_alloc | apply Kd.R_drewN | apply Kd.R_drew)); exact Kd.R_mono HO521.out (fun _ hk => ⟨hk.2, hk.1.2⟩)))
                     (case aS => exact (below_size qz0))
                     (case aL => have := LMc31.out; omega)
                     intro v527 w43 ho hb hg hat
                     rw [← Ny526.out] at ho
                     have n0_ := Aside0.mk (blk_grown (g := gb504) (o := .cells #[.int .i64 a1_0, .int .i64 a1_1] 56 (0, 0)) qz3 hg (Kd.R_away HO521.out (fun _ hk => hk.1.2)))
                     have n1_ := Aside0.mk (Kd.R_after (ok := (fun k_ => k_ ≠ gb504)) (by (with_reducible repeat (first | apply Kd.R_alloc | apply Kd.R_drewN | apply Kd.R_drew)); exact Kd.R_mono HO531.out (fun _ hk => ⟨hk.2, hk.1.2⟩)) hg hat)
                     have n2_ := Aside0.mk (hb)
                     have n3_ := Aside0.mk (ho)
                     clear BK504
                     clear HO531
                     clear HB
                     clear HO521
                     have BK504 := n0_
                     have HO531 := n1_
                     have HB := n2_
                     have HO528 := n3_
                     clear n0_ n1_ n2_ n3_
                     clear ho hb hg hat
                     refine hK.out _ _ ⟨(blk_cell BK504.out 0).trans rfl, (blk_cell BK504.out 1).trans rfl⟩ (fun hHeld => ?_)
                     clear hK K
                     refine norm_ (a' := ?_) ?_ ?_
                     rotate_left
                     ·
                      show Act.put _ (some 55) _ = _
                      simp only [Act.put, List.setIfInBounds_toArray, List.set_cons_zero, List.set_cons_succ, i64_w, i32_w]
                      rfl
                     exact norm_ qz25 (hCont (v520, v527, v530) _ ⟨hHeld, qz48, qz56, qz3, qz0⟩)
                   ·
                    skip
                    refine Kd.R_lit_step k56 _ 56 ?hg (N := 57) ?hd (xs := ([(⟨a1_0, a1_1⟩ : S56)] : List (S56))) (inner := [.int .i64 a1_0, .int .i64 a1_1]) (ok := fun _ => True) (okp := fun _ => True) ?hr ?hp (fun _ hk => hk) trivial (Below.refl _ _) (Nat.le_refl _) (by simp) ?_; (case hd => rfl); (case hg => rfl); (case hr => first | (go_simp; done) | (go_simp; rfl)); (case hp => exact (Reps.c2 (show Kd.M k56 _ _ _ (⟨a1_0, a1_1⟩ : S56) [.int .i64 a1_0, .int .i64 a1_1] from (k56_mkM _ _ _ (⟨a1_0, a1_1⟩ : S56) )) (Reps.none _ _)))
                    intro v530 w39 ho40 hb hg_ hnew_
                    clear hg_ hnew_
                    (first | rw [← Ny529.out] at ho40 | (simp only [Int.reduceToNat] at ho40; rw [← Ny529.out] at ho40))
                    have n0_ := Aside0.mk (Kd.R_lower (Kd.R_newB ho40 (g := gb504) (o := .cells #[.int .i64 a1_0, .int .i64 a1_1] 56 (0, 0)) qz3) (below_size qz0))
                    have n1_ := Aside0.mk (blk_below (g := gb504) (o := .cells #[.int .i64 a1_0, .int .i64 a1_1] 56 (0, 0)) qz3 hb)
                    have n2_ := Aside0.mk (below_step qz0 hb)
                    clear BK504
                    clear HB
                    have HO531 := n0_
                    have BK504 := n1_
                    have HB := n2_
                    clear n0_ n1_ n2_
                    clear hb ho40
                    refine hK.out _ _ ⟨(blk_cell BK504.out 0).trans rfl, (blk_cell BK504.out 1).trans rfl⟩ (fun hHeld => ?_)
                    clear hK K
                    refine norm_ (a' := ?_) ?_ ?_
                    rotate_left
                    ·
                     show Act.put _ (some 57) _ = _
                     simp only [Act.put, List.setIfInBounds_toArray, List.set_cons_zero, List.set_cons_succ, i64_w, i32_w]
                     rfl
                    refine one_ (i := 0) (N := some 51) #[true, true, true, true, false, true, true, false, true, false, false] rfl rfl (one_of HT_.out qz10) (by decide) (fun K hK => ?_)
                    refine Kd.R_lit_step k56 _ 56 ?hg (N := 51) ?hd (xs := ([] : List (S56))) (inner := []) (ok := fun _ => True) (okp := fun _ => True) ?hr ?hp (fun _ hk => hk) trivial (Below.refl _ _) (Nat.le_refl _) (by simp) ?_; (case hd => rfl); (case hg => rfl); (case hr => first | (go_simp; done) | (go_simp; rfl)); (case hp => exact (Reps.none _ _))
                    intro v520 w41 ho42 hb hg_ hnew_
                    clear hg_ hnew_
                    (first | rw [← Ny519.out] at ho42 | (simp only [Int.reduceToNat] at ho42; rw [← Ny519.out] at ho42))
                    have n0_ := Aside0.mk (Kd.R_elder' qz20 (Kd.R_base ho42) hb)
                    have n1_ := Aside0.mk (Kd.R_lower (Kd.R_newB (Kd.R_new' ho42 (Kd.R_lt qz20)) (g := gb504) (o := .cells #[.int .i64 a1_0, .int .i64 a1_1] 56 (0, 0)) qz3) (below_size qz0))
                    have n2_ := Aside0.mk (blk_below (g := gb504) (o := .cells #[.int .i64 a1_0, .int .i64 a1_1] 56 (0, 0)) qz3 hb)
                    have n3_ := Aside0.mk (below_step qz0 hb)
                    clear HO531
                    clear BK504
                    clear HB
                    have HO531 := n0_
                    have HO521 := n1_
                    have BK504 := n2_
                    have HB := n3_
                    clear n0_ n1_ n2_ n3_
                    clear hb ho42
                    refine hK.out _ _ ⟨(blk_cell BK504.out 0).trans rfl, (blk_cell BK504.out 1).trans rfl⟩ (fun hHeld => ?_)
                    clear hK K
                    refine norm_ (a' := ?_) ?_ ?_
                    rotate_left
                    ·
                     show Act.put _ (some 51) _ = _
                     simp only [Act.put, List.setIfInBounds_toArray, List.set_cons_zero, List.set_cons_succ, i64_w, i32_w]
                     rfl
                    refine one_ (i := 4) (N := some 55) #[true, true, true, true, true, true, true, false, true, false, false] rfl rfl (one_of HT_.out qz10) (by decide) (fun K hK => ?_)
                    refine Kd.R_append_rows_step k56 (w0 := w) w.heap.size (by rfl) (.tmp 51) (.tmp 54) 24 56 (.agg #[(.int .i64 0), (.int .i64 0)]) 16 rfl Try.underlying24 info56 rfl (by decide) (by omega) v520 y519 y522 _ _ _ (fun k_ => some k_ ≠ (v530 : Value).ownBlock ∧ k_ ≠ gb504) (fun _ => False) rfl rfl ?aO ?aR (fun _ _ h => h) (fun _ h => h.elim) ?aF ?aB ?aS ?aL ?_
                    (case aR => repeat (first | exact (Kd.C_below HR525.out HB.out) | (with_reducible refine Kd.C_alloc ?_ _) | (with_reducible refine Kd.C_drewN ?_ _) | (with_reducible refine Kd.C_drew ?_)))
                    (case aB => exact qz0)
                    (case aF => exact (fun k_ hk => ⟨Kd.fresh' (Kd.R_lt qz20) k_ hk, Kd.freshB (g := gb504) (o := .cells #[.int .i64 a1_0, .int .i64 a1_1] 56 (0, 0)) qz3 k_ hk⟩))
                    (case aO => exact (by (with_reducible repeat (first | apply Kd.R_alloc | apply Kd.R_drewN | apply Kd.R_drew)); exact Kd.R_mono HO521.out (fun _ hk => ⟨hk.1.2, hk.2⟩)))
                    (case aS => exact (below_size qz0))
                    (case aL => have := LMc31.out; omega)
                    intro v527 w43 ho hb hg hat
                    rw [← Ny526.out] at ho
                    have n0_ := Aside0.mk (blk_grown (g := gb504) (o := .cells #[.int .i64 a1_0, .int .i64 a1_1] 56 (0, 0)) qz3 hg (Kd.R_away HO521.out (fun _ hk => hk.2)))
                    have n1_ := Aside0.mk (Kd.R_after (ok := (fun k_ => k_ ≠ gb504)) qz64 hg hat)
                    have n2_ := Aside0.mk (hb)
                    have n3_ := Aside0.mk (ho)
                    clear BK504
                    clear HO531
                    clear HB
                    clear HO521
                    have BK504 := n0_
                    have HO531 := n1_
                    have HB := n2_
                    have HO528 := n3_
                    clear n0_ n1_ n2_ n3_
                    clear ho hb hg hat
                    refine hK.out _ _ ⟨(blk_cell BK504.out 0).trans rfl, (blk_cell BK504.out 1).trans rfl⟩ (fun hHeld => ?_)
                    clear hK K
                    refine norm_ (a' := ?_) ?_ ?_
                    rotate_left
                    ·
                     show Act.put _ (some 55) _ = _
                     simp only [Act.put, List.setIfInBounds_toArray, List.set_cons_zero, List.set_cons_succ, i64_w, i32_w]
                     rfl
                    exact norm_ qz25 (hCont (v520, v527, v530) _ ⟨hHeld, qz48, qz56, qz3, qz0⟩)
                  rintro ⟨v520, v527, v530⟩ w44 ⟨hS_, h0_, h1_, h2_, h3_⟩
                  have n0_ : Aside0 (Kd.R k56 56 w44 w.heap.size (fun k_ => some k_ ≠ (v530 : Value).ownBlock ∧ k_ ≠ gb504) v527 y526) := ⟨h0_⟩
                  have n1_ : Aside0 (Kd.R k56 56 w44 w.heap.size (fun k_ => some k_ ≠ (v527 : Value).ownBlock ∧ k_ ≠ gb504) v530 y529) := ⟨h1_⟩
                  have n2_ : Aside0 (w44.heap[gb504]? = some (.cells #[.int .i64 a1_0, .int .i64 a1_1] 56 (0, 0))) := ⟨h2_⟩
                  have n3_ : Aside0 (Below w.heap.size w w44) := ⟨h3_⟩
                  clear BK504
                  clear HB
                  clear h0_ h1_ h2_ h3_
                  have HO528 := n0_
                  have HO531 := n1_
                  have BK504 := n2_
                  have HB := n3_
                  clear n0_ n1_ n2_ n3_
                  have hHeld : w44.cell? ⟨gb504, 0, none⟩ = some (.int .i64 a1_0) ∧ w44.cell? ⟨gb504, 1, none⟩ = some (.int .i64 a1_1) := hS_
                  obtain ⟨Ao46, co46, eo46⟩ := Kd.R_slice HO531.out
                  (first | subst eo46 | (injection eo46 with f1_ f2_ f3_; have f4_ := f1_.symm; have f5_ := f3_.symm; clear f1_ f2_ f3_; subst f4_; subst f5_))
                  refine norm_ (a' := ?_) ?_ ?_
                  rotate_left
                  ·
                   simp only [putAll, Act.put, List.setIfInBounds_toArray, List.set_cons_zero, List.set_cons_succ]
                   rfl
                  refine one_ (i := 7) (N := some 58) #[true, true, true, true, true, true, true, true, true, false, false] rfl rfl (one_of HT_.out qz10) (by decide) (fun K hK => ?_)
                  refine Kd.R_append_rows_step k56 (w0 := w) w.heap.size (by rfl) (.tmp 55) (.tmp 57) 24 56 (.agg #[(.int .i64 0), (.int .i64 0)]) 16 rfl Try.underlying24 info56 rfl (by decide) (by omega) v527 y526 y529 _ _ _ (fun k_ => some k_ ≠ (.slice Ao46 y529.length co46 : Value).ownBlock ∧ k_ ≠ gb504) (fun _ => False) rfl rfl ?aO ?aR (fun _ _ h => h) (fun _ h => h.elim) ?aF ?aB ?aS ?aL ?_
                  (case aR => repeat (first | exact (Kd.R_reads' HO531.out).2.2 | (with_reducible refine Kd.C_alloc ?_ _) | (with_reducible refine Kd.C_drewN ?_ _) | (with_reducible refine Kd.C_drew ?_)))
                  (case aB => exact qz0)
                  (case aF => exact (fun k_ hk => ⟨Kd.fresh' (Kd.R_lt qz20) k_ hk, Kd.freshB (g := gb504) (o := .cells #[.int .i64 a1_0, .int .i64 a1_1] 56 (0, 0)) qz3 k_ hk⟩))
                  (case aO => exact qz48)
                  (case aS => exact (below_size qz0))
                  (case aL => have := LMc32.out; omega)
                  intro v533 w45 ho hb hg hat
                  rw [← Ny532.out] at ho
                  have n0_ := Aside0.mk (blk_grown (g := gb504) (o := .cells #[.int .i64 a1_0, .int .i64 a1_1] 56 (0, 0)) qz3 hg (Kd.R_away HO528.out (fun _ hk => hk.2)))
                  have n1_ := Aside0.mk (Kd.R_after (ok := (fun k_ => k_ ≠ gb504)) qz56 hg hat)
                  have n2_ := Aside0.mk (hb)
                  have n3_ := Aside0.mk (ho)
                  clear BK504
                  clear HO531
                  clear HB
                  clear HO528
                  have BK504 := n0_
                  have HO531 := n1_
                  have HB := n2_
                  have HO534 := n3_
                  clear n0_ n1_ n2_ n3_
                  clear ho hb hg hat
                  refine hK.out _ _ ⟨(blk_cell BK504.out 0).trans rfl, (blk_cell BK504.out 1).trans rfl⟩ (fun hHeld => ?_)
                  clear hK K
                  refine norm_ (a' := ?_) ?_ ?_
                  rotate_left
                  ·
                   show Act.put _ (some 58) _ = _
                   simp only [Act.put, List.setIfInBounds_toArray, List.set_cons_zero, List.set_cons_succ, i64_w, i32_w]
                   rfl
                  refine one_ (i := 9) (N := some 60) #[true, true, true, true, true, true, true, true, true, true, false] rfl rfl (one_of HT_.out qz10) (by decide) (fun K hK => ?_)
                  refine Kd.R_append_rows_step k56 (w0 := w) w.heap.size (by rfl) (.tmp 58) (.tmp 59) 24 56 (.agg #[(.int .i64 0), (.int .i64 0)]) 16 rfl Try.underlying24 info56 rfl (by decide) (by omega) v533 y532 y515 _ _ _ (fun k_ => some k_ ≠ (.slice Ao46 y529.length co46 : Value).ownBlock ∧ k_ ≠ gb504) (fun _ => False) rfl rfl ?aO ?aR (fun _ _ h => h) (fun _ h => h.elim) ?aF ?aB ?aS ?aL ?_
                  (case aR => repeat (first | exact (Kd.C_below HR518.out HB.out) | (with_reducible refine Kd.C_alloc ?_ _) | (with_reducible refine Kd.C_drewN ?_ _) | (with_reducible refine Kd.C_drew ?_)))
                  (case aB => exact qz0)
                  (case aF => exact (fun k_ hk => ⟨Kd.fresh' (Kd.R_lt qz20) k_ hk, Kd.freshB (g := gb504) (o := .cells #[.int .i64 a1_0, .int .i64 a1_1] 56 (0, 0)) qz3 k_ hk⟩))
                  (case aO => exact (by (with_reducible repeat (first | apply Kd.R_alloc | apply Kd.R_drewN | apply Kd.R_drew)); exact HO534.out))
                  (case aS => exact (below_size qz0))
                  (case aL => have := LMc33.out; omega)
                  intro v536 w47 ho hb hg hat
                  rw [← Ny535.out] at ho
                  have n0_ := Aside0.mk (blk_grown (g := gb504) (o := .cells #[.int .i64 a1_0, .int .i64 a1_1] 56 (0, 0)) qz3 hg (Kd.R_away HO534.out (fun _ hk => hk.2)))
                  have n1_ := Aside0.mk (Kd.R_after (ok := (fun k_ => k_ ≠ gb504)) qz20 hg hat)
                  have n2_ := Aside0.mk (hb)
                  have n3_ := Aside0.mk (ho)
                  clear BK504
                  clear HO531
                  clear HB
                  clear HO534
                  have BK504 := n0_
                  have HO531 := n1_
                  have HB := n2_
                  have HO537 := n3_
                  clear n0_ n1_ n2_ n3_
                  clear ho hb hg hat
                  refine hK.out _ _ ⟨(blk_cell BK504.out 0).trans rfl, (blk_cell BK504.out 1).trans rfl⟩ (fun hHeld => ?_)
                  clear hK K
                  refine norm_ (a' := ?_) ?_ ?_
                  rotate_left
                  ·
                   show Act.put _ (some 60) _ = _
                   simp only [Act.put, List.setIfInBounds_toArray, List.set_cons_zero, List.set_cons_succ, i64_w, i32_w]
                   rfl
                  refine pZ 10 (some 8) (bz 11 2047) ?_
                  refine done_ (done_of HT_.out qz10) ?_
                  obtain ⟨Ao48, co48, eo48⟩ := Kd.R_slice HO537.out
                  subst eo48
                  try go_wp2_with (first | ((with_reducible refine gate_callee (f := 54) rfl ?_); refine goesL_ (some 62) rfl rfl Try.func54 qz10 rfl #[.slice Ao48 y535.length co48] rfl qz2 ?_; (with_reducible refine (spec_l11Good.calls kj20 _ _ y535 true _ ?side1 ?side2 A34.out).mono ?_); (case side1 => repeat (first | exact (Kd.R_reads' HO537.out).2.2 | (with_reducible refine Kd.C_alloc ?_ _) | (with_reducible refine Kd.C_drewN ?_ _) | (with_reducible refine Kd.C_drew ?_))); (case side2 => exact (Kd.R_reads' HO537.out).2.1); rintro e w49 ⟨rfl, hb⟩; refine ⟨_, rfl, ?_⟩; have n0_ := Aside0.mk (Kd.R_below qz20 hb); have n1_ := Aside0.mk (Kd.R_below qz72 hb); have n2_ := Aside0.mk (blk_below (g := gb504) (o := .cells #[.int .i64 a1_0, .int .i64 a1_1] 56 (0, 0)) qz3 hb); have n3_ := Aside0.mk (below_step qz0 hb); clear HO531; clear HO537; clear BK504; clear HB; have HO531 := n0_; have HO537 := n1_; have BK504 := n2_; have HB := n3_; clear n0_ n1_ n2_ n3_; (try clear hb); (try clear hb2); (try clear hk); (try clear hi)))
                  go_ret2
                  exact ⟨_, by first | rfl | (simp [errW_none, errW_some] <;> rfl) | (simp [*, errW_none, errW_some] <;> rfl), by (with_reducible repeat (first | apply Kd.R_alloc | apply Kd.R_drewN | apply Kd.R_drew)); exact Kd.R_mono HO537.out (fun _ hk => trivial), by repeat (first | (with_reducible first | exact HB.out | apply below_alloc | apply pw_below_drewN | apply below_drew1 | refine below_set ?_ GE504.out) | exact HB.out)⟩
                 ·
                  replace c35 := Bool.eq_false_iff.mpr c35
                  subst c35
                  have H1 : (some ((([] : List (S56))), false)) = some (r1, r2) := by rw [if_neg (show ¬ (false = true) by decide)] at H; exact H
                  clear H
                  have H := H1
                  clear H1
                  obtain ⟨y539, hy539⟩ : ∃ y_ : List (S56), y_ = (([] : List (S56))) := ⟨_, rfl⟩
                  replace H : (some (y539, false)) = some (r1, r2) := by first | (rw [hy539]; with_reducible exact H) | (have H2_ := (Option.bind_some _ _).symm.trans H; rw [hy539]; with_reducible exact H2_) | (have H2_ := (Option.bind_some _ _).symm.trans H; with_reducible exact H2_) | with_reducible exact H | (rw [hy539]; exact H) | exact H
                  have Ny539 := Aside0.mk hy539
                  clear hy539
                  simp only [Option.some.injEq, Prod.mk.injEq] at H
                  obtain ⟨rfl, rfl⟩ := H
                  have q50 : (1 : Int) ≤ ((y510.length : Int) : Int) := of_decide_eq_true qz4
                  obtain ⟨i050, hi050, _, hsz50, _⟩ := info_parts info56
                  have hroom50 : y510.length ≤ c22 := HC513.out
                  have hC50 : Kd.C k56 _ A22 y510.length y510 := HR513.out
                  have hcut50 := cut_from (P := Try.prog) 24 56 .i64 Try.underlying24 hi050 2 hsz50 A22 y510.length c22 1 (by omega) q50
                  have hr50 := Kd.C_drop (m := (1 : Int).toNat) (c := c22) hC50 (by omega) hroom50
                  obtain ⟨A50, hA50⟩ : ∃ A1, A1 = (if c22 = (1 : Int).toNat then A22 else (A22 : Option Addr).map (·.add ((1 : Int).toNat * 2))) := ⟨_, rfl⟩
                  obtain ⟨c50, hc50⟩ : ∃ c1, c1 = c22 - (1 : Int).toNat := ⟨_, rfl⟩
                  have hy50 : y515.length = y510.length - (1 : Int).toNat := (by rw [Ny515.out, List.length_drop] <;> omega)
                  rw [show (y510).drop (1 : Int).toNat = y515 from Ny515.out.symm] at hr50
                  replace hr50 : Kd.C k56 _ A50 y515.length y515 := (by rw [hA50]; exact hr50)
                  rw [← hy50, ← hA50, ← hc50] at hcut50
                  have HR518 := Aside0.mk hr50
                  have HC518 := Aside0.mk (show y515.length ≤ c50 from by rw [hy50, hc50]; exact Nat.sub_le_sub_right hroom50 _)
                  clear hr50 hC50 hroom50 hi050 hsz50 hc50
                  have KY50 := Aside0.mk hy50
                  have KA50 := Aside0.mk hA50
                  clear hy50 hA50
                  replace q50 := eq_true q50
                  try go_wp2
                  have n0_ := Aside0.mk (blk_drew BK504.out)
                  have n1_ := Aside0.mk (below_drew1 HB.out)
                  clear BK504
                  clear HB
                  have BK504 := n0_
                  have HB := n1_
                  clear n0_ n1_
                  have q52 : (x6_11 : Int) ≤ ((l0.length : Int) : Int) := of_decide_eq_true qz4
                  obtain ⟨i052, hi052, _, hsz52, _⟩ := info_parts info56
                  have hroom52 : l0.length ≤ c0 := HC0.out
                  have hC52 : Kd.C k56 _ A0 l0.length l0 := HR0.out
                  have hcut52 := cut_to (P := Try.prog) 24 56 .i64 Try.underlying24 hi052 A0 l0.length c0 x6_11 (of_decide_eq_true qz4) q52 hroom52
                  have hr52 := Kd.C_take (m := (x6_11 : Int).toNat) hC52 (by omega)
                  have hy52 : y522.length = (x6_11 : Int).toNat := (by rw [Ny522.out, List.length_take]; omega)
                  rw [← Ny522.out] at hr52
                  rw [← hy52] at hcut52
                  have HR525 := Aside0.mk hr52
                  have HC525 := Aside0.mk (show y522.length ≤ c0 from by omega)
                  clear hr52 hC52 hroom52 hi052 hsz52
                  have KY52 := Aside0.mk hy52
                  clear hy52
                  replace q52 := eq_true q52
                  refine start_ (n := 11) (S := fun w' => w'.cell? ⟨gb504, 0, none⟩ = some (.int .i64 a1_0) ∧ w'.cell? ⟨gb504, 1, none⟩ = some (.int .i64 a1_1)) (ds := []) #[false, false, false, false, false, false, false, false, false, false, false] qz10 rfl rfl ⟨(blk_cell BK504.out 0).trans rfl, (blk_cell BK504.out 1).trans rfl⟩ (fun hHeld => ?_); refine with_tabW spec_AddPoint.tab9 spec_AddPoint.bits9 (fun HT_ HW_ => ?_)
                  generalize wc.drew = w51 at BK504 HB HR525 hHeld ⊢
                  refine pZ 1 (some 52) (bz 11 2) ?_
                  refine pZ 2 (some 53) (bz 11 6) ?_
                  refine pZ 3 (some 54) (bz 11 14) ?_
                  refine pZ 8 (some 59) (bz 11 270) ?_
                  refine tZ2 5 (some 56) (bz 11 302) ?_
                  refine join_ (σ := Value × Value × Value) 3 #[true, true, true, true, true, true, true, false, true, false, false] (fun s_ => [(51, s_.1), (55, s_.2.1), (57, s_.2.2)]) (fun s_ w' => (w'.cell? ⟨gb504, 0, none⟩ = some (.int .i64 a1_0) ∧ w'.cell? ⟨gb504, 1, none⟩ = some (.int .i64 a1_1)) ∧ (Kd.R k56 56 w' w.heap.size (fun k_ => some k_ ≠ (s_.2.2 : Value).ownBlock ∧ k_ ≠ gb504) s_.2.1 y526) ∧ (Kd.R k56 56 w' w.heap.size (fun k_ => some k_ ≠ (s_.2.1 : Value).ownBlock ∧ k_ ≠ gb504) s_.2.2 y529) ∧ (w'.heap[gb504]? = some (.cells #[.int .i64 a1_0, .int .i64 a1_1] 56 (0, 0))) ∧ (Below w.heap.size w w')) ?_ ?_
                  rotate_left
                  ·
                   intro hCont
                   refine two_ (i := 0) (j := 6) (Ni := some 51) (Nj := some 57) #[true, true, true, true, false, true, false, false, true, false, false] #[false, true, true, true, false, true, true, false, true, false, false] rfl rfl rfl rfl (two_of HT_.out qz10) (by decide) (by decide) (fun K hK => ?_) (fun K hK => ?_)
                   ·
                    skip
                    refine Kd.R_lit_step k56 _ 56 ?hg (N := 51) ?hd (xs := ([] : List (S56))) (inner := []) (ok := fun _ => True) (okp := fun _ => True) ?hr ?hp (fun _ hk => hk) trivial (Below.refl _ _) (Nat.le_refl _) (by simp) ?_; (case hd => rfl); (case hg => rfl); (case hr => first | (go_simp; done) | (go_simp; rfl)); (case hp => exact (Reps.none _ _))
                    intro v520 w53 ho54 hb hg_ hnew_
                    clear hg_ hnew_
                    (first | rw [← Ny519.out] at ho54 | (simp only [Int.reduceToNat] at ho54; rw [← Ny519.out] at ho54))
                    have n0_ := Aside0.mk (Kd.R_lower (Kd.R_newB ho54 (g := gb504) (o := .cells #[.int .i64 a1_0, .int .i64 a1_1] 56 (0, 0)) qz3) (below_size qz0))
                    have n1_ := Aside0.mk (blk_below (g := gb504) (o := .cells #[.int .i64 a1_0, .int .i64 a1_1] 56 (0, 0)) qz3 hb)
                    have n2_ := Aside0.mk (below_step qz0 hb)
                    clear BK504
                    clear HB
                    have HO521 := n0_
                    have BK504 := n1_
                    have HB := n2_
                    clear n0_ n1_ n2_
                    clear hb ho54
                    refine hK.out _ _ ⟨(blk_cell BK504.out 0).trans rfl, (blk_cell BK504.out 1).trans rfl⟩ (fun hHeld => ?_)
                    clear hK K
                    refine norm_ (a' := ?_) ?_ ?_
                    rotate_left
                    ·
                     show Act.put _ (some 51) _ = _
                     simp only [Act.put, List.setIfInBounds_toArray, List.set_cons_zero, List.set_cons_succ, i64_w, i32_w]
                     rfl
                    refine two_ (i := 4) (j := 6) (Ni := some 55) (Nj := some 57) #[true, true, true, true, true, true, false, false, true, false, false] #[true, true, true, true, false, true, true, false, true, false, false] rfl rfl rfl rfl (two_of HT_.out qz10) (by decide) (by decide) (fun K hK => ?_) (fun K hK => ?_)
                    ·
                     skip
                     refine Kd.R_append_rows_step k56 (w0 := w) w.heap.size (by rfl) (.tmp 51) (.tmp 54) 24 56 (.agg #[(.int .i64 0), (.int .i64 0)]) 16 rfl Try.underlying24 info56 rfl (by decide) (by omega) v520 y519 y522 _ _ _ (fun k_ => k_ ≠ gb504) (fun _ => False) rfl rfl ?aO ?aR (fun _ _ h => h) (fun _ h => h.elim) ?aF ?aB ?aS ?aL ?_
                     (case aR => repeat (first | exact (Kd.C_below HR525.out HB.out) | (with_reducible refine Kd.C_alloc ?_ _) | (with_reducible refine Kd.C_drewN ?_ _) | (with_reducible refine Kd.C_drew ?_)))
                     (case aB => exact qz0)
                     (case aF => exact (fun k_ hk => Kd.freshB (g := gb504) (o := .cells #[.int .i64 a1_0, .int .i64 a1_1] 56 (0, 0)) qz3 k_ hk))
                     (case aO => exact (by (with_reducible repeat (first | apply Kd.R_alloc | apply Kd.R_drewN | apply Kd.R_drew)); exact Kd.R_mono HO521.out (fun _ hk => hk.2)))
                     (case aS => exact (below_size qz0))
                     (case aL => have := LMc31.out; omega)
                     intro v527 w55 ho hb hg hat
                     rw [← Ny526.out] at ho
                     have n0_ := Aside0.mk (blk_grown (g := gb504) (o := .cells #[.int .i64 a1_0, .int .i64 a1_1] 56 (0, 0)) qz3 hg (Kd.R_away HO521.out (fun _ hk => hk.2)))
                     have n1_ := Aside0.mk (hb)
                     have n2_ := Aside0.mk (ho)
                     clear BK504
                     clear HB
                     clear HO521
                     have BK504 := n0_
                     have HB := n1_
                     have HO528 := n2_
                     clear n0_ n1_ n2_
                     clear ho hb hg hat
                     refine hK.out _ _ ⟨(blk_cell BK504.out 0).trans rfl, (blk_cell BK504.out 1).trans rfl⟩ (fun hHeld => ?_)
                     clear hK K
                     refine norm_ (a' := ?_) ?_ ?_
                     rotate_left
                     ·
                      show Act.put _ (some 55) _ = _
                      simp only [Act.put, List.setIfInBounds_toArray, List.set_cons_zero, List.set_cons_succ, i64_w, i32_w]
                      rfl
                     refine one_ (i := 6) (N := some 57) #[true, true, true, true, true, true, true, false, true, false, false] rfl rfl (one_of HT_.out qz10) (by decide) (fun K hK => ?_)
                     refine Kd.R_lit_step k56 _ 56 ?hg (N := 57) ?hd (xs := ([(⟨a1_0, a1_1⟩ : S56)] : List (S56))) (inner := [.int .i64 a1_0, .int .i64 a1_1]) (ok := fun _ => True) (okp := fun _ => True) ?hr ?hp (fun _ hk => hk) trivial (Below.refl _ _) (Nat.le_refl _) (by simp) ?_; (case hd => rfl); (case hg => rfl); (case hr => first | (go_simp; done) | (go_simp; rfl)); (case hp => exact (Reps.c2 (show Kd.M k56 _ _ _ (⟨a1_0, a1_1⟩ : S56) [.int .i64 a1_0, .int .i64 a1_1] from (k56_mkM _ _ _ (⟨a1_0, a1_1⟩ : S56) )) (Reps.none _ _)))
                     intro v530 w56 ho57 hb hg_ hnew_
                     clear hg_ hnew_
                     (first | rw [← Ny529.out] at ho57 | (simp only [Int.reduceToNat] at ho57; rw [← Ny529.out] at ho57))
                     have n0_ := Aside0.mk (Kd.R_elder' qz48 (Kd.R_base ho57) hb)
                     have n1_ := Aside0.mk (Kd.R_lower (Kd.R_newB (Kd.R_new' ho57 (Kd.R_lt qz48)) (g := gb504) (o := .cells #[.int .i64 a1_0, .int .i64 a1_1] 56 (0, 0)) qz3) (below_size qz0))
                     have n2_ := Aside0.mk (blk_below (g := gb504) (o := .cells #[.int .i64 a1_0, .int .i64 a1_1] 56 (0, 0)) qz3 hb)
                     have n3_ := Aside0.mk (below_step qz0 hb)
                     clear HO528
                     clear BK504
                     clear HB
                     have HO528 := n0_
                     have HO531 := n1_
                     have BK504 := n2_
                     have HB := n3_
                     clear n0_ n1_ n2_ n3_
                     clear hb ho57
                     refine hK.out _ _ ⟨(blk_cell BK504.out 0).trans rfl, (blk_cell BK504.out 1).trans rfl⟩ (fun hHeld => ?_)
                     clear hK K
                     refine norm_ (a' := ?_) ?_ ?_
                     rotate_left
                     ·
                      show Act.put _ (some 57) _ = _
                      simp only [Act.put, List.setIfInBounds_toArray, List.set_cons_zero, List.set_cons_succ, i64_w, i32_w]
                      rfl
                     exact norm_ qz25 (hCont (v520, v527, v530) _ ⟨hHeld, (by (with_reducible repeat (first | apply Kd.R_alloc | apply Kd.R_drewN | apply Kd.R_drew)); exact Kd.R_mono HO528.out (fun _ hk => ⟨hk.2, hk.1⟩)), qz64, qz3, qz0⟩)
                    ·
                     skip
                     refine Kd.R_lit_step k56 _ 56 ?hg (N := 57) ?hd (xs := ([(⟨a1_0, a1_1⟩ : S56)] : List (S56))) (inner := [.int .i64 a1_0, .int .i64 a1_1]) (ok := fun _ => True) (okp := fun _ => True) ?hr ?hp (fun _ hk => hk) trivial (Below.refl _ _) (Nat.le_refl _) (by simp) ?_; (case hd => rfl); (case hg => rfl); (case hr => first | (go_simp; done) | (go_simp; rfl)); (case hp => exact (Reps.c2 (show Kd.M k56 _ _ _ (⟨a1_0, a1_1⟩ : S56) [.int .i64 a1_0, .int .i64 a1_1] from (k56_mkM _ _ _ (⟨a1_0, a1_1⟩ : S56) )) (Reps.none _ _)))
                     intro v530 w55 ho56 hb hg_ hnew_
                     clear hg_ hnew_
                     (first | rw [← Ny529.out] at ho56 | (simp only [Int.reduceToNat] at ho56; rw [← Ny529.out] at ho56))
                     have n0_ := Aside0.mk (Kd.R_elder' qz73 (Kd.R_base ho56) hb)
                     have n1_ := Aside0.mk (Kd.R_lower (Kd.R_newB (Kd.R_new' ho56 (Kd.R_lt qz73)) (g := gb504) (o := .cells #[.int .i64 a1_0, .int .i64 a1_1] 56 (0, 0)) qz3) (below_size qz0))
                     have n2_ := Aside0.mk (blk_below (g := gb504) (o := .cells #[.int .i64 a1_0, .int .i64 a1_1] 56 (0, 0)) qz3 hb)
                     have n3_ := Aside0.mk (below_step qz0 hb)
                     clear HO521
                     clear BK504
                     clear HB
                     have HO521 := n0_
                     have HO531 := n1_
                     have BK504 := n2_
                     have HB := n3_
                     clear n0_ n1_ n2_ n3_
                     clear hb ho56
                     refine hK.out _ _ ⟨(blk_cell BK504.out 0).trans rfl, (blk_cell BK504.out 1).trans rfl⟩ (fun hHeld => ?_)
                     clear hK K
                     refine norm_ (a' := ?_) ?_ ?_
                     rotate_left
                     ·
                      show Act.put _ (some 57) _ = _
                      simp only [Act.put, List.setIfInBounds_toArray, List.set_cons_zero, List.set_cons_succ, i64_w, i32_w]
                      rfl
                     refine one_ (i := 4) (N := some 55) #[true, true, true, true, true, true, true, false, true, false, false] rfl rfl (one_of HT_.out qz10) (by decide) (fun K hK => ?_)
                     refine Kd.R_append_rows_step k56 (w0 := w) w.heap.size (by rfl) (.tmp 51) (.tmp 54) 24 56 (.agg #[(.int .i64 0), (.int .i64 0)]) 16 rfl Try.underlying24 info56 rfl (by decide) (by omega) v520 y519 y522 _ _ _ (fun k_ => some k_ ≠ (v530 : Value).ownBlock ∧ k_ ≠ gb504) (fun _ => False) rfl rfl ?aO ?aR (fun _ _ h => h) (fun _ h => h.elim) ?aF ?aB ?aS ?aL ?_
                     (case aR => repeat (first | exact (Kd.C_below HR525.out HB.out) | (with_reducible refine Kd.C_alloc ?_ _) | (with_reducible refine Kd.C_drewN ?_ _) | (with_reducible refine Kd.C_drew ?_)))
                     (case aB => exact qz0)
                     (case aF => exact (fun k_ hk => ⟨Kd.fresh' (Kd.R_lt qz20) k_ hk, Kd.freshB (g := gb504) (o := .cells #[.int .i64 a1_0, .int .i64 a1_1] 56 (0, 0)) qz3 k_ hk⟩))
                     (case aO => exact (by (with_reducible repeat (first | apply Kd.R_alloc | apply Kd.R_drewN | apply Kd.R_drew)); exact Kd.R_mono HO521.out (fun _ hk => ⟨hk.2, hk.1.2⟩)))
                     (case aS => exact (below_size qz0))
                     (case aL => have := LMc31.out; omega)
                     intro v527 w57 ho hb hg hat
                     rw [← Ny526.out] at ho
                     have n0_ := Aside0.mk (blk_grown (g := gb504) (o := .cells #[.int .i64 a1_0, .int .i64 a1_1] 56 (0, 0)) qz3 hg (Kd.R_away HO521.out (fun _ hk => hk.1.2)))
                     have n1_ := Aside0.mk (Kd.R_after (ok := (fun k_ => k_ ≠ gb504)) (by (with_reducible repeat (first | apply Kd.R_alloc | apply Kd.R_drewN | apply Kd.R_drew)); exact Kd.R_mono HO531.out (fun _ hk => ⟨hk.2, hk.1.2⟩)) hg hat)
                     have n2_ := Aside0.mk (hb)
                     have n3_ := Aside0.mk (ho)
                     clear BK504
                     clear HO531
                     clear HB
                     clear HO521
                     have BK504 := n0_
                     have HO531 := n1_
                     have HB := n2_
                     have HO528 := n3_
                     clear n0_ n1_ n2_ n3_
                     clear ho hb hg hat
                     refine hK.out _ _ ⟨(blk_cell BK504.out 0).trans rfl, (blk_cell BK504.out 1).trans rfl⟩ (fun hHeld => ?_)
                     clear hK K
                     refine norm_ (a' := ?_) ?_ ?_
                     rotate_left
                     ·
                      show Act.put _ (some 55) _ = _
                      simp only [Act.put, List.setIfInBounds_toArray, List.set_cons_zero, List.set_cons_succ, i64_w, i32_w]
                      rfl
                     exact norm_ qz25 (hCont (v520, v527, v530) _ ⟨hHeld, qz48, qz56, qz3, qz0⟩)
                   ·
                    skip
                    refine Kd.R_lit_step k56 _ 56 ?hg (N := 57) ?hd (xs := ([(⟨a1_0, a1_1⟩ : S56)] : List (S56))) (inner := [.int .i64 a1_0, .int .i64 a1_1]) (ok := fun _ => True) (okp := fun _ => True) ?hr ?hp (fun _ hk => hk) trivial (Below.refl _ _) (Nat.le_refl _) (by simp) ?_; (case hd => rfl); (case hg => rfl); (case hr => first | (go_simp; done) | (go_simp; rfl)); (case hp => exact (Reps.c2 (show Kd.M k56 _ _ _ (⟨a1_0, a1_1⟩ : S56) [.int .i64 a1_0, .int .i64 a1_1] from (k56_mkM _ _ _ (⟨a1_0, a1_1⟩ : S56) )) (Reps.none _ _)))
                    intro v530 w53 ho54 hb hg_ hnew_
                    clear hg_ hnew_
                    (first | rw [← Ny529.out] at ho54 | (simp only [Int.reduceToNat] at ho54; rw [← Ny529.out] at ho54))
                    have n0_ := Aside0.mk (Kd.R_lower (Kd.R_newB ho54 (g := gb504) (o := .cells #[.int .i64 a1_0, .int .i64 a1_1] 56 (0, 0)) qz3) (below_size qz0))
                    have n1_ := Aside0.mk (blk_below (g := gb504) (o := .cells #[.int .i64 a1_0, .int .i64 a1_1] 56 (0, 0)) qz3 hb)
                    have n2_ := Aside0.mk (below_step qz0 hb)
                    clear BK504
                    clear HB
                    have HO531 := n0_
                    have BK504 := n1_
                    have HB := n2_
                    clear n0_ n1_ n2_
                    clear hb ho54
                    refine hK.out _ _ ⟨(blk_cell BK504.out 0).trans rfl, (blk_cell BK504.out 1).trans rfl⟩ (fun hHeld => ?_)
                    clear hK K
                    refine norm_ (a' := ?_) ?_ ?_
                    rotate_left
                    ·
                     show Act.put _ (some 57) _ = _
                     simp only [Act.put, List.setIfInBounds_toArray, List.set_cons_zero, List.set_cons_succ, i64_w, i32_w]
                     rfl
                    refine one_ (i := 0) (N := some 51) #[true, true, true, true, false, true, true, false, true, false, false] rfl rfl (one_of HT_.out qz10) (by decide) (fun K hK => ?_)
                    refine Kd.R_lit_step k56 _ 56 ?hg (N := 51) ?hd (xs := ([] : List (S56))) (inner := []) (ok := fun _ => True) (okp := fun _ => True) ?hr ?hp (fun _ hk => hk) trivial (Below.refl _ _) (Nat.le_refl _) (by simp) ?_; (case hd => rfl); (case hg => rfl); (case hr => first | (go_simp; done) | (go_simp; rfl)); (case hp => exact (Reps.none _ _))
                    intro v520 w55 ho56 hb hg_ hnew_
                    clear hg_ hnew_
                    (first | rw [← Ny519.out] at ho56 | (simp only [Int.reduceToNat] at ho56; rw [← Ny519.out] at ho56))
                    have n0_ := Aside0.mk (Kd.R_elder' qz20 (Kd.R_base ho56) hb)
                    have n1_ := Aside0.mk (Kd.R_lower (Kd.R_newB (Kd.R_new' ho56 (Kd.R_lt qz20)) (g := gb504) (o := .cells #[.int .i64 a1_0, .int .i64 a1_1] 56 (0, 0)) qz3) (below_size qz0))
                    have n2_ := Aside0.mk (blk_below (g := gb504) (o := .cells #[.int .i64 a1_0, .int .i64 a1_1] 56 (0, 0)) qz3 hb)
                    have n3_ := Aside0.mk (below_step qz0 hb)
                    clear HO531
                    clear BK504
                    clear HB
                    have HO531 := n0_
                    have HO521 := n1_
                    have BK504 := n2_
                    have HB := n3_
                    clear n0_ n1_ n2_ n3_
                    clear hb ho56
                    refine hK.out _ _ ⟨(blk_cell BK504.out 0).trans rfl, (blk_cell BK504.out 1).trans rfl⟩ (fun hHeld => ?_)
                    clear hK K
                    refine norm_ (a' := ?_) ?_ ?_
                    rotate_left
                    ·
                     show Act.put _ (some 51) _ = _
                     simp only [Act.put, List.setIfInBounds_toArray, List.set_cons_zero, List.set_cons_succ, i64_w, i32_w]
                     rfl
                    refine one_ (i := 4) (N := some 55) #[true, true, true, true, true, true, true, false, true, false, false] rfl rfl (one_of HT_.out qz10) (by decide) (fun K hK => ?_)
                    refine Kd.R_append_rows_step k56 (w0 := w) w.heap.size (by rfl) (.tmp 51) (.tmp 54) 24 56 (.agg #[(.int .i64 0), (.int .i64 0)]) 16 rfl Try.underlying24 info56 rfl (by decide) (by omega) v520 y519 y522 _ _ _ (fun k_ => some k_ ≠ (v530 : Value).ownBlock ∧ k_ ≠ gb504) (fun _ => False) rfl rfl ?aO ?aR (fun _ _ h => h) (fun _ h => h.elim) ?aF ?aB ?aS ?aL ?_
                    (case aR => repeat (first | exact (Kd.C_below HR525.out HB.out) | (with_reducible refine Kd.C_alloc ?_ _) | (with_reducible refine Kd.C_drewN ?_ _) | (with_reducible refine Kd.C_drew ?_)))
                    (case aB => exact qz0)
                    (case aF => exact (fun k_ hk => ⟨Kd.fresh' (Kd.R_lt qz20) k_ hk, Kd.freshB (g := gb504) (o := .cells #[.int .i64 a1_0, .int .i64 a1_1] 56 (0, 0)) qz3 k_ hk⟩))
                    (case aO => exact (by (with_reducible repeat (first | apply Kd.R_alloc | apply Kd.R_drewN | apply Kd.R_drew)); exact Kd.R_mono HO521.out (fun _ hk => ⟨hk.1.2, hk.2⟩)))
                    (case aS => exact (below_size qz0))
                    (case aL => have := LMc31.out; omega)
                    intro v527 w57 ho hb hg hat
                    rw [← Ny526.out] at ho
                    have n0_ := Aside0.mk (blk_grown (g := gb504) (o := .cells #[.int .i64 a1_0, .int .i64 a1_1] 56 (0, 0)) qz3 hg (Kd.R_away HO521.out (fun _ hk => hk.2)))
                    have n1_ := Aside0.mk (Kd.R_after (ok := (fun k_ => k_ ≠ gb504)) qz64 hg hat)
                    have n2_ := Aside0.mk (hb)
                    have n3_ := Aside0.mk (ho)
                    clear BK504
                    clear HO531
                    clear HB
                    clear HO521
                    have BK504 := n0_
                    have HO531 := n1_
                    have HB := n2_
                    have HO528 := n3_
                    clear n0_ n1_ n2_ n3_
                    clear ho hb hg hat
                    refine hK.out _ _ ⟨(blk_cell BK504.out 0).trans rfl, (blk_cell BK504.out 1).trans rfl⟩ (fun hHeld => ?_)
                    clear hK K
                    refine norm_ (a' := ?_) ?_ ?_
                    rotate_left
                    ·
                     show Act.put _ (some 55) _ = _
                     simp only [Act.put, List.setIfInBounds_toArray, List.set_cons_zero, List.set_cons_succ, i64_w, i32_w]
                     rfl
                    exact norm_ qz25 (hCont (v520, v527, v530) _ ⟨hHeld, qz48, qz56, qz3, qz0⟩)
                  rintro ⟨v520, v527, v530⟩ w58 ⟨hS_, h0_, h1_, h2_, h3_⟩
                  have n0_ : Aside0 (Kd.R k56 56 w58 w.heap.size (fun k_ => some k_ ≠ (v530 : Value).ownBlock ∧ k_ ≠ gb504) v527 y526) := ⟨h0_⟩
                  have n1_ : Aside0 (Kd.R k56 56 w58 w.heap.size (fun k_ => some k_ ≠ (v527 : Value).ownBlock ∧ k_ ≠ gb504) v530 y529) := ⟨h1_⟩
                  have n2_ : Aside0 (w58.heap[gb504]? = some (.cells #[.int .i64 a1_0, .int .i64 a1_1] 56 (0, 0))) := ⟨h2_⟩
                  have n3_ : Aside0 (Below w.heap.size w w58) := ⟨h3_⟩
                  clear BK504
                  clear HB
                  clear h0_ h1_ h2_ h3_
                  have HO528 := n0_
                  have HO531 := n1_
                  have BK504 := n2_
                  have HB := n3_
                  clear n0_ n1_ n2_ n3_
                  have hHeld : w58.cell? ⟨gb504, 0, none⟩ = some (.int .i64 a1_0) ∧ w58.cell? ⟨gb504, 1, none⟩ = some (.int .i64 a1_1) := hS_
                  obtain ⟨Ao60, co60, eo60⟩ := Kd.R_slice HO531.out
                  (first | subst eo60 | (injection eo60 with f1_ f2_ f3_; have f4_ := f1_.symm; have f5_ := f3_.symm; clear f1_ f2_ f3_; subst f4_; subst f5_))
                  refine norm_ (a' := ?_) ?_ ?_
                  rotate_left
                  ·
                   simp only [putAll, Act.put, List.setIfInBounds_toArray, List.set_cons_zero, List.set_cons_succ]
                   rfl
                  refine one_ (i := 7) (N := some 58) #[true, true, true, true, true, true, true, true, true, false, false] rfl rfl (one_of HT_.out qz10) (by decide) (fun K hK => ?_)
                  refine Kd.R_append_rows_step k56 (w0 := w) w.heap.size (by rfl) (.tmp 55) (.tmp 57) 24 56 (.agg #[(.int .i64 0), (.int .i64 0)]) 16 rfl Try.underlying24 info56 rfl (by decide) (by omega) v527 y526 y529 _ _ _ (fun k_ => some k_ ≠ (.slice Ao60 y529.length co60 : Value).ownBlock ∧ k_ ≠ gb504) (fun _ => False) rfl rfl ?aO ?aR (fun _ _ h => h) (fun _ h => h.elim) ?aF ?aB ?aS ?aL ?_
                  (case aR => repeat (first | exact (Kd.R_reads' HO531.out).2.2 | (with_reducible refine Kd.C_alloc ?_ _) | (with_reducible refine Kd.C_drewN ?_ _) | (with_reducible refine Kd.C_drew ?_)))
                  (case aB => exact qz0)
                  (case aF => exact (fun k_ hk => ⟨Kd.fresh' (Kd.R_lt qz20) k_ hk, Kd.freshB (g := gb504) (o := .cells #[.int .i64 a1_0, .int .i64 a1_1] 56 (0, 0)) qz3 k_ hk⟩))
                  (case aO => exact qz48)
                  (case aS => exact (below_size qz0))
                  (case aL => have := LMc32.out; omega)
                  intro v533 w59 ho hb hg hat
                  rw [← Ny532.out] at ho
                  have n0_ := Aside0.mk (blk_grown (g := gb504) (o := .cells #[.int .i64 a1_0, .int .i64 a1_1] 56 (0, 0)) qz3 hg (Kd.R_away HO528.out (fun _ hk => hk.2)))
                  have n1_ := Aside0.mk (Kd.R_after (ok := (fun k_ => k_ ≠ gb504)) qz56 hg hat)
                  have n2_ := Aside0.mk (hb)
                  have n3_ := Aside0.mk (ho)
                  clear BK504
                  clear HO531
                  clear HB
                  clear HO528
                  have BK504 := n0_
                  have HO531 := n1_
                  have HB := n2_
                  have HO534 := n3_
                  clear n0_ n1_ n2_ n3_
                  clear ho hb hg hat
                  refine hK.out _ _ ⟨(blk_cell BK504.out 0).trans rfl, (blk_cell BK504.out 1).trans rfl⟩ (fun hHeld => ?_)
                  clear hK K
                  refine norm_ (a' := ?_) ?_ ?_
                  rotate_left
                  ·
                   show Act.put _ (some 58) _ = _
                   simp only [Act.put, List.setIfInBounds_toArray, List.set_cons_zero, List.set_cons_succ, i64_w, i32_w]
                   rfl
                  refine one_ (i := 9) (N := some 60) #[true, true, true, true, true, true, true, true, true, true, false] rfl rfl (one_of HT_.out qz10) (by decide) (fun K hK => ?_)
                  refine Kd.R_append_rows_step k56 (w0 := w) w.heap.size (by rfl) (.tmp 58) (.tmp 59) 24 56 (.agg #[(.int .i64 0), (.int .i64 0)]) 16 rfl Try.underlying24 info56 rfl (by decide) (by omega) v533 y532 y515 _ _ _ (fun k_ => some k_ ≠ (.slice Ao60 y529.length co60 : Value).ownBlock ∧ k_ ≠ gb504) (fun _ => False) rfl rfl ?aO ?aR (fun _ _ h => h) (fun _ h => h.elim) ?aF ?aB ?aS ?aL ?_
                  (case aR => repeat (first | exact (Kd.C_below HR518.out HB.out) | (with_reducible refine Kd.C_alloc ?_ _) | (with_reducible refine Kd.C_drewN ?_ _) | (with_reducible refine Kd.C_drew ?_)))
                  (case aB => exact qz0)
                  (case aF => exact (fun k_ hk => ⟨Kd.fresh' (Kd.R_lt qz20) k_ hk, Kd.freshB (g := gb504) (o := .cells #[.int .i64 a1_0, .int .i64 a1_1] 56 (0, 0)) qz3 k_ hk⟩))
                  (case aO => exact (by (with_reducible repeat (first | apply Kd.R_alloc | apply Kd.R_drewN | apply Kd.R_drew)); exact HO534.out))
                  (case aS => exact (below_size qz0))
                  (case aL => have := LMc33.out; omega)
                  intro v536 w61 ho hb hg hat
                  rw [← Ny535.out] at ho
                  have n0_ := Aside0.mk (blk_grown (g := gb504) (o := .cells #[.int .i64 a1_0, .int .i64 a1_1] 56 (0, 0)) qz3 hg (Kd.R_away HO534.out (fun _ hk => hk.2)))
                  have n1_ := Aside0.mk (Kd.R_after (ok := (fun k_ => k_ ≠ gb504)) qz20 hg hat)
                  have n2_ := Aside0.mk (hb)
                  have n3_ := Aside0.mk (ho)
                  clear BK504
                  clear HO531
                  clear HB
                  clear HO534
                  have BK504 := n0_
                  have HO531 := n1_
                  have HB := n2_
                  have HO537 := n3_
                  clear n0_ n1_ n2_ n3_
                  clear ho hb hg hat
                  refine hK.out _ _ ⟨(blk_cell BK504.out 0).trans rfl, (blk_cell BK504.out 1).trans rfl⟩ (fun hHeld => ?_)
                  clear hK K
                  refine norm_ (a' := ?_) ?_ ?_
                  rotate_left
                  ·
                   show Act.put _ (some 60) _ = _
                   simp only [Act.put, List.setIfInBounds_toArray, List.set_cons_zero, List.set_cons_succ, i64_w, i32_w]
                   rfl
                  refine pZ 10 (some 8) (bz 11 2047) ?_
                  refine done_ (done_of HT_.out qz10) ?_
                  obtain ⟨Ao62, co62, eo62⟩ := Kd.R_slice HO537.out
                  subst eo62
                  try go_wp2_with (first | ((with_reducible refine gate_callee (f := 54) rfl ?_); refine goesL_ (some 62) rfl rfl Try.func54 qz10 rfl #[.slice Ao62 y535.length co62] rfl qz2 ?_; (with_reducible refine (spec_l11Good.calls kj20 _ _ y535 false _ ?side1 ?side2 A34.out).mono ?_); (case side1 => repeat (first | exact (Kd.R_reads' HO537.out).2.2 | (with_reducible refine Kd.C_alloc ?_ _) | (with_reducible refine Kd.C_drewN ?_ _) | (with_reducible refine Kd.C_drew ?_))); (case side2 => exact (Kd.R_reads' HO537.out).2.1); rintro e w63 ⟨rfl, hb⟩; refine ⟨_, rfl, ?_⟩; have n0_ := Aside0.mk (Kd.R_below qz20 hb); have n1_ := Aside0.mk (Kd.R_below qz72 hb); have n2_ := Aside0.mk (blk_below (g := gb504) (o := .cells #[.int .i64 a1_0, .int .i64 a1_1] 56 (0, 0)) qz3 hb); have n3_ := Aside0.mk (below_step qz0 hb); clear HO531; clear HO537; clear BK504; clear HB; have HO531 := n0_; have HO537 := n1_; have BK504 := n2_; have HB := n3_; clear n0_ n1_ n2_ n3_; (try clear hb); (try clear hb2); (try clear hk); (try clear hi)) | ((with_reducible refine gate_dst (N := 64) rfl ?_); (try (refine gate_guard (by rfl) ?_; dsimp only)); refine Kd.R_lit k56 _ 56 ?hg (N := 64) ?hd (xs := ([] : List (S56))) (inner := []) (ok := fun _ => True) (okp := fun _ => True) ?hr ?hp (fun _ hk => hk) trivial (Below.refl _ _) (Nat.le_refl _) (by simp) ?_; (case hd => rfl); (case hg => rfl); (case hr => first | (go_simp; done) | (go_simp; rfl)); (case hp => exact (Reps.none _ _)); intro v540 w64 ho65 hb hg_ hnew_; clear hg_ hnew_; (first | rw [← Ny539.out] at ho65 | (simp only [Int.reduceToNat] at ho65; rw [← Ny539.out] at ho65)); have n0_ := Aside0.mk (Kd.R_elder' qz20 (Kd.R_base ho65) hb); have n1_ := Aside0.mk (Kd.R_elder' qz72 (Kd.R_base ho65) hb); have n2_ := Aside0.mk (Kd.R_lower (Kd.R_newB (Kd.R_new' (Kd.R_new' ho65 (Kd.R_lt qz20)) (Kd.R_lt qz72)) (g := gb504) (o := .cells #[.int .i64 a1_0, .int .i64 a1_1] 56 (0, 0)) qz3) (below_size qz0)); have n3_ := Aside0.mk (blk_below (g := gb504) (o := .cells #[.int .i64 a1_0, .int .i64 a1_1] 56 (0, 0)) qz3 hb); have n4_ := Aside0.mk (below_step qz0 hb); clear HO531; clear HO537; clear BK504; clear HB; have HO531 := n0_; have HO537 := n1_; have HO541 := n2_; have BK504 := n3_; have HB := n4_; clear n0_ n1_ n2_ n3_ n4_; clear hb ho65))
                  go_ret2
                  exact ⟨_, by first | rfl | (simp [errW_none, errW_some] <;> rfl) | (simp [*, errW_none, errW_some] <;> rfl), by (with_reducible repeat (first | apply Kd.R_alloc | apply Kd.R_drewN | apply Kd.R_drew)); exact Kd.R_mono HO541.out (fun _ hk => trivial), by repeat (first | (with_reducible first | exact HB.out | apply below_alloc | apply pw_below_drewN | apply below_drew1 | refine below_set ?_ GE504.out) | exact HB.out)⟩
                ·
                 rw [if_neg c33] at H
                 exact absurd H (by simp)
               ·
                rw [if_neg c32] at H
                exact absurd H (by simp)
              ·
               rw [if_neg c31] at H
               exact absurd H (by simp)
             ·
              rw [if_neg c30] at H
              exact absurd H (by simp)
            ·
             rw [if_neg c29] at H
             exact absurd H (by simp)
           ·
            rw [if_neg c28] at H
            exact absurd H (by simp)
          ·
           replace c27 := Bool.eq_false_iff.mpr c27
           subst c27
           have H1 : ((some (([] : List (S56)) : List (S56))).bind fun y542 => (if 0 ≤ x6_11 then (if x6_11 ≤ (l0.length : Int) then ((some (l0.take (x6_11 : Int).toNat : List (S56))).bind fun y545 => (if y542.length + y545.length < 8796093022208 then ((some (y542 ++ y545 : List (S56))).bind fun y549 => ((some (([(⟨a1_0, a1_1⟩ : S56)] : List (S56)) : List (S56))).bind fun y552 => (if y549.length + y552.length < 8796093022208 then ((some (y549 ++ y552 : List (S56))).bind fun y555 => (if y555.length + y510.length < 8796093022208 then ((some (y555 ++ y510 : List (S56))).bind fun y558 => ((spec_l11Good.f kj20 y558).bind fun t561 => (if t561 = true then (some (y558, true)) else (some ((([] : List (S56))), false))))) else (none))) else (none)))) else (none))) else (none)) else (none))) = some (r1, r2) := by rw [if_neg (show ¬ (false = true) by decide)] at H; exact H
           clear H
           have H := H1
           clear H1
           obtain ⟨y542, hy542⟩ : ∃ y_ : List (S56), y_ = (([] : List (S56))) := ⟨_, rfl⟩
           replace H : (if 0 ≤ x6_11 then (if x6_11 ≤ (l0.length : Int) then ((some (l0.take (x6_11 : Int).toNat : List (S56))).bind fun y545 => (if y542.length + y545.length < 8796093022208 then ((some (y542 ++ y545 : List (S56))).bind fun y549 => ((some (([(⟨a1_0, a1_1⟩ : S56)] : List (S56)) : List (S56))).bind fun y552 => (if y549.length + y552.length < 8796093022208 then ((some (y549 ++ y552 : List (S56))).bind fun y555 => (if y555.length + y510.length < 8796093022208 then ((some (y555 ++ y510 : List (S56))).bind fun y558 => ((spec_l11Good.f kj20 y558).bind fun t561 => (if t561 = true then (some (y558, true)) else (some ((([] : List (S56))), false))))) else (none))) else (none)))) else (none))) else (none)) else (none)) = some (r1, r2) := by first | (rw [hy542]; with_reducible exact H) | (have H2_ := (Option.bind_some _ _).symm.trans H; rw [hy542]; with_reducible exact H2_) | (have H2_ := (Option.bind_some _ _).symm.trans H; with_reducible exact H2_) | with_reducible exact H | (rw [hy542]; exact H) | exact H
           have Ny542 := Aside0.mk hy542
           clear hy542
           by_cases c66 : 0 ≤ x6_11
           ·
            rw [if_pos c66] at H
            have c66b0 := eq_true c66
            have c66b1 : decide (0 ≤ x6_11) = true := decide_eq_true c66
            clear c66
            by_cases c67 : x6_11 ≤ (l0.length : Int)
            ·
             rw [if_pos c67] at H
             have c67b0 := eq_true c67
             have c67b1 : decide (x6_11 ≤ (l0.length : Int)) = true := decide_eq_true c67
             clear c67
             obtain ⟨y545, hy545⟩ : ∃ y_ : List (S56), y_ = (l0.take (x6_11 : Int).toNat) := ⟨_, rfl⟩
             replace H : (if y542.length + y545.length < 8796093022208 then ((some (y542 ++ y545 : List (S56))).bind fun y549 => ((some (([(⟨a1_0, a1_1⟩ : S56)] : List (S56)) : List (S56))).bind fun y552 => (if y549.length + y552.length < 8796093022208 then ((some (y549 ++ y552 : List (S56))).bind fun y555 => (if y555.length + y510.length < 8796093022208 then ((some (y555 ++ y510 : List (S56))).bind fun y558 => ((spec_l11Good.f kj20 y558).bind fun t561 => (if t561 = true then (some (y558, true)) else (some ((([] : List (S56))), false))))) else (none))) else (none)))) else (none)) = some (r1, r2) := by first | (rw [hy545]; with_reducible exact H) | (have H2_ := (Option.bind_some _ _).symm.trans H; rw [hy545]; with_reducible exact H2_) | (have H2_ := (Option.bind_some _ _).symm.trans H; with_reducible exact H2_) | with_reducible exact H | (rw [hy545]; exact H) | exact H
             have Ny545 := Aside0.mk hy545
             clear hy545
             by_cases c68 : y542.length + y545.length < 8796093022208
             ·
              rw [if_pos c68] at H
              have LMc68 := Aside0.mk c68
              clear c68
              obtain ⟨y549, hy549⟩ : ∃ y_ : List (S56), y_ = (y542 ++ y545) := ⟨_, rfl⟩
              replace H : ((some (([(⟨a1_0, a1_1⟩ : S56)] : List (S56)) : List (S56))).bind fun y552 => (if y549.length + y552.length < 8796093022208 then ((some (y549 ++ y552 : List (S56))).bind fun y555 => (if y555.length + y510.length < 8796093022208 then ((some (y555 ++ y510 : List (S56))).bind fun y558 => ((spec_l11Good.f kj20 y558).bind fun t561 => (if t561 = true then (some (y558, true)) else (some ((([] : List (S56))), false))))) else (none))) else (none))) = some (r1, r2) := by first | (rw [hy549]; with_reducible exact H) | (have H2_ := (Option.bind_some _ _).symm.trans H; rw [hy549]; with_reducible exact H2_) | (have H2_ := (Option.bind_some _ _).symm.trans H; with_reducible exact H2_) | with_reducible exact H | (rw [hy549]; exact H) | exact H
              have Ny549 := Aside0.mk hy549
              clear hy549
              obtain ⟨y552, hy552⟩ : ∃ y_ : List (S56), y_ = (([(⟨a1_0, a1_1⟩ : S56)] : List (S56))) := ⟨_, rfl⟩
              replace H : (if y549.length + y552.length < 8796093022208 then ((some (y549 ++ y552 : List (S56))).bind fun y555 => (if y555.length + y510.length < 8796093022208 then ((some (y555 ++ y510 : List (S56))).bind fun y558 => ((spec_l11Good.f kj20 y558).bind fun t561 => (if t561 = true then (some (y558, true)) else (some ((([] : List (S56))), false))))) else (none))) else (none)) = some (r1, r2) := by first | (rw [hy552]; with_reducible exact H) | (have H2_ := (Option.bind_some _ _).symm.trans H; rw [hy552]; with_reducible exact H2_) | (have H2_ := (Option.bind_some _ _).symm.trans H; with_reducible exact H2_) | with_reducible exact H | (rw [hy552]; exact H) | exact H
              have Ny552 := Aside0.mk hy552
              clear hy552
              by_cases c69 : y549.length + y552.length < 8796093022208
              ·
               rw [if_pos c69] at H
               have LMc69 := Aside0.mk c69
               clear c69
               obtain ⟨y555, hy555⟩ : ∃ y_ : List (S56), y_ = (y549 ++ y552) := ⟨_, rfl⟩
               replace H : (if y555.length + y510.length < 8796093022208 then ((some (y555 ++ y510 : List (S56))).bind fun y558 => ((spec_l11Good.f kj20 y558).bind fun t561 => (if t561 = true then (some (y558, true)) else (some ((([] : List (S56))), false))))) else (none)) = some (r1, r2) := by first | (rw [hy555]; with_reducible exact H) | (have H2_ := (Option.bind_some _ _).symm.trans H; rw [hy555]; with_reducible exact H2_) | (have H2_ := (Option.bind_some _ _).symm.trans H; with_reducible exact H2_) | with_reducible exact H | (rw [hy555]; exact H) | exact H
               have Ny555 := Aside0.mk hy555
               clear hy555
               by_cases c70 : y555.length + y510.length < 8796093022208
               ·
                rw [if_pos c70] at H
                have LMc70 := Aside0.mk c70
                clear c70
                obtain ⟨y558, hy558⟩ : ∃ y_ : List (S56), y_ = (y555 ++ y510) := ⟨_, rfl⟩
                replace H : ((spec_l11Good.f kj20 y558).bind fun t561 => (if t561 = true then (some (y558, true)) else (some ((([] : List (S56))), false)))) = some (r1, r2) := by first | (rw [hy558]; with_reducible exact H) | (have H2_ := (Option.bind_some _ _).symm.trans H; rw [hy558]; with_reducible exact H2_) | (have H2_ := (Option.bind_some _ _).symm.trans H; with_reducible exact H2_) | with_reducible exact H | (rw [hy558]; exact H) | exact H
                have Ny558 := Aside0.mk hy558
                clear hy558
                replace H := Option.bind_eq_some_iff.mp H
                obtain ⟨t561, A710, H⟩ := H
                replace H : (if t561 = true then (some (y558, true)) else (some ((([] : List (S56))), false))) = some (r1, r2) := H
                have A71 := Aside0.mk A710
                clear A710
                by_cases c72 : t561 = true
                ·
                 subst c72
                 have H1 : (some (y558, true)) = some (r1, r2) := by rw [if_pos rfl] at H; exact H
                 clear H
                 have H := H1
                 clear H1
                 simp only [Option.some.injEq, Prod.mk.injEq] at H
                 obtain ⟨rfl, rfl⟩ := H
                 try go_wp2
                 have n0_ := Aside0.mk (blk_drew BK504.out)
                 have n1_ := Aside0.mk (below_drew1 HB.out)
                 clear BK504
                 clear HB
                 have BK504 := n0_
                 have HB := n1_
                 clear n0_ n1_
                 have q74 : (x6_11 : Int) ≤ ((l0.length : Int) : Int) := of_decide_eq_true qz4
                 obtain ⟨i074, hi074, _, hsz74, _⟩ := info_parts info56
                 have hroom74 : l0.length ≤ c0 := HC0.out
                 have hC74 : Kd.C k56 _ A0 l0.length l0 := HR0.out
                 have hcut74 := cut_to (P := Try.prog) 24 56 .i64 Try.underlying24 hi074 A0 l0.length c0 x6_11 (of_decide_eq_true qz4) q74 hroom74
                 have hr74 := Kd.C_take (m := (x6_11 : Int).toNat) hC74 (by omega)
                 have hy74 : y545.length = (x6_11 : Int).toNat := (by rw [Ny545.out, List.length_take]; omega)
                 rw [← Ny545.out] at hr74
                 rw [← hy74] at hcut74
                 have HR548 := Aside0.mk hr74
                 have HC548 := Aside0.mk (show y545.length ≤ c0 from by omega)
                 clear hr74 hC74 hroom74 hi074 hsz74
                 have KY74 := Aside0.mk hy74
                 clear hy74
                 replace q74 := eq_true q74
                 refine start_ (n := 11) (S := fun w' => w'.cell? ⟨gb504, 0, none⟩ = some (.int .i64 a1_0) ∧ w'.cell? ⟨gb504, 1, none⟩ = some (.int .i64 a1_1)) (ds := []) #[false, false, false, false, false, false, false, false, false, false, false] qz10 rfl rfl ⟨(blk_cell BK504.out 0).trans rfl, (blk_cell BK504.out 1).trans rfl⟩ (fun hHeld => ?_); refine with_tabW spec_AddPoint.tab9 spec_AddPoint.bits9 (fun HT_ HW_ => ?_)
                 generalize wc.drew = w73 at BK504 HB HR548 hHeld ⊢
                 refine pZ 1 (some 52) (bz 11 2) ?_
                 refine pZ 2 (some 53) (bz 11 6) ?_
                 refine pZ 3 (some 54) (bz 11 14) ?_
                 refine pZ 8 (some 59) (bz 11 270) ?_
                 refine tZ2 5 (some 56) (bz 11 302) ?_
                 refine join_ (σ := Value × Value × Value) 3 #[true, true, true, true, true, true, true, false, true, false, false] (fun s_ => [(51, s_.1), (55, s_.2.1), (57, s_.2.2)]) (fun s_ w' => (w'.cell? ⟨gb504, 0, none⟩ = some (.int .i64 a1_0) ∧ w'.cell? ⟨gb504, 1, none⟩ = some (.int .i64 a1_1)) ∧ (Kd.R k56 56 w' w.heap.size (fun k_ => some k_ ≠ (s_.2.2 : Value).ownBlock ∧ k_ ≠ gb504) s_.2.1 y549) ∧ (Kd.R k56 56 w' w.heap.size (fun k_ => some k_ ≠ (s_.2.1 : Value).ownBlock ∧ k_ ≠ gb504) s_.2.2 y552) ∧ (w'.heap[gb504]? = some (.cells #[.int .i64 a1_0, .int .i64 a1_1] 56 (0, 0))) ∧ (Below w.heap.size w w')) ?_ ?_
                 rotate_left
                 ·
                  intro hCont
                  refine two_ (i := 0) (j := 6) (Ni := some 51) (Nj := some 57) #[true, true, true, true, false, true, false, false, true, false, false] #[false, true, true, true, false, true, true, false, true, false, false] rfl rfl rfl rfl (two_of HT_.out qz10) (by decide) (by decide) (fun K hK => ?_) (fun K hK => ?_)
                  ·
                   skip
                   refine Kd.R_lit_step k56 _ 56 ?hg (N := 51) ?hd (xs := ([] : List (S56))) (inner := []) (ok := fun _ => True) (okp := fun _ => True) ?hr ?hp (fun _ hk => hk) trivial (Below.refl _ _) (Nat.le_refl _) (by simp) ?_; (case hd => rfl); (case hg => rfl); (case hr => first | (go_simp; done) | (go_simp; rfl)); (case hp => exact (Reps.none _ _))
                   intro v543 w75 ho76 hb hg_ hnew_
                   clear hg_ hnew_
                   (first | rw [← Ny542.out] at ho76 | (simp only [Int.reduceToNat] at ho76; rw [← Ny542.out] at ho76))
                   have n0_ := Aside0.mk (Kd.R_lower (Kd.R_newB ho76 (g := gb504) (o := .cells #[.int .i64 a1_0, .int .i64 a1_1] 56 (0, 0)) qz3) (below_size qz0))
                   have n1_ := Aside0.mk (blk_below (g := gb504) (o := .cells #[.int .i64 a1_0, .int .i64 a1_1] 56 (0, 0)) qz3 hb)
                   have n2_ := Aside0.mk (below_step qz0 hb)
                   clear BK504
                   clear HB
                   have HO544 := n0_
                   have BK504 := n1_
                   have HB := n2_
                   clear n0_ n1_ n2_
                   clear hb ho76
                   refine hK.out _ _ ⟨(blk_cell BK504.out 0).trans rfl, (blk_cell BK504.out 1).trans rfl⟩ (fun hHeld => ?_)
                   clear hK K
                   refine norm_ (a' := ?_) ?_ ?_
                   rotate_left
                   ·
                    show Act.put _ (some 51) _ = _
                    simp only [Act.put, List.setIfInBounds_toArray, List.set_cons_zero, List.set_cons_succ, i64_w, i32_w]
                    rfl
                   refine two_ (i := 4) (j := 6) (Ni := some 55) (Nj := some 57) #[true, true, true, true, true, true, false, false, true, false, false] #[true, true, true, true, false, true, true, false, true, false, false] rfl rfl rfl rfl (two_of HT_.out qz10) (by decide) (by decide) (fun K hK => ?_) (fun K hK => ?_)
                   ·
                    skip
                    refine Kd.R_append_rows_step k56 (w0 := w) w.heap.size (by rfl) (.tmp 51) (.tmp 54) 24 56 (.agg #[(.int .i64 0), (.int .i64 0)]) 16 rfl Try.underlying24 info56 rfl (by decide) (by omega) v543 y542 y545 _ _ _ (fun k_ => k_ ≠ gb504) (fun _ => False) rfl rfl ?aO ?aR (fun _ _ h => h) (fun _ h => h.elim) ?aF ?aB ?aS ?aL ?_
                    (case aR => repeat (first | exact (Kd.C_below HR548.out HB.out) | (with_reducible refine Kd.C_alloc ?_ _) | (with_reducible refine Kd.C_drewN ?_ _) | (with_reducible refine Kd.C_drew ?_)))
                    (case aB => exact qz0)
                    (case aF => exact (fun k_ hk => Kd.freshB (g := gb504) (o := .cells #[.int .i64 a1_0, .int .i64 a1_1] 56 (0, 0)) qz3 k_ hk))
                    (case aO => exact (by (with_reducible repeat (first | apply Kd.R_alloc | apply Kd.R_drewN | apply Kd.R_drew)); exact Kd.R_mono HO544.out (fun _ hk => hk.2)))
                    (case aS => exact (below_size qz0))
                    (case aL => have := LMc68.out; omega)
                    intro v550 w77 ho hb hg hat
                    rw [← Ny549.out] at ho
                    have n0_ := Aside0.mk (blk_grown (g := gb504) (o := .cells #[.int .i64 a1_0, .int .i64 a1_1] 56 (0, 0)) qz3 hg (Kd.R_away HO544.out (fun _ hk => hk.2)))
                    have n1_ := Aside0.mk (hb)
                    have n2_ := Aside0.mk (ho)
                    clear BK504
                    clear HB
                    clear HO544
                    have BK504 := n0_
                    have HB := n1_
                    have HO551 := n2_
                    clear n0_ n1_ n2_
                    clear ho hb hg hat
                    refine hK.out _ _ ⟨(blk_cell BK504.out 0).trans rfl, (blk_cell BK504.out 1).trans rfl⟩ (fun hHeld => ?_)
                    clear hK K
                    refine norm_ (a' := ?_) ?_ ?_
                    rotate_left
                    ·
                     show Act.put _ (some 55) _ = _
                     simp only [Act.put, List.setIfInBounds_toArray, List.set_cons_zero, List.set_cons_succ, i64_w, i32_w]
                     rfl
                    refine one_ (i := 6) (N := some 57) #[true, true, true, true, true, true, true, false, true, false, false] rfl rfl (one_of HT_.out qz10) (by decide) (fun K hK => ?_)
                    refine Kd.R_lit_step k56 _ 56 ?hg (N := 57) ?hd (xs := ([(⟨a1_0, a1_1⟩ : S56)] : List (S56))) (inner := [.int .i64 a1_0, .int .i64 a1_1]) (ok := fun _ => True) (okp := fun _ => True) ?hr ?hp (fun _ hk => hk) trivial (Below.refl _ _) (Nat.le_refl _) (by simp) ?_; (case hd => rfl); (case hg => rfl); (case hr => first | (go_simp; done) | (go_simp; rfl)); (case hp => exact (Reps.c2 (show Kd.M k56 _ _ _ (⟨a1_0, a1_1⟩ : S56) [.int .i64 a1_0, .int .i64 a1_1] from (k56_mkM _ _ _ (⟨a1_0, a1_1⟩ : S56) )) (Reps.none _ _)))
                    intro v553 w78 ho79 hb hg_ hnew_
                    clear hg_ hnew_
                    (first | rw [← Ny552.out] at ho79 | (simp only [Int.reduceToNat] at ho79; rw [← Ny552.out] at ho79))
                    have n0_ := Aside0.mk (Kd.R_elder' qz47 (Kd.R_base ho79) hb)
                    have n1_ := Aside0.mk (Kd.R_lower (Kd.R_newB (Kd.R_new' ho79 (Kd.R_lt qz47)) (g := gb504) (o := .cells #[.int .i64 a1_0, .int .i64 a1_1] 56 (0, 0)) qz3) (below_size qz0))
                    have n2_ := Aside0.mk (blk_below (g := gb504) (o := .cells #[.int .i64 a1_0, .int .i64 a1_1] 56 (0, 0)) qz3 hb)
                    have n3_ := Aside0.mk (below_step qz0 hb)
                    clear HO551
                    clear BK504
                    clear HB
                    have HO551 := n0_
                    have HO554 := n1_
                    have BK504 := n2_
                    have HB := n3_
                    clear n0_ n1_ n2_ n3_
                    clear hb ho79
                    refine hK.out _ _ ⟨(blk_cell BK504.out 0).trans rfl, (blk_cell BK504.out 1).trans rfl⟩ (fun hHeld => ?_)
                    clear hK K
                    refine norm_ (a' := ?_) ?_ ?_
                    rotate_left
                    ·
                     show Act.put _ (some 57) _ = _
                     simp only [Act.put, List.setIfInBounds_toArray, List.set_cons_zero, List.set_cons_succ, i64_w, i32_w]
                     rfl
                    exact norm_ qz25 (hCont (v543, v550, v553) _ ⟨hHeld, (by (with_reducible repeat (first | apply Kd.R_alloc | apply Kd.R_drewN | apply Kd.R_drew)); exact Kd.R_mono HO551.out (fun _ hk => ⟨hk.2, hk.1⟩)), qz63, qz3, qz0⟩)
                   ·
                    skip
                    refine Kd.R_lit_step k56 _ 56 ?hg (N := 57) ?hd (xs := ([(⟨a1_0, a1_1⟩ : S56)] : List (S56))) (inner := [.int .i64 a1_0, .int .i64 a1_1]) (ok := fun _ => True) (okp := fun _ => True) ?hr ?hp (fun _ hk => hk) trivial (Below.refl _ _) (Nat.le_refl _) (by simp) ?_; (case hd => rfl); (case hg => rfl); (case hr => first | (go_simp; done) | (go_simp; rfl)); (case hp => exact (Reps.c2 (show Kd.M k56 _ _ _ (⟨a1_0, a1_1⟩ : S56) [.int .i64 a1_0, .int .i64 a1_1] from (k56_mkM _ _ _ (⟨a1_0, a1_1⟩ : S56) )) (Reps.none _ _)))
                    intro v553 w77 ho78 hb hg_ hnew_
                    clear hg_ hnew_
                    (first | rw [← Ny552.out] at ho78 | (simp only [Int.reduceToNat] at ho78; rw [← Ny552.out] at ho78))
                    have n0_ := Aside0.mk (Kd.R_elder' qz71 (Kd.R_base ho78) hb)
                    have n1_ := Aside0.mk (Kd.R_lower (Kd.R_newB (Kd.R_new' ho78 (Kd.R_lt qz71)) (g := gb504) (o := .cells #[.int .i64 a1_0, .int .i64 a1_1] 56 (0, 0)) qz3) (below_size qz0))
                    have n2_ := Aside0.mk (blk_below (g := gb504) (o := .cells #[.int .i64 a1_0, .int .i64 a1_1] 56 (0, 0)) qz3 hb)
                    have n3_ := Aside0.mk (below_step qz0 hb)
                    clear HO544
                    clear BK504
                    clear HB
                    have HO544 := n0_
                    have HO554 := n1_
                    have BK504 := n2_
                    have HB := n3_
                    clear n0_ n1_ n2_ n3_
                    clear hb ho78
                    refine hK.out _ _ ⟨(blk_cell BK504.out 0).trans rfl, (blk_cell BK504.out 1).trans rfl⟩ (fun hHeld => ?_)
                    clear hK K
                    refine norm_ (a' := ?_) ?_ ?_
                    rotate_left
                    ·
                     show Act.put _ (some 57) _ = _
                     simp only [Act.put, List.setIfInBounds_toArray, List.set_cons_zero, List.set_cons_succ, i64_w, i32_w]
                     rfl
                    refine one_ (i := 4) (N := some 55) #[true, true, true, true, true, true, true, false, true, false, false] rfl rfl (one_of HT_.out qz10) (by decide) (fun K hK => ?_)
                    refine Kd.R_append_rows_step k56 (w0 := w) w.heap.size (by rfl) (.tmp 51) (.tmp 54) 24 56 (.agg #[(.int .i64 0), (.int .i64 0)]) 16 rfl Try.underlying24 info56 rfl (by decide) (by omega) v543 y542 y545 _ _ _ (fun k_ => some k_ ≠ (v553 : Value).ownBlock ∧ k_ ≠ gb504) (fun _ => False) rfl rfl ?aO ?aR (fun _ _ h => h) (fun _ h => h.elim) ?aF ?aB ?aS ?aL ?_
                    (case aR => repeat (first | exact (Kd.C_below HR548.out HB.out) | (with_reducible refine Kd.C_alloc ?_ _) | (with_reducible refine Kd.C_drewN ?_ _) | (with_reducible refine Kd.C_drew ?_)))
                    (case aB => exact qz0)
                    (case aF => exact (fun k_ hk => ⟨Kd.fresh' (Kd.R_lt qz19) k_ hk, Kd.freshB (g := gb504) (o := .cells #[.int .i64 a1_0, .int .i64 a1_1] 56 (0, 0)) qz3 k_ hk⟩))
                    (case aO => exact (by (with_reducible repeat (first | apply Kd.R_alloc | apply Kd.R_drewN | apply Kd.R_drew)); exact Kd.R_mono HO544.out (fun _ hk => ⟨hk.2, hk.1.2⟩)))
                    (case aS => exact (below_size qz0))
                    (case aL => have := LMc68.out; omega)
                    intro v550 w79 ho hb hg hat
                    rw [← Ny549.out] at ho
                    have n0_ := Aside0.mk (blk_grown (g := gb504) (o := .cells #[.int .i64 a1_0, .int .i64 a1_1] 56 (0, 0)) qz3 hg (Kd.R_away HO544.out (fun _ hk => hk.1.2)))
                    have n1_ := Aside0.mk (Kd.R_after (ok := (fun k_ => k_ ≠ gb504)) (by (with_reducible repeat (first | apply Kd.R_alloc | apply Kd.R_drewN | apply Kd.R_drew)); exact Kd.R_mono HO554.out (fun _ hk => ⟨hk.2, hk.1.2⟩)) hg hat)
                    have n2_ := Aside0.mk (hb)
                    have n3_ := Aside0.mk (ho)
                    clear BK504
                    clear HO554
                    clear HB
                    clear HO544
                    have BK504 := n0_
                    have HO554 := n1_
                    have HB := n2_
                    have HO551 := n3_
                    clear n0_ n1_ n2_ n3_
                    clear ho hb hg hat
                    refine hK.out _ _ ⟨(blk_cell BK504.out 0).trans rfl, (blk_cell BK504.out 1).trans rfl⟩ (fun hHeld => ?_)
                    clear hK K
                    refine norm_ (a' := ?_) ?_ ?_
                    rotate_left
                    ·
                     show Act.put _ (some 55) _ = _
                     simp only [Act.put, List.setIfInBounds_toArray, List.set_cons_zero, List.set_cons_succ, i64_w, i32_w]
                     rfl
                    exact norm_ qz25 (hCont (v543, v550, v553) _ ⟨hHeld, qz47, qz55, qz3, qz0⟩)
                  ·
                   skip
                   refine Kd.R_lit_step k56 _ 56 ?hg (N := 57) ?hd (xs := ([(⟨a1_0, a1_1⟩ : S56)] : List (S56))) (inner := [.int .i64 a1_0, .int .i64 a1_1]) (ok := fun _ => True) (okp := fun _ => True) ?hr ?hp (fun _ hk => hk) trivial (Below.refl _ _) (Nat.le_refl _) (by simp) ?_; (case hd => rfl); (case hg => rfl); (case hr => first | (go_simp; done) | (go_simp; rfl)); (case hp => exact (Reps.c2 (show Kd.M k56 _ _ _ (⟨a1_0, a1_1⟩ : S56) [.int .i64 a1_0, .int .i64 a1_1] from (k56_mkM _ _ _ (⟨a1_0, a1_1⟩ : S56) )) (Reps.none _ _)))
                   intro v553 w75 ho76 hb hg_ hnew_
                   clear hg_ hnew_
                   (first | rw [← Ny552.out] at ho76 | (simp only [Int.reduceToNat] at ho76; rw [← Ny552.out] at ho76))
                   have n0_ := Aside0.mk (Kd.R_lower (Kd.R_newB ho76 (g := gb504) (o := .cells #[.int .i64 a1_0, .int .i64 a1_1] 56 (0, 0)) qz3) (below_size qz0))
                   have n1_ := Aside0.mk (blk_below (g := gb504) (o := .cells #[.int .i64 a1_0, .int .i64 a1_1] 56 (0, 0)) qz3 hb)
                   have n2_ := Aside0.mk (below_step qz0 hb)
                   clear BK504
                   clear HB
                   have HO554 := n0_
                   have BK504 := n1_
                   have HB := n2_
                   clear n0_ n1_ n2_
                   clear hb ho76
                   refine hK.out _ _ ⟨(blk_cell BK504.out 0).trans rfl, (blk_cell BK504.out 1).trans rfl⟩ (fun hHeld => ?_)
                   clear hK K
                   refine norm_ (a' := ?_) ?_ ?_
                   rotate_left
                   ·
                    show Act.put _ (some 57) _ = _
                    simp only [Act.put, List.setIfInBounds_toArray, List.set_cons_zero, List.set_cons_succ, i64_w, i32_w]
                    rfl
                   refine one_ (i := 0) (N := some 51) #[true, true, true, true, false, true, true, false, true, false, false] rfl rfl (one_of HT_.out qz10) (by decide) (fun K hK => ?_)
                   refine Kd.R_lit_step k56 _ 56 ?hg (N := 51) ?hd (xs := ([] : List (S56))) (inner := []) (ok := fun _ => True) (okp := fun _ => True) ?hr ?hp (fun _ hk => hk) trivial (Below.refl _ _) (Nat.le_refl _) (by simp) ?_; (case hd => rfl); (case hg => rfl); (case hr => first | (go_simp; done) | (go_simp; rfl)); (case hp => exact (Reps.none _ _))
                   intro v543 w77 ho78 hb hg_ hnew_
                   clear hg_ hnew_
                   (first | rw [← Ny542.out] at ho78 | (simp only [Int.reduceToNat] at ho78; rw [← Ny542.out] at ho78))
                   have n0_ := Aside0.mk (Kd.R_elder' qz19 (Kd.R_base ho78) hb)
                   have n1_ := Aside0.mk (Kd.R_lower (Kd.R_newB (Kd.R_new' ho78 (Kd.R_lt qz19)) (g := gb504) (o := .cells #[.int .i64 a1_0, .int .i64 a1_1] 56 (0, 0)) qz3) (below_size qz0))
                   have n2_ := Aside0.mk (blk_below (g := gb504) (o := .cells #[.int .i64 a1_0, .int .i64 a1_1] 56 (0, 0)) qz3 hb)
                   have n3_ := Aside0.mk (below_step qz0 hb)
                   clear HO554
                   clear BK504
                   clear HB
                   have HO554 := n0_
                   have HO544 := n1_
                   have BK504 := n2_
                   have HB := n3_
                   clear n0_ n1_ n2_ n3_
                   clear hb ho78
                   refine hK.out _ _ ⟨(blk_cell BK504.out 0).trans rfl, (blk_cell BK504.out 1).trans rfl⟩ (fun hHeld => ?_)
                   clear hK K
                   refine norm_ (a' := ?_) ?_ ?_
                   rotate_left
                   ·
                    show Act.put _ (some 51) _ = _
                    simp only [Act.put, List.setIfInBounds_toArray, List.set_cons_zero, List.set_cons_succ, i64_w, i32_w]
                    rfl
                   refine one_ (i := 4) (N := some 55) #[true, true, true, true, true, true, true, false, true, false, false] rfl rfl (one_of HT_.out qz10) (by decide) (fun K hK => ?_)
                   refine Kd.R_append_rows_step k56 (w0 := w) w.heap.size (by rfl) (.tmp 51) (.tmp 54) 24 56 (.agg #[(.int .i64 0), (.int .i64 0)]) 16 rfl Try.underlying24 info56 rfl (by decide) (by omega) v543 y542 y545 _ _ _ (fun k_ => some k_ ≠ (v553 : Value).ownBlock ∧ k_ ≠ gb504) (fun _ => False) rfl rfl ?aO ?aR (fun _ _ h => h) (fun _ h => h.elim) ?aF ?aB ?aS ?aL ?_
                   (case aR => repeat (first | exact (Kd.C_below HR548.out HB.out) | (with_reducible refine Kd.C_alloc ?_ _) | (with_reducible refine Kd.C_drewN ?_ _) | (with_reducible refine Kd.C_drew ?_)))
                   (case aB => exact qz0)
                   (case aF => exact (fun k_ hk => ⟨Kd.fresh' (Kd.R_lt qz19) k_ hk, Kd.freshB (g := gb504) (o := .cells #[.int .i64 a1_0, .int .i64 a1_1] 56 (0, 0)) qz3 k_ hk⟩))
                   (case aO => exact (by (with_reducible repeat (first | apply Kd.R_alloc | apply Kd.R_drewN | apply Kd.R_drew)); exact Kd.R_mono HO544.out (fun _ hk => ⟨hk.1.2, hk.2⟩)))
                   (case aS => exact (below_size qz0))
                   (case aL => have := LMc68.out; omega)
                   intro v550 w79 ho hb hg hat
                   rw [← Ny549.out] at ho
                   have n0_ := Aside0.mk (blk_grown (g := gb504) (o := .cells #[.int .i64 a1_0, .int .i64 a1_1] 56 (0, 0)) qz3 hg (Kd.R_away HO544.out (fun _ hk => hk.2)))
                   have n1_ := Aside0.mk (Kd.R_after (ok := (fun k_ => k_ ≠ gb504)) qz63 hg hat)
                   have n2_ := Aside0.mk (hb)
                   have n3_ := Aside0.mk (ho)
                   clear BK504
                   clear HO554
                   clear HB
                   clear HO544
                   have BK504 := n0_
                   have HO554 := n1_
                   have HB := n2_
                   have HO551 := n3_
                   clear n0_ n1_ n2_ n3_
                   clear ho hb hg hat
                   refine hK.out _ _ ⟨(blk_cell BK504.out 0).trans rfl, (blk_cell BK504.out 1).trans rfl⟩ (fun hHeld => ?_)
                   clear hK K
                   refine norm_ (a' := ?_) ?_ ?_
                   rotate_left
                   ·
                    show Act.put _ (some 55) _ = _
                    simp only [Act.put, List.setIfInBounds_toArray, List.set_cons_zero, List.set_cons_succ, i64_w, i32_w]
                    rfl
                   exact norm_ qz25 (hCont (v543, v550, v553) _ ⟨hHeld, qz47, qz55, qz3, qz0⟩)
                 rintro ⟨v543, v550, v553⟩ w80 ⟨hS_, h0_, h1_, h2_, h3_⟩
                 have n0_ : Aside0 (Kd.R k56 56 w80 w.heap.size (fun k_ => some k_ ≠ (v553 : Value).ownBlock ∧ k_ ≠ gb504) v550 y549) := ⟨h0_⟩
                 have n1_ : Aside0 (Kd.R k56 56 w80 w.heap.size (fun k_ => some k_ ≠ (v550 : Value).ownBlock ∧ k_ ≠ gb504) v553 y552) := ⟨h1_⟩
                 have n2_ : Aside0 (w80.heap[gb504]? = some (.cells #[.int .i64 a1_0, .int .i64 a1_1] 56 (0, 0))) := ⟨h2_⟩
                 have n3_ : Aside0 (Below w.heap.size w w80) := ⟨h3_⟩
                 clear BK504
                 clear HB
                 clear h0_ h1_ h2_ h3_
                 have HO551 := n0_
                 have HO554 := n1_
                 have BK504 := n2_
                 have HB := n3_
                 clear n0_ n1_ n2_ n3_
                 have hHeld : w80.cell? ⟨gb504, 0, none⟩ = some (.int .i64 a1_0) ∧ w80.cell? ⟨gb504, 1, none⟩ = some (.int .i64 a1_1) := hS_
                 obtain ⟨Ao82, co82, eo82⟩ := Kd.R_slice HO554.out
                 (first | subst eo82 | (injection eo82 with f1_ f2_ f3_; have f4_ := f1_.symm; have f5_ := f3_.symm; clear f1_ f2_ f3_; subst f4_; subst f5_))
                 refine norm_ (a' := ?_) ?_ ?_
                 rotate_left
                 ·
                  simp only [putAll, Act.put, List.setIfInBounds_toArray, List.set_cons_zero, List.set_cons_succ]
                  rfl
                 refine one_ (i := 7) (N := some 58) #[true, true, true, true, true, true, true, true, true, false, false] rfl rfl (one_of HT_.out qz10) (by decide) (fun K hK => ?_)
                 refine Kd.R_append_rows_step k56 (w0 := w) w.heap.size (by rfl) (.tmp 55) (.tmp 57) 24 56 (.agg #[(.int .i64 0), (.int .i64 0)]) 16 rfl Try.underlying24 info56 rfl (by decide) (by omega) v550 y549 y552 _ _ _ (fun k_ => some k_ ≠ (.slice Ao82 y552.length co82 : Value).ownBlock ∧ k_ ≠ gb504) (fun _ => False) rfl rfl ?aO ?aR (fun _ _ h => h) (fun _ h => h.elim) ?aF ?aB ?aS ?aL ?_
                 (case aR => repeat (first | exact (Kd.R_reads' HO554.out).2.2 | (with_reducible refine Kd.C_alloc ?_ _) | (with_reducible refine Kd.C_drewN ?_ _) | (with_reducible refine Kd.C_drew ?_)))
                 (case aB => exact qz0)
                 (case aF => exact (fun k_ hk => ⟨Kd.fresh' (Kd.R_lt qz19) k_ hk, Kd.freshB (g := gb504) (o := .cells #[.int .i64 a1_0, .int .i64 a1_1] 56 (0, 0)) qz3 k_ hk⟩))
                 (case aO => exact qz47)
                 (case aS => exact (below_size qz0))
                 (case aL => have := LMc69.out; omega)
                 intro v556 w81 ho hb hg hat
                 rw [← Ny555.out] at ho
                 have n0_ := Aside0.mk (blk_grown (g := gb504) (o := .cells #[.int .i64 a1_0, .int .i64 a1_1] 56 (0, 0)) qz3 hg (Kd.R_away HO551.out (fun _ hk => hk.2)))
                 have n1_ := Aside0.mk (Kd.R_after (ok := (fun k_ => k_ ≠ gb504)) qz55 hg hat)
                 have n2_ := Aside0.mk (hb)
                 have n3_ := Aside0.mk (ho)
                 clear BK504
                 clear HO554
                 clear HB
                 clear HO551
                 have BK504 := n0_
                 have HO554 := n1_
                 have HB := n2_
                 have HO557 := n3_
                 clear n0_ n1_ n2_ n3_
                 clear ho hb hg hat
                 refine hK.out _ _ ⟨(blk_cell BK504.out 0).trans rfl, (blk_cell BK504.out 1).trans rfl⟩ (fun hHeld => ?_)
                 clear hK K
                 refine norm_ (a' := ?_) ?_ ?_
                 rotate_left
                 ·
                  show Act.put _ (some 58) _ = _
                  simp only [Act.put, List.setIfInBounds_toArray, List.set_cons_zero, List.set_cons_succ, i64_w, i32_w]
                  rfl
                 refine one_ (i := 9) (N := some 60) #[true, true, true, true, true, true, true, true, true, true, false] rfl rfl (one_of HT_.out qz10) (by decide) (fun K hK => ?_)
                 refine Kd.R_append_rows_step k56 (w0 := w) w.heap.size (by rfl) (.tmp 58) (.tmp 59) 24 56 (.agg #[(.int .i64 0), (.int .i64 0)]) 16 rfl Try.underlying24 info56 rfl (by decide) (by omega) v556 y555 y510 _ _ _ (fun k_ => some k_ ≠ (.slice Ao82 y552.length co82 : Value).ownBlock ∧ k_ ≠ gb504) (fun _ => False) rfl rfl ?aO ?aR (fun _ _ h => h) (fun _ h => h.elim) ?aF ?aB ?aS ?aL ?_
                 (case aR => repeat (first | exact (Kd.C_below HR513.out HB.out) | (with_reducible refine Kd.C_alloc ?_ _) | (with_reducible refine Kd.C_drewN ?_ _) | (with_reducible refine Kd.C_drew ?_)))
                 (case aB => exact qz0)
                 (case aF => exact (fun k_ hk => ⟨Kd.fresh' (Kd.R_lt qz19) k_ hk, Kd.freshB (g := gb504) (o := .cells #[.int .i64 a1_0, .int .i64 a1_1] 56 (0, 0)) qz3 k_ hk⟩))
                 (case aO => exact (by (with_reducible repeat (first | apply Kd.R_alloc | apply Kd.R_drewN | apply Kd.R_drew)); exact HO557.out))
                 (case aS => exact (below_size qz0))
                 (case aL => have := LMc70.out; omega)
                 intro v559 w83 ho hb hg hat
                 rw [← Ny558.out] at ho
                 have n0_ := Aside0.mk (blk_grown (g := gb504) (o := .cells #[.int .i64 a1_0, .int .i64 a1_1] 56 (0, 0)) qz3 hg (Kd.R_away HO557.out (fun _ hk => hk.2)))
                 have n1_ := Aside0.mk (Kd.R_after (ok := (fun k_ => k_ ≠ gb504)) qz19 hg hat)
                 have n2_ := Aside0.mk (hb)
                 have n3_ := Aside0.mk (ho)
                 clear BK504
                 clear HO554
                 clear HB
                 clear HO557
                 have BK504 := n0_
                 have HO554 := n1_
                 have HB := n2_
                 have HO560 := n3_
                 clear n0_ n1_ n2_ n3_
                 clear ho hb hg hat
                 refine hK.out _ _ ⟨(blk_cell BK504.out 0).trans rfl, (blk_cell BK504.out 1).trans rfl⟩ (fun hHeld => ?_)
                 clear hK K
                 refine norm_ (a' := ?_) ?_ ?_
                 rotate_left
                 ·
                  show Act.put _ (some 60) _ = _
                  simp only [Act.put, List.setIfInBounds_toArray, List.set_cons_zero, List.set_cons_succ, i64_w, i32_w]
                  rfl
                 refine pZ 10 (some 8) (bz 11 2047) ?_
                 refine done_ (done_of HT_.out qz10) ?_
                 obtain ⟨Ao84, co84, eo84⟩ := Kd.R_slice HO560.out
                 subst eo84
                 try go_wp2_with (first | ((with_reducible refine gate_callee (f := 54) rfl ?_); refine goesL_ (some 62) rfl rfl Try.func54 qz10 rfl #[.slice Ao84 y558.length co84] rfl qz2 ?_; (with_reducible refine (spec_l11Good.calls kj20 _ _ y558 true _ ?side1 ?side2 A71.out).mono ?_); (case side1 => repeat (first | exact (Kd.R_reads' HO560.out).2.2 | (with_reducible refine Kd.C_alloc ?_ _) | (with_reducible refine Kd.C_drewN ?_ _) | (with_reducible refine Kd.C_drew ?_))); (case side2 => exact (Kd.R_reads' HO560.out).2.1); rintro e w85 ⟨rfl, hb⟩; refine ⟨_, rfl, ?_⟩; have n0_ := Aside0.mk (Kd.R_below qz19 hb); have n1_ := Aside0.mk (Kd.R_below qz70 hb); have n2_ := Aside0.mk (blk_below (g := gb504) (o := .cells #[.int .i64 a1_0, .int .i64 a1_1] 56 (0, 0)) qz3 hb); have n3_ := Aside0.mk (below_step qz0 hb); clear HO554; clear HO560; clear BK504; clear HB; have HO554 := n0_; have HO560 := n1_; have BK504 := n2_; have HB := n3_; clear n0_ n1_ n2_ n3_; (try clear hb); (try clear hb2); (try clear hk); (try clear hi)))
                 go_ret2
                 exact ⟨_, by first | rfl | (simp [errW_none, errW_some] <;> rfl) | (simp [*, errW_none, errW_some] <;> rfl), by (with_reducible repeat (first | apply Kd.R_alloc | apply Kd.R_drewN | apply Kd.R_drew)); exact Kd.R_mono HO560.out (fun _ hk => trivial), by repeat (first | (with_reducible first | exact HB.out | apply below_alloc | apply pw_below_drewN | apply below_drew1 | refine below_set ?_ GE504.out) | exact HB.out)⟩
                ·
                 replace c72 := Bool.eq_false_iff.mpr c72
                 subst c72
                 have H1 : (some ((([] : List (S56))), false)) = some (r1, r2) := by rw [if_neg (show ¬ (false = true) by decide)] at H; exact H
                 clear H
                 have H := H1
                 clear H1
                 obtain ⟨y562, hy562⟩ : ∃ y_ : List (S56), y_ = (([] : List (S56))) := ⟨_, rfl⟩
                 replace H : (some (y562, false)) = some (r1, r2) := by first | (rw [hy562]; with_reducible exact H) | (have H2_ := (Option.bind_some _ _).symm.trans H; rw [hy562]; with_reducible exact H2_) | (have H2_ := (Option.bind_some _ _).symm.trans H; with_reducible exact H2_) | with_reducible exact H | (rw [hy562]; exact H) | exact H
                 have Ny562 := Aside0.mk hy562
                 clear hy562
                 simp only [Option.some.injEq, Prod.mk.injEq] at H
                 obtain ⟨rfl, rfl⟩ := H
                 try go_wp2
                 have n0_ := Aside0.mk (blk_drew BK504.out)
                 have n1_ := Aside0.mk (below_drew1 HB.out)
                 clear BK504
                 clear HB
                 have BK504 := n0_
                 have HB := n1_
                 clear n0_ n1_
                 have q87 : (x6_11 : Int) ≤ ((l0.length : Int) : Int) := of_decide_eq_true qz4
                 obtain ⟨i087, hi087, _, hsz87, _⟩ := info_parts info56
                 have hroom87 : l0.length ≤ c0 := HC0.out
                 have hC87 : Kd.C k56 _ A0 l0.length l0 := HR0.out
                 have hcut87 := cut_to (P := Try.prog) 24 56 .i64 Try.underlying24 hi087 A0 l0.length c0 x6_11 (of_decide_eq_true qz4) q87 hroom87
                 have hr87 := Kd.C_take (m := (x6_11 : Int).toNat) hC87 (by omega)
                 have hy87 : y545.length = (x6_11 : Int).toNat := (by rw [Ny545.out, List.length_take]; omega)
                 rw [← Ny545.out] at hr87
                 rw [← hy87] at hcut87
                 have HR548 := Aside0.mk hr87
                 have HC548 := Aside0.mk (show y545.length ≤ c0 from by omega)
                 clear hr87 hC87 hroom87 hi087 hsz87
                 have KY87 := Aside0.mk hy87
                 clear hy87
                 replace q87 := eq_true q87
                 refine start_ (n := 11) (S := fun w' => w'.cell? ⟨gb504, 0, none⟩ = some (.int .i64 a1_0) ∧ w'.cell? ⟨gb504, 1, none⟩ = some (.int .i64 a1_1)) (ds := []) #[false, false, false, false, false, false, false, false, false, false, false] qz10 rfl rfl ⟨(blk_cell BK504.out 0).trans rfl, (blk_cell BK504.out 1).trans rfl⟩ (fun hHeld => ?_); refine with_tabW spec_AddPoint.tab9 spec_AddPoint.bits9 (fun HT_ HW_ => ?_)
                 generalize wc.drew = w86 at BK504 HB HR548 hHeld ⊢
                 refine pZ 1 (some 52) (bz 11 2) ?_
                 refine pZ 2 (some 53) (bz 11 6) ?_
                 refine pZ 3 (some 54) (bz 11 14) ?_
                 refine pZ 8 (some 59) (bz 11 270) ?_
                 refine tZ2 5 (some 56) (bz 11 302) ?_
                 refine join_ (σ := Value × Value × Value) 3 #[true, true, true, true, true, true, true, false, true, false, false] (fun s_ => [(51, s_.1), (55, s_.2.1), (57, s_.2.2)]) (fun s_ w' => (w'.cell? ⟨gb504, 0, none⟩ = some (.int .i64 a1_0) ∧ w'.cell? ⟨gb504, 1, none⟩ = some (.int .i64 a1_1)) ∧ (Kd.R k56 56 w' w.heap.size (fun k_ => some k_ ≠ (s_.2.2 : Value).ownBlock ∧ k_ ≠ gb504) s_.2.1 y549) ∧ (Kd.R k56 56 w' w.heap.size (fun k_ => some k_ ≠ (s_.2.1 : Value).ownBlock ∧ k_ ≠ gb504) s_.2.2 y552) ∧ (w'.heap[gb504]? = some (.cells #[.int .i64 a1_0, .int .i64 a1_1] 56 (0, 0))) ∧ (Below w.heap.size w w')) ?_ ?_
                 rotate_left
                 ·
                  intro hCont
                  refine two_ (i := 0) (j := 6) (Ni := some 51) (Nj := some 57) #[true, true, true, true, false, true, false, false, true, false, false] #[false, true, true, true, false, true, true, false, true, false, false] rfl rfl rfl rfl (two_of HT_.out qz10) (by decide) (by decide) (fun K hK => ?_) (fun K hK => ?_)
                  ·
                   skip
                   refine Kd.R_lit_step k56 _ 56 ?hg (N := 51) ?hd (xs := ([] : List (S56))) (inner := []) (ok := fun _ => True) (okp := fun _ => True) ?hr ?hp (fun _ hk => hk) trivial (Below.refl _ _) (Nat.le_refl _) (by simp) ?_; (case hd => rfl); (case hg => rfl); (case hr => first | (go_simp; done) | (go_simp; rfl)); (case hp => exact (Reps.none _ _))
                   intro v543 w88 ho89 hb hg_ hnew_
                   clear hg_ hnew_
                   (first | rw [← Ny542.out] at ho89 | (simp only [Int.reduceToNat] at ho89; rw [← Ny542.out] at ho89))
                   have n0_ := Aside0.mk (Kd.R_lower (Kd.R_newB ho89 (g := gb504) (o := .cells #[.int .i64 a1_0, .int .i64 a1_1] 56 (0, 0)) qz3) (below_size qz0))
                   have n1_ := Aside0.mk (blk_below (g := gb504) (o := .cells #[.int .i64 a1_0, .int .i64 a1_1] 56 (0, 0)) qz3 hb)
                   have n2_ := Aside0.mk (below_step qz0 hb)
                   clear BK504
                   clear HB
                   have HO544 := n0_
                   have BK504 := n1_
                   have HB := n2_
                   clear n0_ n1_ n2_
                   clear hb ho89
                   refine hK.out _ _ ⟨(blk_cell BK504.out 0).trans rfl, (blk_cell BK504.out 1).trans rfl⟩ (fun hHeld => ?_)
                   clear hK K
                   refine norm_ (a' := ?_) ?_ ?_
                   rotate_left
                   ·
                    show Act.put _ (some 51) _ = _
                    simp only [Act.put, List.setIfInBounds_toArray, List.set_cons_zero, List.set_cons_succ, i64_w, i32_w]
                    rfl
                   refine two_ (i := 4) (j := 6) (Ni := some 55) (Nj := some 57) #[true, true, true, true, true, true, false, false, true, false, false] #[true, true, true, true, false, true, true, false, true, false, false] rfl rfl rfl rfl (two_of HT_.out qz10) (by decide) (by decide) (fun K hK => ?_) (fun K hK => ?_)
                   ·
                    skip
                    refine Kd.R_append_rows_step k56 (w0 := w) w.heap.size (by rfl) (.tmp 51) (.tmp 54) 24 56 (.agg #[(.int .i64 0), (.int .i64 0)]) 16 rfl Try.underlying24 info56 rfl (by decide) (by omega) v543 y542 y545 _ _ _ (fun k_ => k_ ≠ gb504) (fun _ => False) rfl rfl ?aO ?aR (fun _ _ h => h) (fun _ h => h.elim) ?aF ?aB ?aS ?aL ?_
                    (case aR => repeat (first | exact (Kd.C_below HR548.out HB.out) | (with_reducible refine Kd.C_alloc ?_ _) | (with_reducible refine Kd.C_drewN ?_ _) | (with_reducible refine Kd.C_drew ?_)))
                    (case aB => exact qz0)
                    (case aF => exact (fun k_ hk => Kd.freshB (g := gb504) (o := .cells #[.int .i64 a1_0, .int .i64 a1_1] 56 (0, 0)) qz3 k_ hk))
                    (case aO => exact (by (with_reducible repeat (first | apply Kd.R_alloc | apply Kd.R_drewN | apply Kd.R_drew)); exact Kd.R_mono HO544.out (fun _ hk => hk.2)))
                    (case aS => exact (below_size qz0))
                    (case aL => have := LMc68.out; omega)
                    intro v550 w90 ho hb hg hat
                    rw [← Ny549.out] at ho
                    have n0_ := Aside0.mk (blk_grown (g := gb504) (o := .cells #[.int .i64 a1_0, .int .i64 a1_1] 56 (0, 0)) qz3 hg (Kd.R_away HO544.out (fun _ hk => hk.2)))
                    have n1_ := Aside0.mk (hb)
                    have n2_ := Aside0.mk (ho)
                    clear BK504
                    clear HB
                    clear HO544
                    have BK504 := n0_
                    have HB := n1_
                    have HO551 := n2_
                    clear n0_ n1_ n2_
                    clear ho hb hg hat
                    refine hK.out _ _ ⟨(blk_cell BK504.out 0).trans rfl, (blk_cell BK504.out 1).trans rfl⟩ (fun hHeld => ?_)
                    clear hK K
                    refine norm_ (a' := ?_) ?_ ?_
                    rotate_left
                    ·
                     show Act.put _ (some 55) _ = _
                     simp only [Act.put, List.setIfInBounds_toArray, List.set_cons_zero, List.set_cons_succ, i64_w, i32_w]
                     rfl
                    refine one_ (i := 6) (N := some 57) #[true, true, true, true, true, true, true, false, true, false, false] rfl rfl (one_of HT_.out qz10) (by decide) (fun K hK => ?_)
                    refine Kd.R_lit_step k56 _ 56 ?hg (N := 57) ?hd (xs := ([(⟨a1_0, a1_1⟩ : S56)] : List (S56))) (inner := [.int .i64 a1_0, .int .i64 a1_1]) (ok := fun _ => True) (okp := fun _ => True) ?hr ?hp (fun _ hk => hk) trivial (Below.refl _ _) (Nat.le_refl _) (by simp) ?_; (case hd => rfl); (case hg => rfl); (case hr => first | (go_simp; done) | (go_simp; rfl)); (case hp => exact (Reps.c2 (show Kd.M k56 _ _ _ (⟨a1_0, a1_1⟩ : S56) [.int .i64 a1_0, .int .i64 a1_1] from (k56_mkM _ _ _ (⟨a1_0, a1_1⟩ : S56) )) (Reps.none _ _)))
                    intro v553 w91 ho92 hb hg_ hnew_
                    clear hg_ hnew_
                    (first | rw [← Ny552.out] at ho92 | (simp only [Int.reduceToNat] at ho92; rw [← Ny552.out] at ho92))
                    have n0_ := Aside0.mk (Kd.R_elder' qz47 (Kd.R_base ho92) hb)
                    have n1_ := Aside0.mk (Kd.R_lower (Kd.R_newB (Kd.R_new' ho92 (Kd.R_lt qz47)) (g := gb504) (o := .cells #[.int .i64 a1_0, .int .i64 a1_1] 56 (0, 0)) qz3) (below_size qz0))
                    have n2_ := Aside0.mk (blk_below (g := gb504) (o := .cells #[.int .i64 a1_0, .int .i64 a1_1] 56 (0, 0)) qz3 hb)
                    have n3_ := Aside0.mk (below_step qz0 hb)
                    clear HO551
                    clear BK504
                    clear HB
                    have HO551 := n0_
                    have HO554 := n1_
                    have BK504 := n2_
                    have HB := n3_
                    clear n0_ n1_ n2_ n3_
                    clear hb ho92
                    refine hK.out _ _ ⟨(blk_cell BK504.out 0).trans rfl, (blk_cell BK504.out 1).trans rfl⟩ (fun hHeld => ?_)
                    clear hK K
                    refine norm_ (a' := ?_) ?_ ?_
                    rotate_left
                    ·
                     show Act.put _ (some 57) _ = _
                     simp only [Act.put, List.setIfInBounds_toArray, List.set_cons_zero, List.set_cons_succ, i64_w, i32_w]
                     rfl
                    exact norm_ qz25 (hCont (v543, v550, v553) _ ⟨hHeld, (by (with_reducible repeat (first | apply Kd.R_alloc | apply Kd.R_drewN | apply Kd.R_drew)); exact Kd.R_mono HO551.out (fun _ hk => ⟨hk.2, hk.1⟩)), qz63, qz3, qz0⟩)
                   ·
                    skip
                    refine Kd.R_lit_step k56 _ 56 ?hg (N := 57) ?hd (xs := ([(⟨a1_0, a1_1⟩ : S56)] : List (S56))) (inner := [.int .i64 a1_0, .int .i64 a1_1]) (ok := fun _ => True) (okp := fun _ => True) ?hr ?hp (fun _ hk => hk) trivial (Below.refl _ _) (Nat.le_refl _) (by simp) ?_; (case hd => rfl); (case hg => rfl); (case hr => first | (go_simp; done) | (go_simp; rfl)); (case hp => exact (Reps.c2 (show Kd.M k56 _ _ _ (⟨a1_0, a1_1⟩ : S56) [.int .i64 a1_0, .int .i64 a1_1] from (k56_mkM _ _ _ (⟨a1_0, a1_1⟩ : S56) )) (Reps.none _ _)))
                    intro v553 w90 ho91 hb hg_ hnew_
                    clear hg_ hnew_
                    (first | rw [← Ny552.out] at ho91 | (simp only [Int.reduceToNat] at ho91; rw [← Ny552.out] at ho91))
                    have n0_ := Aside0.mk (Kd.R_elder' qz71 (Kd.R_base ho91) hb)
                    have n1_ := Aside0.mk (Kd.R_lower (Kd.R_newB (Kd.R_new' ho91 (Kd.R_lt qz71)) (g := gb504) (o := .cells #[.int .i64 a1_0, .int .i64 a1_1] 56 (0, 0)) qz3) (below_size qz0))
                    have n2_ := Aside0.mk (blk_below (g := gb504) (o := .cells #[.int .i64 a1_0, .int .i64 a1_1] 56 (0, 0)) qz3 hb)
                    have n3_ := Aside0.mk (below_step qz0 hb)
                    clear HO544
                    clear BK504
                    clear HB
                    have HO544 := n0_
                    have HO554 := n1_
                    have BK504 := n2_
                    have HB := n3_
                    clear n0_ n1_ n2_ n3_
                    clear hb ho91
                    refine hK.out _ _ ⟨(blk_cell BK504.out 0).trans rfl, (blk_cell BK504.out 1).trans rfl⟩ (fun hHeld => ?_)
                    clear hK K
                    refine norm_ (a' := ?_) ?_ ?_
                    rotate_left
                    ·
                     show Act.put _ (some 57) _ = _
                     simp only [Act.put, List.setIfInBounds_toArray, List.set_cons_zero, List.set_cons_succ, i64_w, i32_w]
                     rfl
                    refine one_ (i := 4) (N := some 55) #[true, true, true, true, true, true, true, false, true, false, false] rfl rfl (one_of HT_.out qz10) (by decide) (fun K hK => ?_)
                    refine Kd.R_append_rows_step k56 (w0 := w) w.heap.size (by rfl) (.tmp 51) (.tmp 54) 24 56 (.agg #[(.int .i64 0), (.int .i64 0)]) 16 rfl Try.underlying24 info56 rfl (by decide) (by omega) v543 y542 y545 _ _ _ (fun k_ => some k_ ≠ (v553 : Value).ownBlock ∧ k_ ≠ gb504) (fun _ => False) rfl rfl ?aO ?aR (fun _ _ h => h) (fun _ h => h.elim) ?aF ?aB ?aS ?aL ?_
                    (case aR => repeat (first | exact (Kd.C_below HR548.out HB.out) | (with_reducible refine Kd.C_alloc ?_ _) | (with_reducible refine Kd.C_drewN ?_ _) | (with_reducible refine Kd.C_drew ?_)))
                    (case aB => exact qz0)
                    (case aF => exact (fun k_ hk => ⟨Kd.fresh' (Kd.R_lt qz19) k_ hk, Kd.freshB (g := gb504) (o := .cells #[.int .i64 a1_0, .int .i64 a1_1] 56 (0, 0)) qz3 k_ hk⟩))
                    (case aO => exact (by (with_reducible repeat (first | apply Kd.R_alloc | apply Kd.R_drewN | apply Kd.R_drew)); exact Kd.R_mono HO544.out (fun _ hk => ⟨hk.2, hk.1.2⟩)))
                    (case aS => exact (below_size qz0))
                    (case aL => have := LMc68.out; omega)
                    intro v550 w92 ho hb hg hat
                    rw [← Ny549.out] at ho
                    have n0_ := Aside0.mk (blk_grown (g := gb504) (o := .cells #[.int .i64 a1_0, .int .i64 a1_1] 56 (0, 0)) qz3 hg (Kd.R_away HO544.out (fun _ hk => hk.1.2)))
                    have n1_ := Aside0.mk (Kd.R_after (ok := (fun k_ => k_ ≠ gb504)) (by (with_reducible repeat (first | apply Kd.R_alloc | apply Kd.R_drewN | apply Kd.R_drew)); exact Kd.R_mono HO554.out (fun _ hk => ⟨hk.2, hk.1.2⟩)) hg hat)
                    have n2_ := Aside0.mk (hb)
                    have n3_ := Aside0.mk (ho)
                    clear BK504
                    clear HO554
                    clear HB
                    clear HO544
                    have BK504 := n0_
                    have HO554 := n1_
                    have HB := n2_
                    have HO551 := n3_
                    clear n0_ n1_ n2_ n3_
                    clear ho hb hg hat
                    refine hK.out _ _ ⟨(blk_cell BK504.out 0).trans rfl, (blk_cell BK504.out 1).trans rfl⟩ (fun hHeld => ?_)
                    clear hK K
                    refine norm_ (a' := ?_) ?_ ?_
                    rotate_left
                    ·
                     show Act.put _ (some 55) _ = _
                     simp only [Act.put, List.setIfInBounds_toArray, List.set_cons_zero, List.set_cons_succ, i64_w, i32_w]
                     rfl
                    exact norm_ qz25 (hCont (v543, v550, v553) _ ⟨hHeld, qz47, qz55, qz3, qz0⟩)
                  ·
                   skip
                   refine Kd.R_lit_step k56 _ 56 ?hg (N := 57) ?hd (xs := ([(⟨a1_0, a1_1⟩ : S56)] : List (S56))) (inner := [.int .i64 a1_0, .int .i64 a1_1]) (ok := fun _ => True) (okp := fun _ => True) ?hr ?hp (fun _ hk => hk) trivial (Below.refl _ _) (Nat.le_refl _) (by simp) ?_; (case hd => rfl); (case hg => rfl); (case hr => first | (go_simp; done) | (go_simp; rfl)); (case hp => exact (Reps.c2 (show Kd.M k56 _ _ _ (⟨a1_0, a1_1⟩ : S56) [.int .i64 a1_0, .int .i64 a1_1] from (k56_mkM _ _ _ (⟨a1_0, a1_1⟩ : S56) )) (Reps.none _ _)))
                   intro v553 w88 ho89 hb hg_ hnew_
                   clear hg_ hnew_
                   (first | rw [← Ny552.out] at ho89 | (simp only [Int.reduceToNat] at ho89; rw [← Ny552.out] at ho89))
                   have n0_ := Aside0.mk (Kd.R_lower (Kd.R_newB ho89 (g := gb504) (o := .cells #[.int .i64 a1_0, .int .i64 a1_1] 56 (0, 0)) qz3) (below_size qz0))
                   have n1_ := Aside0.mk (blk_below (g := gb504) (o := .cells #[.int .i64 a1_0, .int .i64 a1_1] 56 (0, 0)) qz3 hb)
                   have n2_ := Aside0.mk (below_step qz0 hb)
                   clear BK504
                   clear HB
                   have HO554 := n0_
                   have BK504 := n1_
                   have HB := n2_
                   clear n0_ n1_ n2_
                   clear hb ho89
                   refine hK.out _ _ ⟨(blk_cell BK504.out 0).trans rfl, (blk_cell BK504.out 1).trans rfl⟩ (fun hHeld => ?_)
                   clear hK K
                   refine norm_ (a' := ?_) ?_ ?_
                   rotate_left
                   ·
                    show Act.put _ (some 57) _ = _
                    simp only [Act.put, List.setIfInBounds_toArray, List.set_cons_zero, List.set_cons_succ, i64_w, i32_w]
                    rfl
                   refine one_ (i := 0) (N := some 51) #[true, true, true, true, false, true, true, false, true, false, false] rfl rfl (one_of HT_.out qz10) (by decide) (fun K hK => ?_)
                   refine Kd.R_lit_step k56 _ 56 ?hg (N := 51) ?hd (xs := ([] : List (S56))) (inner := []) (ok := fun _ => True) (okp := fun _ => True) ?hr ?hp (fun _ hk => hk) trivial (Below.refl _ _) (Nat.le_refl _) (by simp) ?_; (case hd => rfl); (case hg => rfl); (case hr => first | (go_simp; done) | (go_simp; rfl)); (case hp => exact (Reps.none _ _))
                   intro v543 w90 ho91 hb hg_ hnew_
                   clear hg_ hnew_
                   (first | rw [← Ny542.out] at ho91 | (simp only [Int.reduceToNat] at ho91; rw [← Ny542.out] at ho91))
                   have n0_ := Aside0.mk (Kd.R_elder' qz19 (Kd.R_base ho91) hb)
                   have n1_ := Aside0.mk (Kd.R_lower (Kd.R_newB (Kd.R_new' ho91 (Kd.R_lt qz19)) (g := gb504) (o := .cells #[.int .i64 a1_0, .int .i64 a1_1] 56 (0, 0)) qz3) (below_size qz0))
                   have n2_ := Aside0.mk (blk_below (g := gb504) (o := .cells #[.int .i64 a1_0, .int .i64 a1_1] 56 (0, 0)) qz3 hb)
                   have n3_ := Aside0.mk (below_step qz0 hb)
                   clear HO554
                   clear BK504
                   clear HB
                   have HO554 := n0_
                   have HO544 := n1_
                   have BK504 := n2_
                   have HB := n3_
                   clear n0_ n1_ n2_ n3_
                   clear hb ho91
                   refine hK.out _ _ ⟨(blk_cell BK504.out 0).trans rfl, (blk_cell BK504.out 1).trans rfl⟩ (fun hHeld => ?_)
                   clear hK K
                   refine norm_ (a' := ?_) ?_ ?_
                   rotate_left
                   ·
                    show Act.put _ (some 51) _ = _
                    simp only [Act.put, List.setIfInBounds_toArray, List.set_cons_zero, List.set_cons_succ, i64_w, i32_w]
                    rfl
                   refine one_ (i := 4) (N := some 55) #[true, true, true, true, true, true, true, false, true, false, false] rfl rfl (one_of HT_.out qz10) (by decide) (fun K hK => ?_)
                   refine Kd.R_append_rows_step k56 (w0 := w) w.heap.size (by rfl) (.tmp 51) (.tmp 54) 24 56 (.agg #[(.int .i64 0), (.int .i64 0)]) 16 rfl Try.underlying24 info56 rfl (by decide) (by omega) v543 y542 y545 _ _ _ (fun k_ => some k_ ≠ (v553 : Value).ownBlock ∧ k_ ≠ gb504) (fun _ => False) rfl rfl ?aO ?aR (fun _ _ h => h) (fun _ h => h.elim) ?aF ?aB ?aS ?aL ?_
                   (case aR => repeat (first | exact (Kd.C_below HR548.out HB.out) | (with_reducible refine Kd.C_alloc ?_ _) | (with_reducible refine Kd.C_drewN ?_ _) | (with_reducible refine Kd.C_drew ?_)))
                   (case aB => exact qz0)
                   (case aF => exact (fun k_ hk => ⟨Kd.fresh' (Kd.R_lt qz19) k_ hk, Kd.freshB (g := gb504) (o := .cells #[.int .i64 a1_0, .int .i64 a1_1] 56 (0, 0)) qz3 k_ hk⟩))
                   (case aO => exact (by (with_reducible repeat (first | apply Kd.R_alloc | apply Kd.R_drewN | apply Kd.R_drew)); exact Kd.R_mono HO544.out (fun _ hk => ⟨hk.1.2, hk.2⟩)))
                   (case aS => exact (below_size qz0))
                   (case aL => have := LMc68.out; omega)
                   intro v550 w92 ho hb hg hat
                   rw [← Ny549.out] at ho
                   have n0_ := Aside0.mk (blk_grown (g := gb504) (o := .cells #[.int .i64 a1_0, .int .i64 a1_1] 56 (0, 0)) qz3 hg (Kd.R_away HO544.out (fun _ hk => hk.2)))
                   have n1_ := Aside0.mk (Kd.R_after (ok := (fun k_ => k_ ≠ gb504)) qz63 hg hat)
                   have n2_ := Aside0.mk (hb)
                   have n3_ := Aside0.mk (ho)
                   clear BK504
                   clear HO554
                   clear HB
                   clear HO544
                   have BK504 := n0_
                   have HO554 := n1_
                   have HB := n2_
                   have HO551 := n3_
                   clear n0_ n1_ n2_ n3_
                   clear ho hb hg hat
                   refine hK.out _ _ ⟨(blk_cell BK504.out 0).trans rfl, (blk_cell BK504.out 1).trans rfl⟩ (fun hHeld => ?_)
                   clear hK K
                   refine norm_ (a' := ?_) ?_ ?_
                   rotate_left
                   ·
                    show Act.put _ (some 55) _ = _
                    simp only [Act.put, List.setIfInBounds_toArray, List.set_cons_zero, List.set_cons_succ, i64_w, i32_w]
                    rfl
                   exact norm_ qz25 (hCont (v543, v550, v553) _ ⟨hHeld, qz47, qz55, qz3, qz0⟩)
                 rintro ⟨v543, v550, v553⟩ w93 ⟨hS_, h0_, h1_, h2_, h3_⟩
                 have n0_ : Aside0 (Kd.R k56 56 w93 w.heap.size (fun k_ => some k_ ≠ (v553 : Value).ownBlock ∧ k_ ≠ gb504) v550 y549) := ⟨h0_⟩
                 have n1_ : Aside0 (Kd.R k56 56 w93 w.heap.size (fun k_ => some k_ ≠ (v550 : Value).ownBlock ∧ k_ ≠ gb504) v553 y552) := ⟨h1_⟩
                 have n2_ : Aside0 (w93.heap[gb504]? = some (.cells #[.int .i64 a1_0, .int .i64 a1_1] 56 (0, 0))) := ⟨h2_⟩
                 have n3_ : Aside0 (Below w.heap.size w w93) := ⟨h3_⟩
                 clear BK504
                 clear HB
                 clear h0_ h1_ h2_ h3_
                 have HO551 := n0_
                 have HO554 := n1_
                 have BK504 := n2_
                 have HB := n3_
                 clear n0_ n1_ n2_ n3_
                 have hHeld : w93.cell? ⟨gb504, 0, none⟩ = some (.int .i64 a1_0) ∧ w93.cell? ⟨gb504, 1, none⟩ = some (.int .i64 a1_1) := hS_
                 obtain ⟨Ao95, co95, eo95⟩ := Kd.R_slice HO554.out
                 (first | subst eo95 | (injection eo95 with f1_ f2_ f3_; have f4_ := f1_.symm; have f5_ := f3_.symm; clear f1_ f2_ f3_; subst f4_; subst f5_))
                 refine norm_ (a' := ?_) ?_ ?_
                 rotate_left
                 ·
                  simp only [putAll, Act.put, List.setIfInBounds_toArray, List.set_cons_zero, List.set_cons_succ]
                  rfl
                 refine one_ (i := 7) (N := some 58) #[true, true, true, true, true, true, true, true, true, false, false] rfl rfl (one_of HT_.out qz10) (by decide) (fun K hK => ?_)
                 refine Kd.R_append_rows_step k56 (w0 := w) w.heap.size (by rfl) (.tmp 55) (.tmp 57) 24 56 (.agg #[(.int .i64 0), (.int .i64 0)]) 16 rfl Try.underlying24 info56 rfl (by decide) (by omega) v550 y549 y552 _ _ _ (fun k_ => some k_ ≠ (.slice Ao95 y552.length co95 : Value).ownBlock ∧ k_ ≠ gb504) (fun _ => False) rfl rfl ?aO ?aR (fun _ _ h => h) (fun _ h => h.elim) ?aF ?aB ?aS ?aL ?_
                 (case aR => repeat (first | exact (Kd.R_reads' HO554.out).2.2 | (with_reducible refine Kd.C_alloc ?_ _) | (with_reducible refine Kd.C_drewN ?_ _) | (with_reducible refine Kd.C_drew ?_)))
                 (case aB => exact qz0)
                 (case aF => exact (fun k_ hk => ⟨Kd.fresh' (Kd.R_lt qz19) k_ hk, Kd.freshB (g := gb504) (o := .cells #[.int .i64 a1_0, .int .i64 a1_1] 56 (0, 0)) qz3 k_ hk⟩))
                 (case aO => exact qz47)
                 (case aS => exact (below_size qz0))
                 (case aL => have := LMc69.out; omega)
                 intro v556 w94 ho hb hg hat
                 rw [← Ny555.out] at ho
                 have n0_ := Aside0.mk (blk_grown (g := gb504) (o := .cells #[.int .i64 a1_0, .int .i64 a1_1] 56 (0, 0)) qz3 hg (Kd.R_away HO551.out (fun _ hk => hk.2)))
                 have n1_ := Aside0.mk (Kd.R_after (ok := (fun k_ => k_ ≠ gb504)) qz55 hg hat)
                 have n2_ := Aside0.mk (hb)
                 have n3_ := Aside0.mk (ho)
                 clear BK504
                 clear HO554
                 clear HB
                 clear HO551
                 have BK504 := n0_
                 have HO554 := n1_
                 have HB := n2_
                 have HO557 := n3_
                 clear n0_ n1_ n2_ n3_
                 clear ho hb hg hat
                 refine hK.out _ _ ⟨(blk_cell BK504.out 0).trans rfl, (blk_cell BK504.out 1).trans rfl⟩ (fun hHeld => ?_)
                 clear hK K
                 refine norm_ (a' := ?_) ?_ ?_
                 rotate_left
                 ·
                  show Act.put _ (some 58) _ = _
                  simp only [Act.put, List.setIfInBounds_toArray, List.set_cons_zero, List.set_cons_succ, i64_w, i32_w]
                  rfl
                 refine one_ (i := 9) (N := some 60) #[true, true, true, true, true, true, true, true, true, true, false] rfl rfl (one_of HT_.out qz10) (by decide) (fun K hK => ?_)
                 refine Kd.R_append_rows_step k56 (w0 := w) w.heap.size (by rfl) (.tmp 58) (.tmp 59) 24 56 (.agg #[(.int .i64 0), (.int .i64 0)]) 16 rfl Try.underlying24 info56 rfl (by decide) (by omega) v556 y555 y510 _ _ _ (fun k_ => some k_ ≠ (.slice Ao95 y552.length co95 : Value).ownBlock ∧ k_ ≠ gb504) (fun _ => False) rfl rfl ?aO ?aR (fun _ _ h => h) (fun _ h => h.elim) ?aF ?aB ?aS ?aL ?_
                 (case aR => repeat (first | exact (Kd.C_below HR513.out HB.out) | (with_reducible refine Kd.C_alloc ?_ _) | (with_reducible refine Kd.C_drewN ?_ _) | (with_reducible refine Kd.C_drew ?_)))
                 (case aB => exact qz0)
                 (case aF => exact (fun k_ hk => ⟨Kd.fresh' (Kd.R_lt qz19) k_ hk, Kd.freshB (g := gb504) (o := .cells #[.int .i64 a1_0, .int .i64 a1_1] 56 (0, 0)) qz3 k_ hk⟩))
                 (case aO => exact (by (with_reducible repeat (first | apply Kd.R_alloc | apply Kd.R_drewN | apply Kd.R_drew)); exact HO557.out))
                 (case aS => exact (below_size qz0))
                 (case aL => have := LMc70.out; omega)
                 intro v559 w96 ho hb hg hat
                 rw [← Ny558.out] at ho
                 have n0_ := Aside0.mk (blk_grown (g := gb504) (o := .cells #[.int .i64 a1_0, .int .i64 a1_1] 56 (0, 0)) qz3 hg (Kd.R_away HO557.out (fun _ hk => hk.2)))
                 have n1_ := Aside0.mk (Kd.R_after (ok := (fun k_ => k_ ≠ gb504)) qz19 hg hat)
                 have n2_ := Aside0.mk (hb)
                 have n3_ := Aside0.mk (ho)
                 clear BK504
                 clear HO554
                 clear HB
                 clear HO557
                 have BK504 := n0_
                 have HO554 := n1_
                 have HB := n2_
                 have HO560 := n3_
                 clear n0_ n1_ n2_ n3_
                 clear ho hb hg hat
                 refine hK.out _ _ ⟨(blk_cell BK504.out 0).trans rfl, (blk_cell BK504.out 1).trans rfl⟩ (fun hHeld => ?_)
                 clear hK K
                 refine norm_ (a' := ?_) ?_ ?_
                 rotate_left
                 ·
                  show Act.put _ (some 60) _ = _
                  simp only [Act.put, List.setIfInBounds_toArray, List.set_cons_zero, List.set_cons_succ, i64_w, i32_w]
                  rfl
                 refine pZ 10 (some 8) (bz 11 2047) ?_
                 refine done_ (done_of HT_.out qz10) ?_
                 obtain ⟨Ao97, co97, eo97⟩ := Kd.R_slice HO560.out
                 subst eo97
                 try go_wp2_with (first | ((with_reducible refine gate_callee (f := 54) rfl ?_); refine goesL_ (some 62) rfl rfl Try.func54 qz10 rfl #[.slice Ao97 y558.length co97] rfl qz2 ?_; (with_reducible refine (spec_l11Good.calls kj20 _ _ y558 false _ ?side1 ?side2 A71.out).mono ?_); (case side1 => repeat (first | exact (Kd.R_reads' HO560.out).2.2 | (with_reducible refine Kd.C_alloc ?_ _) | (with_reducible refine Kd.C_drewN ?_ _) | (with_reducible refine Kd.C_drew ?_))); (case side2 => exact (Kd.R_reads' HO560.out).2.1); rintro e w98 ⟨rfl, hb⟩; refine ⟨_, rfl, ?_⟩; have n0_ := Aside0.mk (Kd.R_below qz19 hb); have n1_ := Aside0.mk (Kd.R_below qz70 hb); have n2_ := Aside0.mk (blk_below (g := gb504) (o := .cells #[.int .i64 a1_0, .int .i64 a1_1] 56 (0, 0)) qz3 hb); have n3_ := Aside0.mk (below_step qz0 hb); clear HO554; clear HO560; clear BK504; clear HB; have HO554 := n0_; have HO560 := n1_; have BK504 := n2_; have HB := n3_; clear n0_ n1_ n2_ n3_; (try clear hb); (try clear hb2); (try clear hk); (try clear hi)) | ((with_reducible refine gate_dst (N := 64) rfl ?_); (try (refine gate_guard (by rfl) ?_; dsimp only)); refine Kd.R_lit k56 _ 56 ?hg (N := 64) ?hd (xs := ([] : List (S56))) (inner := []) (ok := fun _ => True) (okp := fun _ => True) ?hr ?hp (fun _ hk => hk) trivial (Below.refl _ _) (Nat.le_refl _) (by simp) ?_; (case hd => rfl); (case hg => rfl); (case hr => first | (go_simp; done) | (go_simp; rfl)); (case hp => exact (Reps.none _ _)); intro v563 w99 ho100 hb hg_ hnew_; clear hg_ hnew_; (first | rw [← Ny562.out] at ho100 | (simp only [Int.reduceToNat] at ho100; rw [← Ny562.out] at ho100)); have n0_ := Aside0.mk (Kd.R_elder' qz19 (Kd.R_base ho100) hb); have n1_ := Aside0.mk (Kd.R_elder' qz70 (Kd.R_base ho100) hb); have n2_ := Aside0.mk (Kd.R_lower (Kd.R_newB (Kd.R_new' (Kd.R_new' ho100 (Kd.R_lt qz19)) (Kd.R_lt qz70)) (g := gb504) (o := .cells #[.int .i64 a1_0, .int .i64 a1_1] 56 (0, 0)) qz3) (below_size qz0)); have n3_ := Aside0.mk (blk_below (g := gb504) (o := .cells #[.int .i64 a1_0, .int .i64 a1_1] 56 (0, 0)) qz3 hb); have n4_ := Aside0.mk (below_step qz0 hb); clear HO554; clear HO560; clear BK504; clear HB; have HO554 := n0_; have HO560 := n1_; have HO564 := n2_; have BK504 := n3_; have HB := n4_; clear n0_ n1_ n2_ n3_ n4_; clear hb ho100))
                 go_ret2
                 exact ⟨_, by first | rfl | (simp [errW_none, errW_some] <;> rfl) | (simp [*, errW_none, errW_some] <;> rfl), by (with_reducible repeat (first | apply Kd.R_alloc | apply Kd.R_drewN | apply Kd.R_drew)); exact Kd.R_mono HO564.out (fun _ hk => trivial), by repeat (first | (with_reducible first | exact HB.out | apply below_alloc | apply pw_below_drewN | apply below_drew1 | refine below_set ?_ GE504.out) | exact HB.out)⟩
               ·
                rw [if_neg c70] at H
                exact absurd H (by simp)
              ·
               rw [if_neg c69] at H
               exact absurd H (by simp)
             ·
              rw [if_neg c68] at H
              exact absurd H (by simp)
            ·
             rw [if_neg c67] at H
             exact absurd H (by simp)
           ·
            rw [if_neg c66] at H
            exact absurd H (by simp)
       ·
        rw [if_neg c20] at H
        exact absurd H (by simp)
      ·
       rw [if_neg c19] at H
       exact absurd H (by simp)
end Go.Proofs.Ytlipaiabjcaeiaa.A
