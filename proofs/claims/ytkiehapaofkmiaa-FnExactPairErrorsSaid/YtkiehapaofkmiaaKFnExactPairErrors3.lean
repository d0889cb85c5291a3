/- One Lean function and its proof for each Go function that the law reaches, written by a program out of the translation. No conditions. -/
import Derived.Test.YtkiehapaofkmiaaKFnExactPairErrors0
import Derived.Test.YtkiehapaofkmiaaKFnExactPairErrors1
import Derived.Test.YtkiehapaofkmiaaKFnExactPairErrors2
namespace Go.Proofs.Ytkiehapaofkmiaa.A
open Go.RowKit Go.Proofs.YtkiehapaofkmiaaW.PrintWords Go.Proofs.YtkiehapaofkmiaaW.PrintLast Go.Proofs.YtkiehapaofkmiaaW.PrintMore
attribute [local go_sem] max2_int min2_int max_two min_two max_three min_three max_four min_four   -- for this text's walks alone
set_option linter.unusedVariables false
set_option linter.unusedSimpArgs false

/-! ### spec_PairErrors: function 33 -/
def spec_PairErrors.l0 : Nat → List (S75) → List Int → Int → Option (List Int × Bool)
  | 0, _, _, _ => none
  | k + 1, x0, x4, x5 => if x5 < (x0.length : Int) then ((spec_l7First.f k x0 x5).bind fun t396 => (if 0 ≤ t396 then (if t396 < (x0.length : Int) then ((spec_l7Turned.f ((rd_T75 x0 t396).f0) ((rd_T75 x0 t396).f1) ((rd_T75 x0 t396).f2) ((rd_T75 x0 t396).f3) ((rd_T75 x0 t396).f4) ((rd_T75 x0 t396).f5) ((rd_T75 x0 t396).f0)).bind fun bt399 => (if 0 ≤ x5 then ((spec_l7Turned.f ((rd_T75 x0 x5).f0) ((rd_T75 x0 x5).f1) ((rd_T75 x0 x5).f2) ((rd_T75 x0 x5).f3) ((rd_T75 x0 x5).f4) ((rd_T75 x0 x5).f5) ((rd_T75 x0 t396).f0)).bind fun bt405 => ((spec_l7Apart.f bt399.2.2.2.1 bt405.2.2.2.1).bind fun t412 => ((spec_l7Apart.f bt399.2.2.1 bt405.2.2.1).bind fun t413 => (if t413 > 2 then (if x4.length < 17592186044416 then (spec_PairErrors.l0 k x0 (x4 ++ [x5]) (wrap64 (x5 + 1))) else (none)) else ((spec_l1Least.f t412 (wrap64 (360 - t412))).bind fun t417 => (if t417 > 2 then (if x4.length < 17592186044416 then (spec_PairErrors.l0 k x0 (x4 ++ [x5]) (wrap64 (x5 + 1))) else (none)) else ((spec_l7Apart.f bt399.2.2.2.2 bt405.2.2.2.2).bind fun t421 => (if t421 > 2 then (if x4.length < 17592186044416 then (spec_PairErrors.l0 k x0 (x4 ++ [x5]) (wrap64 (x5 + 1))) else (none)) else (spec_PairErrors.l0 k x0 x4 (wrap64 (x5 + 1))))))))))) else (none))) else (none)) else (none))) else (some (x4, true))
def spec_PairErrors.f (k : Nat) (l0 : List (S75)) : Option (List Int × Bool) := (some (([] : List Int) : List Int)).bind fun y392 => ((spec_l7Book.f k l0).bind fun t395 => (if t395 = true then (spec_PairErrors.l0 k l0 y392 0) else (some (y392, false))))
theorem spec_PairErrors.mono_l : ∀ k, (∀ y0 y1 y2, LeO (spec_PairErrors.l0 k y0 y1 y2) (spec_PairErrors.l0 (k + 1) y0 y1 y2))
  | 0 => fun _ _ _ r h => by simp [spec_PairErrors.l0] at h
  | k + 1 => by
    have ih0 := spec_PairErrors.mono_l k
    · intro y0 y1 y2
      unfold spec_PairErrors.l0
      repeat' first
      | (with_reducible exact ih0 _ _ _)
      | (with_reducible exact spec_l7Book.mono _ _)
      | (with_reducible exact spec_l7First.mono _ _ _)
      | (with_reducible exact LeO.refl _)
      | (with_reducible exact LeO.none _)
      | (with_reducible refine LeO.ite ?_ ?_)
      | (with_reducible refine LeO.bind ?_ (fun _ => ?_))
      | exact ih0 _ _ _
      | exact spec_l7Book.mono _ _
      | exact spec_l7First.mono _ _ _
      | exact LeO.none _
      | refine LeO.ite ?_ ?_
      | refine LeO.bind ?_ (fun _ => ?_)
theorem spec_PairErrors.mono : ∀ a0 k, LeO (spec_PairErrors.f k a0) (spec_PairErrors.f (k + 1) a0) := by
  intro a0 k
  have ih0 := spec_PairErrors.mono_l k
  unfold spec_PairErrors.f
  repeat' first
      | (with_reducible exact ih0 _ _ _)
      | (with_reducible exact spec_l7Book.mono _ _)
      | (with_reducible exact spec_l7First.mono _ _ _)
      | (with_reducible exact LeO.refl _)
      | (with_reducible exact LeO.none _)
      | (with_reducible refine LeO.ite ?_ ?_)
      | (with_reducible refine LeO.bind ?_ (fun _ => ?_))
      | exact ih0 _ _ _
      | exact spec_l7Book.mono _ _
      | exact spec_l7First.mono _ _ _
      | exact LeO.none _
      | refine LeO.ite ?_ ?_
      | refine LeO.bind ?_ (fun _ => ?_)
def spec_PairErrors.T8 : Bool × List (List Nat × List Nat) := (true, [([], []), ([], []), ([1], [1]), ([0, 2], [0, 2]), ([], []), ([], []), ([4, 5], [4, 5]), ([6], [6]), ([], []), ([8], [8]), ([7, 9, 3], [7, 9]), ([], []), ([], []), ([11, 3, 10, 0, 1, 2, 3, 11, 12], [3, 11]), ([12, 10, 13, 0, 1, 2, 3, 4, 5, 6, 7, 8, 9, 10, 11, 12, 13], [10, 12])])
def spec_PairErrors.B8 : List Nat := [0, 0, 2, 7, 0, 0, 48, 112, 0, 256, 1023, 0, 0, 8191, 16383]
theorem spec_PairErrors.tab8 : rtab .any (opsOf Try.f33 8) = spec_PairErrors.T8 := by kernel_rfl
theorem spec_PairErrors.bits8 : waitsOk spec_PairErrors.T8.2 spec_PairErrors.B8 = true := by kernel_rfl
set_option maxHeartbeats 8000000 in
set_option maxRecDepth 100000 in
theorem spec_PairErrors.calls (k : Nat) (A0 : Option Addr) (c0 : Nat) (l0 : List (S75)) (r1 : List Int) (r2 : Bool) (w : World) (hr0 : Kd.C k75 w A0 l0.length l0) (hc0 : l0.length ≤ c0) (h : spec_PairErrors.f k l0 = some (r1, r2)) :
  Calls Try.prog 33 #[.slice A0 l0.length c0] w fun e w' => ∃ v0_ : Value, e = .returned (.tuple #[v0_, .bool r2]) ∧ Kd.R (Kd.int .i64) 3 w' w.heap.size (fun _ => True) v0_ r1 ∧ Below w.heap.size w w' := by
 have hu75 := Try.underlying75
 have hu71 := Try.underlying71
 have HR0 := Aside0.mk hr0
 have HC0 := Aside0.mk hc0
 clear hr0 hc0
 have HB := Aside0.mk (Below.refl w.heap.size w)
 have H : ((some (([] : List Int) : List Int)).bind fun y392 => ((spec_l7Book.f k l0).bind fun t395 => (if t395 = true then (spec_PairErrors.l0 k l0 y392 0) else (some (y392, false))))) = some (r1, r2) := h
 clear h
 obtain ⟨y392, hy392⟩ : ∃ y_ : List Int, y_ = (([] : List Int)) := ⟨_, rfl⟩
 replace H : ((spec_l7Book.f k l0).bind fun t395 => (if t395 = true then (spec_PairErrors.l0 k l0 y392 0) else (some (y392, false)))) = some (r1, r2) := by first | (rw [hy392]; with_reducible exact H) | (have H2_ := (Option.bind_some _ _).symm.trans H; rw [hy392]; with_reducible exact H2_) | (have H2_ := (Option.bind_some _ _).symm.trans H; with_reducible exact H2_) | with_reducible exact H | (rw [hy392]; exact H) | exact H
 have Ny392 := Aside0.mk hy392
 clear hy392
 replace H := Option.bind_eq_some_iff.mp H
 obtain ⟨t395, A20, H⟩ := H
 replace H : (if t395 = true then (spec_PairErrors.l0 k l0 y392 0) else (some (y392, false))) = some (r1, r2) := H
 have A2 := Aside0.mk A20
 clear A20
 by_cases c3 : t395 = true
 ·subst c3
  have H1 : (spec_PairErrors.l0 k l0 y392 0) = some (r1, r2) := by rw [if_pos rfl] at H; exact H
  clear H
  have H := H1
  clear H1
  have H' := Aside0.mk H
  clear H
  go_enter Try.func33, Try.ntmps33
  go_wp2_with (first | ((with_reducible refine gate_dst (N := 10) rfl ?_); refine Kd.R_lit (Kd.int .i64) _ 3 ?hg (N := 10) ?hd (xs := ([] : List Int)) (inner := []) (ok := fun _ => True) (okp := fun _ => True) ?hr ?hp (fun _ hk => hk) trivial (Below.refl _ _) (Nat.le_refl _) (by simp) ?_; (case hd => rfl); (case hg => rfl); (case hr => first | (go_simp; done) | (go_simp; rfl)); (case hp => exact (Reps.none _ _)); intro v393 w4 ho5 hb hg_ hnew_; clear hg_ hnew_; (first | rw [← Ny392.out] at ho5 | (simp only [Int.reduceToNat] at ho5; rw [← Ny392.out] at ho5)); have n0_ := Aside0.mk (Kd.R_lower ho5 (below_size (by repeat (first | (with_reducible first | exact HB.out | apply below_alloc | apply pw_below_drewN | apply below_drew1) | exact HB.out)))); have n1_ := Aside0.mk (below_step (by repeat (first | (with_reducible first | exact HB.out | apply below_alloc | apply pw_below_drewN | apply below_drew1) | exact HB.out)) hb); clear HB; have HO394 := n0_; have HB := n1_; clear n0_ n1_; clear hb ho5) | ((with_reducible refine gate_callee (f := 68) rfl ?_); refine goesL_ (some 12) rfl rfl Try.func68 (by kernel_rfl) rfl #[.slice A0 l0.length c0] rfl (by (try simp only [List.map_toArray, List.map_cons, List.map_nil]); first | done | rfl | (simp only [List.length_drop, List.length_take]; rfl)) ?_; (with_reducible refine (spec_l7Book.calls k _ _ l0 true _ ?side1 ?side2 A2.out).mono ?_); (case side1 => repeat (first | exact (Kd.C_below HR0.out HB.out) | (with_reducible refine Kd.C_alloc ?_ _) | (with_reducible refine Kd.C_drewN ?_ _) | (with_reducible refine Kd.C_drew ?_))); (case side2 => exact HC0.out); rintro e w6 ⟨rfl, hb⟩; refine ⟨_, rfl, ?_⟩; have n0_ := Aside0.mk (Kd.R_below (by (with_reducible repeat (first | apply Kd.R_alloc | apply Kd.R_drewN | apply Kd.R_drew)); exact HO394.out) hb); have n1_ := Aside0.mk (below_step (by repeat (first | (with_reducible first | exact HB.out | apply below_alloc | apply pw_below_drewN | apply below_drew1) | exact HB.out)) hb); clear HO394; clear HB; have HO394 := n0_; have HB := n1_; clear n0_ n1_; (try clear hb); (try clear hb2); (try clear hk); (try clear hi)))
  go_loopg [4, 5] k (fun kq v4 v5 w' => ∃ (x4_1 : List Int) (x5_1 : Int), v5 = .int .i64 x5_1 ∧ Aside0 (spec_PairErrors.l0 kq l0 x4_1 x5_1 = some (r1, r2)) ∧ Aside0 (kq ≤ k) ∧ Aside0 (Kd.R (Kd.int .i64) 3 w' w.heap.size (fun _ => True) v4 x4_1) ∧ Aside0 (Below w.heap.size w w'))
  case atStart => exact ⟨(y392), (0), (by first | rfl | (simp; done) | (simp [*]; done)), H', ⟨Nat.le_refl _⟩, ⟨by (with_reducible repeat (first | apply Kd.R_alloc | apply Kd.R_drewN | apply Kd.R_drew)); exact HO394.out⟩, ⟨by repeat (first | (with_reducible first | exact HB.out | apply below_alloc | apply pw_below_drewN | apply below_drew1) | exact HB.out)⟩⟩
  case round =>
   clear H'
   try clear p2
   try clear c3
   try clear c6
   obtain ⟨x4_1, x5_1, rfl, HA, HK1, HO_4, HB⟩ := hrel
   cases gk with
   | zero => exact absurd HA.out (by simp [spec_PairErrors.l0])
   | succ k1 =>
    have H := HA.out
    clear HA
    simp only [spec_PairErrors.l0] at H
    by_cases c7 : x5_1 < (l0.length : Int)
    ·rw [if_pos c7] at H
     have c7b0 : decide (x5_1 < (l0.length : Int)) = true := decide_eq_true c7
     clear c7
     replace H := Option.bind_eq_some_iff.mp H
     obtain ⟨t396, A80, H⟩ := H
     replace H : (if 0 ≤ t396 then (if t396 < (l0.length : Int) then ((spec_l7Turned.f ((rd_T75 l0 t396).f0) ((rd_T75 l0 t396).f1) ((rd_T75 l0 t396).f2) ((rd_T75 l0 t396).f3) ((rd_T75 l0 t396).f4) ((rd_T75 l0 t396).f5) ((rd_T75 l0 t396).f0)).bind fun bt399 => (if 0 ≤ x5_1 then ((spec_l7Turned.f ((rd_T75 l0 x5_1).f0) ((rd_T75 l0 x5_1).f1) ((rd_T75 l0 x5_1).f2) ((rd_T75 l0 x5_1).f3) ((rd_T75 l0 x5_1).f4) ((rd_T75 l0 x5_1).f5) ((rd_T75 l0 t396).f0)).bind fun bt405 => ((spec_l7Apart.f bt399.2.2.2.1 bt405.2.2.2.1).bind fun t412 => ((spec_l7Apart.f bt399.2.2.1 bt405.2.2.1).bind fun t413 => (if t413 > 2 then (if x4_1.length < 17592186044416 then (spec_PairErrors.l0 k1 l0 (x4_1 ++ [x5_1]) (wrap64 (x5_1 + 1))) else (none)) else ((spec_l1Least.f t412 (wrap64 (360 - t412))).bind fun t417 => (if t417 > 2 then (if x4_1.length < 17592186044416 then (spec_PairErrors.l0 k1 l0 (x4_1 ++ [x5_1]) (wrap64 (x5_1 + 1))) else (none)) else ((spec_l7Apart.f bt399.2.2.2.2 bt405.2.2.2.2).bind fun t421 => (if t421 > 2 then (if x4_1.length < 17592186044416 then (spec_PairErrors.l0 k1 l0 (x4_1 ++ [x5_1]) (wrap64 (x5_1 + 1))) else (none)) else (spec_PairErrors.l0 k1 l0 x4_1 (wrap64 (x5_1 + 1))))))))))) else (none))) else (none)) else (none)) = some (r1, r2) := H
     have A8 := Aside0.mk A80
     clear A80
     by_cases c9 : 0 ≤ t396
     ·rw [if_pos c9] at H
      have c9b0 : decide (0 ≤ t396) = true := decide_eq_true c9
      clear c9
      by_cases c10 : t396 < (l0.length : Int)
      ·rw [if_pos c10] at H
       have c10b0 : decide (t396 < (l0.length : Int)) = true := decide_eq_true c10
       clear c10
       replace H := Option.bind_eq_some_iff.mp H
       obtain ⟨⟨t399, t400, t401, t402, t403⟩, A110, H⟩ := H
       replace H : (if 0 ≤ x5_1 then ((spec_l7Turned.f ((rd_T75 l0 x5_1).f0) ((rd_T75 l0 x5_1).f1) ((rd_T75 l0 x5_1).f2) ((rd_T75 l0 x5_1).f3) ((rd_T75 l0 x5_1).f4) ((rd_T75 l0 x5_1).f5) ((rd_T75 l0 t396).f0)).bind fun bt405 => ((spec_l7Apart.f t402 bt405.2.2.2.1).bind fun t412 => ((spec_l7Apart.f t401 bt405.2.2.1).bind fun t413 => (if t413 > 2 then (if x4_1.length < 17592186044416 then (spec_PairErrors.l0 k1 l0 (x4_1 ++ [x5_1]) (wrap64 (x5_1 + 1))) else (none)) else ((spec_l1Least.f t412 (wrap64 (360 - t412))).bind fun t417 => (if t417 > 2 then (if x4_1.length < 17592186044416 then (spec_PairErrors.l0 k1 l0 (x4_1 ++ [x5_1]) (wrap64 (x5_1 + 1))) else (none)) else ((spec_l7Apart.f t403 bt405.2.2.2.2).bind fun t421 => (if t421 > 2 then (if x4_1.length < 17592186044416 then (spec_PairErrors.l0 k1 l0 (x4_1 ++ [x5_1]) (wrap64 (x5_1 + 1))) else (none)) else (spec_PairErrors.l0 k1 l0 x4_1 (wrap64 (x5_1 + 1))))))))))) else (none)) = some (r1, r2) := H
       have A11 := Aside0.mk A110
       clear A110
       by_cases c12 : 0 ≤ x5_1
       ·rw [if_pos c12] at H
        have c12b0 : decide (0 ≤ x5_1) = true := decide_eq_true c12
        clear c12
        replace H := Option.bind_eq_some_iff.mp H
        obtain ⟨⟨t405, t406, t407, t408, t409⟩, A130, H⟩ := H
        replace H : ((spec_l7Apart.f t402 t408).bind fun t412 => ((spec_l7Apart.f t401 t407).bind fun t413 => (if t413 > 2 then (if x4_1.length < 17592186044416 then (spec_PairErrors.l0 k1 l0 (x4_1 ++ [x5_1]) (wrap64 (x5_1 + 1))) else (none)) else ((spec_l1Least.f t412 (wrap64 (360 - t412))).bind fun t417 => (if t417 > 2 then (if x4_1.length < 17592186044416 then (spec_PairErrors.l0 k1 l0 (x4_1 ++ [x5_1]) (wrap64 (x5_1 + 1))) else (none)) else ((spec_l7Apart.f t403 t409).bind fun t421 => (if t421 > 2 then (if x4_1.length < 17592186044416 then (spec_PairErrors.l0 k1 l0 (x4_1 ++ [x5_1]) (wrap64 (x5_1 + 1))) else (none)) else (spec_PairErrors.l0 k1 l0 x4_1 (wrap64 (x5_1 + 1)))))))))) = some (r1, r2) := H
        have A13 := Aside0.mk A130
        clear A130
        replace H := Option.bind_eq_some_iff.mp H
        obtain ⟨t412, A140, H⟩ := H
        replace H : ((spec_l7Apart.f t401 t407).bind fun t413 => (if t413 > 2 then (if x4_1.length < 17592186044416 then (spec_PairErrors.l0 k1 l0 (x4_1 ++ [x5_1]) (wrap64 (x5_1 + 1))) else (none)) else ((spec_l1Least.f t412 (wrap64 (360 - t412))).bind fun t417 => (if t417 > 2 then (if x4_1.length < 17592186044416 then (spec_PairErrors.l0 k1 l0 (x4_1 ++ [x5_1]) (wrap64 (x5_1 + 1))) else (none)) else ((spec_l7Apart.f t403 t409).bind fun t421 => (if t421 > 2 then (if x4_1.length < 17592186044416 then (spec_PairErrors.l0 k1 l0 (x4_1 ++ [x5_1]) (wrap64 (x5_1 + 1))) else (none)) else (spec_PairErrors.l0 k1 l0 x4_1 (wrap64 (x5_1 + 1))))))))) = some (r1, r2) := H
        have A14 := Aside0.mk A140
        clear A140
        replace H := Option.bind_eq_some_iff.mp H
        obtain ⟨t413, A150, H⟩ := H
        replace H : (if t413 > 2 then (if x4_1.length < 17592186044416 then (spec_PairErrors.l0 k1 l0 (x4_1 ++ [x5_1]) (wrap64 (x5_1 + 1))) else (none)) else ((spec_l1Least.f t412 (wrap64 (360 - t412))).bind fun t417 => (if t417 > 2 then (if x4_1.length < 17592186044416 then (spec_PairErrors.l0 k1 l0 (x4_1 ++ [x5_1]) (wrap64 (x5_1 + 1))) else (none)) else ((spec_l7Apart.f t403 t409).bind fun t421 => (if t421 > 2 then (if x4_1.length < 17592186044416 then (spec_PairErrors.l0 k1 l0 (x4_1 ++ [x5_1]) (wrap64 (x5_1 + 1))) else (none)) else (spec_PairErrors.l0 k1 l0 x4_1 (wrap64 (x5_1 + 1)))))))) = some (r1, r2) := H
        have A15 := Aside0.mk A150
        clear A150
        have HZ_ := Aside0.mk H
        clear H
        try go_wp2_with (first | ((with_reducible refine gate_callee (f := 73) rfl ?_); refine goesL_ (some 24) rfl rfl Try.func73 (by kernel_rfl) rfl #[.slice A0 l0.length c0, .int .i64 x5_1] rfl (by (try simp only [List.map_toArray, List.map_cons, List.map_nil]); first | done | rfl | (simp only [List.length_drop, List.length_take]; rfl)) ?_; (with_reducible refine (spec_l7First.calls k1 _ _ l0 x5_1 t396 _ ?side1 ?side2 A8.out).mono ?_); (case side1 => repeat (first | exact (Kd.C_below HR0.out HB.out) | (with_reducible refine Kd.C_alloc ?_ _) | (with_reducible refine Kd.C_drewN ?_ _) | (with_reducible refine Kd.C_drew ?_))); (case side2 => exact HC0.out); rintro e w' ⟨rfl, ⟨nd, rfl⟩⟩; refine ⟨_, rfl, ?_⟩; (try (rw [drewN_self wr]; generalize hq_ : World.drewN wr _ = wr; have n0_ : Aside0 (Kd.R (Kd.int .i64) 3 wr w.heap.size (fun _ => True) u4 x4_1) := ⟨by rw [← hq_]; exact (by (with_reducible repeat (first | apply Kd.R_alloc | apply Kd.R_drewN | apply Kd.R_drew)); exact HO_4.out)⟩; have n1_ : Aside0 (Below w.heap.size w wr) := ⟨by rw [← hq_]; exact (by repeat (first | (with_reducible first | exact HB.out | apply below_alloc | apply pw_below_drewN | apply below_drew1) | exact HB.out))⟩; clear HO_4 HB hq_; have HO_4 := n0_; have HB := n1_; clear n0_ n1_)); have p397 : 0 ≤ (t396 : Int) := of_decide_eq_true (by first | (with_reducible assumption) | assumption); have q397 : t396 < (l0.length : Int) := of_decide_eq_true (by first | (with_reducible assumption) | assumption); obtain ⟨ad397, e397, hx397_0, hx397_1, hx397_2, hx397_3, hx397_4, hx397_5⟩ := at_T75 HR0.out t396 p397 q397; cases e397; replace hx397_0 := (HB.out.cell (World.block_lt_of_cell? w _ hx397_0)).trans hx397_0; replace hx397_1 := (HB.out.cell (World.block_lt_of_cell? w _ hx397_1)).trans hx397_1; replace hx397_2 := (HB.out.cell (World.block_lt_of_cell? w _ hx397_2)).trans hx397_2; replace hx397_3 := (HB.out.cell (World.block_lt_of_cell? w _ hx397_3)).trans hx397_3; replace hx397_4 := (HB.out.cell (World.block_lt_of_cell? w _ hx397_4)).trans hx397_4; replace hx397_5 := (HB.out.cell (World.block_lt_of_cell? w _ hx397_5)).trans hx397_5; replace p397 := eq_true p397; replace q397 := eq_true q397) | ((with_reducible refine gate_dst (N := 6) rfl ?_); refine box_event ?hg (N := 6) ?hd (cs := #[.int .i64 0, .int .i64 0, .int .i64 0, .int .i64 0, .int .i64 0, .bool false]) (t := 75) ?hr ?_; (case hd => rfl); (case hg => rfl); (case hr => first | (go_simp; done) | (go_simp; rfl)); intro gb398 hg w18 hbox hb; have n0_ := Aside0.mk (Kd.R_below (by (with_reducible repeat (first | apply Kd.R_alloc | apply Kd.R_drewN | apply Kd.R_drew)); exact HO_4.out) hb); have n1_ := Aside0.mk (below_step (by repeat (first | (with_reducible first | exact HB.out | apply below_alloc | apply pw_below_drewN | apply below_drew1) | exact HB.out)) hb); have n2_ := Aside0.mk (hbox); have n3_ := Aside0.mk ((by rw [hg]; exact (below_size (by repeat (first | (with_reducible first | exact HB.out | apply below_alloc | apply pw_below_drewN | apply below_drew1) | exact HB.out))) : w.heap.size ≤ gb398)); have n4_ := Aside0.mk ((by rw [hg]; exact (below_size (by repeat (first | (with_reducible first | exact HB.out | apply below_alloc | apply pw_below_drewN | apply below_drew1) | exact HB.out))) : w.heap.size ≤ gb398)); clear HO_4; clear HB; have HO_4 := n0_; have HB := n1_; have BK398 := n2_; have GW398 := n3_; have GE398 := n4_; clear n0_ n1_ n2_ n3_ n4_; clear hb hbox hg; have hcz19_0 : w18.cell? ⟨gb398, 0, none⟩ = some (.int .i64 0) := (blk_cell BK398.out 0).trans rfl; have hcz19_1 : w18.cell? ⟨gb398, 1, none⟩ = some (.int .i64 0) := (blk_cell BK398.out 1).trans rfl; have hcz19_2 : w18.cell? ⟨gb398, 2, none⟩ = some (.int .i64 0) := (blk_cell BK398.out 2).trans rfl; have hcz19_3 : w18.cell? ⟨gb398, 3, none⟩ = some (.int .i64 0) := (blk_cell BK398.out 3).trans rfl; have hcz19_4 : w18.cell? ⟨gb398, 4, none⟩ = some (.int .i64 0) := (blk_cell BK398.out 4).trans rfl; have hcz19_5 : w18.cell? ⟨gb398, 5, none⟩ = some (.bool false) := (blk_cell BK398.out 5).trans rfl; have hfz19_0 := blk_frozen BK398.out 0; have hfz19_1 := blk_frozen BK398.out 1; have hfz19_2 := blk_frozen BK398.out 2; have hfz19_3 := blk_frozen BK398.out 3; have hfz19_4 := blk_frozen BK398.out 4; have hfz19_5 := blk_frozen BK398.out 5))
        have n0_ : Aside0 (Kd.R (Kd.int .i64) 3 ((((((w18.setCell ⟨gb398, 0, none⟩ (.int .i64 ((rd_T75 l0 t396).f0))).setCell ⟨gb398, 1, none⟩ (.int .i64 ((rd_T75 l0 t396).f1))).setCell ⟨gb398, 2, none⟩ (.int .i64 ((rd_T75 l0 t396).f2))).setCell ⟨gb398, 3, none⟩ (.int .i64 ((rd_T75 l0 t396).f3))).setCell ⟨gb398, 4, none⟩ (.int .i64 ((rd_T75 l0 t396).f4))).setCell ⟨gb398, 5, none⟩ (.bool ((rd_T75 l0 t396).f5))) w.heap.size (fun _ => True) u4 x4_1) := ⟨by (with_reducible repeat (first | apply Kd.R_alloc | apply Kd.R_drewN | apply Kd.R_drew)); exact Kd.R_mono (Kd.R_far (p := ⟨gb398, 5, none⟩) (Kd.R_far (p := ⟨gb398, 4, none⟩) (Kd.R_far (p := ⟨gb398, 3, none⟩) (Kd.R_far (p := ⟨gb398, 2, none⟩) (Kd.R_far (p := ⟨gb398, 1, none⟩) (Kd.R_far (p := ⟨gb398, 0, none⟩) (Kd.R_types HO_4.out BK398.out (by decide)) (fun _ hk => hk.2) (.int .i64 ((rd_T75 l0 t396).f0))) (fun _ hk => hk.2) (.int .i64 ((rd_T75 l0 t396).f1))) (fun _ hk => hk.2) (.int .i64 ((rd_T75 l0 t396).f2))) (fun _ hk => hk.2) (.int .i64 ((rd_T75 l0 t396).f3))) (fun _ hk => hk.2) (.int .i64 ((rd_T75 l0 t396).f4))) (fun _ hk => hk.2) (.bool ((rd_T75 l0 t396).f5))) (fun _ hk => trivial)⟩
        have n1_ : Aside0 (((((((w18.setCell ⟨gb398, 0, none⟩ (.int .i64 ((rd_T75 l0 t396).f0))).setCell ⟨gb398, 1, none⟩ (.int .i64 ((rd_T75 l0 t396).f1))).setCell ⟨gb398, 2, none⟩ (.int .i64 ((rd_T75 l0 t396).f2))).setCell ⟨gb398, 3, none⟩ (.int .i64 ((rd_T75 l0 t396).f3))).setCell ⟨gb398, 4, none⟩ (.int .i64 ((rd_T75 l0 t396).f4))).setCell ⟨gb398, 5, none⟩ (.bool ((rd_T75 l0 t396).f5))).heap[gb398]? = some (.cells #[.int .i64 ((rd_T75 l0 t396).f0), .int .i64 ((rd_T75 l0 t396).f1), .int .i64 ((rd_T75 l0 t396).f2), .int .i64 ((rd_T75 l0 t396).f3), .int .i64 ((rd_T75 l0 t396).f4), .bool ((rd_T75 l0 t396).f5)] 75 (0, 0))) := ⟨by (with_reducible repeat (first | refine blk_drewN ?_ _ | refine blk_drew ?_ | refine blk_alloc ?_ _)); refine blk_put (cs := #[.int .i64 ((rd_T75 l0 t396).f0), .int .i64 ((rd_T75 l0 t396).f1), .int .i64 ((rd_T75 l0 t396).f2), .int .i64 ((rd_T75 l0 t396).f3), .int .i64 ((rd_T75 l0 t396).f4), .bool false]) ?_ 5 _ rfl; (with_reducible repeat (first | refine blk_drewN ?_ _ | refine blk_drew ?_ | refine blk_alloc ?_ _)); refine blk_put (cs := #[.int .i64 ((rd_T75 l0 t396).f0), .int .i64 ((rd_T75 l0 t396).f1), .int .i64 ((rd_T75 l0 t396).f2), .int .i64 ((rd_T75 l0 t396).f3), .int .i64 0, .bool false]) ?_ 4 _ rfl; (with_reducible repeat (first | refine blk_drewN ?_ _ | refine blk_drew ?_ | refine blk_alloc ?_ _)); refine blk_put (cs := #[.int .i64 ((rd_T75 l0 t396).f0), .int .i64 ((rd_T75 l0 t396).f1), .int .i64 ((rd_T75 l0 t396).f2), .int .i64 0, .int .i64 0, .bool false]) ?_ 3 _ rfl; (with_reducible repeat (first | refine blk_drewN ?_ _ | refine blk_drew ?_ | refine blk_alloc ?_ _)); refine blk_put (cs := #[.int .i64 ((rd_T75 l0 t396).f0), .int .i64 ((rd_T75 l0 t396).f1), .int .i64 0, .int .i64 0, .int .i64 0, .bool false]) ?_ 2 _ rfl; (with_reducible repeat (first | refine blk_drewN ?_ _ | refine blk_drew ?_ | refine blk_alloc ?_ _)); refine blk_put (cs := #[.int .i64 ((rd_T75 l0 t396).f0), .int .i64 0, .int .i64 0, .int .i64 0, .int .i64 0, .bool false]) ?_ 1 _ rfl; (with_reducible repeat (first | refine blk_drewN ?_ _ | refine blk_drew ?_ | refine blk_alloc ?_ _)); refine blk_put (cs := #[.int .i64 0, .int .i64 0, .int .i64 0, .int .i64 0, .int .i64 0, .bool false]) ?_ 0 _ rfl; (with_reducible repeat (first | refine blk_drewN ?_ _ | refine blk_drew ?_ | refine blk_alloc ?_ _)); exact BK398.out⟩
        have n2_ : Aside0 (Below w.heap.size w ((((((w18.setCell ⟨gb398, 0, none⟩ (.int .i64 ((rd_T75 l0 t396).f0))).setCell ⟨gb398, 1, none⟩ (.int .i64 ((rd_T75 l0 t396).f1))).setCell ⟨gb398, 2, none⟩ (.int .i64 ((rd_T75 l0 t396).f2))).setCell ⟨gb398, 3, none⟩ (.int .i64 ((rd_T75 l0 t396).f3))).setCell ⟨gb398, 4, none⟩ (.int .i64 ((rd_T75 l0 t396).f4))).setCell ⟨gb398, 5, none⟩ (.bool ((rd_T75 l0 t396).f5)))) := ⟨by repeat (first | (with_reducible first | exact HB.out | apply below_alloc | apply pw_below_drewN | apply below_drew1 | refine below_set ?_ GE398.out) | exact HB.out)⟩
        (try clear HO_4)
        (try clear BK398)
        (try clear HB)
        generalize ((((((w18.setCell ⟨gb398, 0, none⟩ (.int .i64 ((rd_T75 l0 t396).f0))).setCell ⟨gb398, 1, none⟩ (.int .i64 ((rd_T75 l0 t396).f1))).setCell ⟨gb398, 2, none⟩ (.int .i64 ((rd_T75 l0 t396).f2))).setCell ⟨gb398, 3, none⟩ (.int .i64 ((rd_T75 l0 t396).f3))).setCell ⟨gb398, 4, none⟩ (.int .i64 ((rd_T75 l0 t396).f4))).setCell ⟨gb398, 5, none⟩ (.bool ((rd_T75 l0 t396).f5))) = w20 at n0_ n1_ n2_ ⊢
        have HO_4 := n0_
        have BK398 := n1_
        have HB := n2_
        clear n0_ n1_ n2_
        have n0_ := Aside0.mk (Kd.R_drew HO_4.out)
        have n1_ := Aside0.mk (blk_drew BK398.out)
        have n2_ := Aside0.mk (below_drew1 HB.out)
        clear HO_4
        clear BK398
        clear HB
        have HO_4 := n0_
        have BK398 := n1_
        have HB := n2_
        clear n0_ n1_ n2_
        have p404 : 0 ≤ (x5_1 : Int) := of_decide_eq_true (by first | (with_reducible assumption) | assumption)
        have q404 : x5_1 < (l0.length : Int) := of_decide_eq_true (by first | (with_reducible assumption) | assumption)
        obtain ⟨ad404, e404, hx404_0, hx404_1, hx404_2, hx404_3, hx404_4, hx404_5⟩ := at_T75 HR0.out x5_1 p404 q404
        have hw404_5 := hx404_5
        have hw404_4 := hx404_4
        have hw404_3 := hx404_3
        have hw404_2 := hx404_2
        have hw404_1 := hx404_1
        have hw404_0 := hx404_0
        obtain rfl : ad397 = ad404 := (by injection e404)
        replace hx404_0 := (HB.out.cell (World.block_lt_of_cell? w _ hx404_0)).trans hx404_0
        replace hx404_1 := (HB.out.cell (World.block_lt_of_cell? w _ hx404_1)).trans hx404_1
        replace hx404_2 := (HB.out.cell (World.block_lt_of_cell? w _ hx404_2)).trans hx404_2
        replace hx404_3 := (HB.out.cell (World.block_lt_of_cell? w _ hx404_3)).trans hx404_3
        replace hx404_4 := (HB.out.cell (World.block_lt_of_cell? w _ hx404_4)).trans hx404_4
        replace hx404_5 := (HB.out.cell (World.block_lt_of_cell? w _ hx404_5)).trans hx404_5
        replace p404 := eq_true p404
        replace q404 := eq_true q404
        refine start_ (n := 15) (S := fun w' => w'.cell? ⟨gb398, 0, none⟩ = some (.int .i64 ((rd_T75 l0 t396).f0)) ∧ w'.cell? ⟨gb398, 1, none⟩ = some (.int .i64 ((rd_T75 l0 t396).f1)) ∧ w'.cell? ⟨gb398, 2, none⟩ = some (.int .i64 ((rd_T75 l0 t396).f2)) ∧ w'.cell? ⟨gb398, 3, none⟩ = some (.int .i64 ((rd_T75 l0 t396).f3)) ∧ w'.cell? ⟨gb398, 4, none⟩ = some (.int .i64 ((rd_T75 l0 t396).f4)) ∧ w'.cell? ⟨gb398, 5, none⟩ = some (.bool ((rd_T75 l0 t396).f5)) ∧ w'.cell? (ad397.add ((x5_1).toNat * 6)) = some (.int .i64 ((rd_T75 l0 x5_1).f0)) ∧ w'.cell? ⟨(ad397.add ((x5_1).toNat * 6)).block, (ad397.add ((x5_1).toNat * 6)).off + 1, none⟩ = some (.int .i64 ((rd_T75 l0 x5_1).f1)) ∧ w'.cell? ⟨(ad397.add ((x5_1).toNat * 6)).block, (ad397.add ((x5_1).toNat * 6)).off + 2, none⟩ = some (.int .i64 ((rd_T75 l0 x5_1).f2)) ∧ w'.cell? ⟨(ad397.add ((x5_1).toNat * 6)).block, (ad397.add ((x5_1).toNat * 6)).off + 3, none⟩ = some (.int .i64 ((rd_T75 l0 x5_1).f3)) ∧ w'.cell? ⟨(ad397.add ((x5_1).toNat * 6)).block, (ad397.add ((x5_1).toNat * 6)).off + 4, none⟩ = some (.int .i64 ((rd_T75 l0 x5_1).f4)) ∧ w'.cell? ⟨(ad397.add ((x5_1).toNat * 6)).block, (ad397.add ((x5_1).toNat * 6)).off + 5, none⟩ = some (.bool ((rd_T75 l0 x5_1).f5))) (ds := []) #[false, false, false, false, false, false, false, false, false, false, false, false, false, false, false] (by kernel_rfl) rfl rfl ⟨(blk_cell BK398.out 0).trans rfl, (blk_cell BK398.out 1).trans rfl, (blk_cell BK398.out 2).trans rfl, (blk_cell BK398.out 3).trans rfl, (blk_cell BK398.out 4).trans rfl, (blk_cell BK398.out 5).trans rfl, ((HB.out.cell (World.block_lt_of_cell? w _ hw404_0)).trans hw404_0), ((HB.out.cell (World.block_lt_of_cell? w _ hw404_1)).trans hw404_1), ((HB.out.cell (World.block_lt_of_cell? w _ hw404_2)).trans hw404_2), ((HB.out.cell (World.block_lt_of_cell? w _ hw404_3)).trans hw404_3), ((HB.out.cell (World.block_lt_of_cell? w _ hw404_4)).trans hw404_4), ((HB.out.cell (World.block_lt_of_cell? w _ hw404_5)).trans hw404_5)⟩ (fun hHeld => ?_); refine with_tabW spec_PairErrors.tab8 spec_PairErrors.bits8 (fun HT_ HW_ => ?_)
        generalize w20.drew = w21 at HO_4 BK398 HB hx404_0 hx404_1 hx404_2 hx404_3 hx404_4 hx404_5 hHeld ⊢
        refine pure_ (i := 1) (N := some 28) (v := ?_) (a' := ?_) #[false, true, false, false, false, false, false, false, false, false, false, false, false, false, false] rfl rfl (any_of HT_.out (by kernel_rfl)) (fun _ _ _ h => h) (Or.inl ⟨by rfl, ?_⟩) ?_ ?_
        rotate_left
        ·intro w'
         go_simp
         with_reducible rfl
        rotate_left
        ·simp only [Act.put, List.setIfInBounds_toArray, List.set_cons_zero, List.set_cons_succ, i64_w, i32_w]
         rfl
        refine pure_ (i := 4) (N := some 31) (v := ?_) (a' := ?_) #[false, true, false, false, true, false, false, false, false, false, false, false, false, false, false] rfl rfl (any_of HT_.out (by kernel_rfl)) (fun _ _ _ h => h) (Or.inl ⟨by rfl, ?_⟩) ?_ ?_
        rotate_left
        ·intro w'
         go_simp
         with_reducible rfl
        rotate_left
        ·simp only [Act.put, List.setIfInBounds_toArray, List.set_cons_zero, List.set_cons_succ, i64_w, i32_w]
         rfl
        refine pure_ (i := 5) (N := some 32) (v := ?_) (a' := ?_) #[false, true, false, false, true, true, false, false, false, false, false, false, false, false, false] rfl rfl (any_of HT_.out (by kernel_rfl)) (fun _ _ _ h => h) (Or.inl ⟨by rfl, ?_⟩) ?_ ?_
        rotate_left
        ·intro w'
         go_simp
         with_reducible rfl
        rotate_left
        ·simp only [Act.put, List.setIfInBounds_toArray, List.set_cons_zero, List.set_cons_succ, i64_w, i32_w]
         rfl
        refine pure_ (i := 6) (N := some 33) (v := ?_) (a' := ?_) #[false, true, false, false, true, true, true, false, false, false, false, false, false, false, false] rfl rfl (any_of HT_.out (by kernel_rfl)) (fun _ _ _ h => h) (Or.inl ⟨by rfl, ?_⟩) ?_ ?_
        rotate_left
        ·intro w'
         go_simp
         with_reducible rfl
        rotate_left
        ·simp only [Act.put, List.setIfInBounds_toArray, List.set_cons_zero, List.set_cons_succ, i64_w, i32_w]
         rfl
        refine pure_ (i := 8) (N := some 35) (v := ?_) (a' := ?_) #[false, true, false, false, true, true, true, false, true, false, false, false, false, false, false] rfl rfl (any_of HT_.out (by kernel_rfl)) (fun _ _ _ h => h) (Or.inl ⟨by rfl, ?_⟩) ?_ ?_
        rotate_left
        ·intro w'
         go_simp
         with_reducible rfl
        rotate_left
        ·simp only [Act.put, List.setIfInBounds_toArray, List.set_cons_zero, List.set_cons_succ, i64_w, i32_w]
         rfl
        refine take_ (i := 0) (N := some 27) (v := ?_) (a' := ?_) #[true, true, false, false, true, true, true, false, true, false, false, false, false, false, false] rfl rfl (take_ofW HT_.out HW_.out (by kernel_rfl)) (fun _ _ _ h => h) (Or.inl ⟨by rfl, ?_⟩) hHeld ?_ ?_
        rotate_left
        ·rintro w' ⟨s0, s1, s2, s3, s4, s5, s6, s7, s8, s9, s10, s11⟩
         go_simp
         with_reducible rfl
        rotate_left
        ·simp only [Act.put, List.setIfInBounds_toArray, List.set_cons_zero, List.set_cons_succ, i64_w, i32_w]
         rfl
        refine take_ (i := 2) (N := some 29) (v := ?_) (a' := ?_) #[true, true, true, false, true, true, true, false, true, false, false, false, false, false, false] rfl rfl (take_ofW HT_.out HW_.out (by kernel_rfl)) (fun _ _ _ h => h) (Or.inl ⟨by rfl, ?_⟩) hHeld ?_ ?_
        rotate_left
        ·rintro w' ⟨s0, s1, s2, s3, s4, s5, s6, s7, s8, s9, s10, s11⟩
         go_simp
         with_reducible rfl
        rotate_left
        ·simp only [Act.put, List.setIfInBounds_toArray, List.set_cons_zero, List.set_cons_succ, i64_w, i32_w]
         rfl
        refine take_ (i := 7) (N := some 34) (v := ?_) (a' := ?_) #[true, true, true, false, true, true, true, true, true, false, false, false, false, false, false] rfl rfl (take_ofW HT_.out HW_.out (by kernel_rfl)) (fun _ _ _ h => h) (Or.inl ⟨by rfl, ?_⟩) hHeld ?_ ?_
        rotate_left
        ·rintro w' ⟨s0, s1, s2, s3, s4, s5, s6, s7, s8, s9, s10, s11⟩
         go_simp
         with_reducible rfl
        rotate_left
        ·simp only [Act.put, List.setIfInBounds_toArray, List.set_cons_zero, List.set_cons_succ, i64_w, i32_w]
         rfl
        refine take_ (i := 9) (N := some 36) (v := ?_) (a' := ?_) #[true, true, true, false, true, true, true, true, true, true, false, false, false, false, false] rfl rfl (take_ofW HT_.out HW_.out (by kernel_rfl)) (fun _ _ _ h => h) (Or.inl ⟨by rfl, ?_⟩) hHeld ?_ ?_
        rotate_left
        ·rintro w' ⟨s0, s1, s2, s3, s4, s5, s6, s7, s8, s9, s10, s11⟩
         go_simp
         with_reducible rfl
        rotate_left
        ·simp only [Act.put, List.setIfInBounds_toArray, List.set_cons_zero, List.set_cons_succ, i64_w, i32_w]
         rfl
        refine join_ (σ := Nat × Nat) 2 #[true, true, true, true, true, true, true, true, true, true, true, true, true, false, false] (fun s_ => [(30, .agg #[.int .i64 t399, .int .i64 t400, .int .i64 t401, .int .i64 t402, .int .i64 t403]), (37, .agg #[.int .i64 t405, .int .i64 t406, .int .i64 t407, .int .i64 t408, .int .i64 t409]), (7, .pointer (some ⟨s_.1, 0, none⟩)), (8, .pointer (some ⟨s_.2, 0, none⟩))]) (fun s_ w' => (w'.cell? ⟨gb398, 0, none⟩ = some (.int .i64 ((rd_T75 l0 t396).f0)) ∧ w'.cell? ⟨gb398, 1, none⟩ = some (.int .i64 ((rd_T75 l0 t396).f1)) ∧ w'.cell? ⟨gb398, 2, none⟩ = some (.int .i64 ((rd_T75 l0 t396).f2)) ∧ w'.cell? ⟨gb398, 3, none⟩ = some (.int .i64 ((rd_T75 l0 t396).f3)) ∧ w'.cell? ⟨gb398, 4, none⟩ = some (.int .i64 ((rd_T75 l0 t396).f4)) ∧ w'.cell? ⟨gb398, 5, none⟩ = some (.bool ((rd_T75 l0 t396).f5)) ∧ w'.cell? (ad397.add ((x5_1).toNat * 6)) = some (.int .i64 ((rd_T75 l0 x5_1).f0)) ∧ w'.cell? ⟨(ad397.add ((x5_1).toNat * 6)).block, (ad397.add ((x5_1).toNat * 6)).off + 1, none⟩ = some (.int .i64 ((rd_T75 l0 x5_1).f1)) ∧ w'.cell? ⟨(ad397.add ((x5_1).toNat * 6)).block, (ad397.add ((x5_1).toNat * 6)).off + 2, none⟩ = some (.int .i64 ((rd_T75 l0 x5_1).f2)) ∧ w'.cell? ⟨(ad397.add ((x5_1).toNat * 6)).block, (ad397.add ((x5_1).toNat * 6)).off + 3, none⟩ = some (.int .i64 ((rd_T75 l0 x5_1).f3)) ∧ w'.cell? ⟨(ad397.add ((x5_1).toNat * 6)).block, (ad397.add ((x5_1).toNat * 6)).off + 4, none⟩ = some (.int .i64 ((rd_T75 l0 x5_1).f4)) ∧ w'.cell? ⟨(ad397.add ((x5_1).toNat * 6)).block, (ad397.add ((x5_1).toNat * 6)).off + 5, none⟩ = some (.bool ((rd_T75 l0 x5_1).f5))) ∧ (Kd.R (Kd.int .i64) 3 w' w.heap.size (fun _ => True) u4 x4_1) ∧ (w'.heap[gb398]? = some (.cells #[.int .i64 ((rd_T75 l0 t396).f0), .int .i64 ((rd_T75 l0 t396).f1), .int .i64 ((rd_T75 l0 t396).f2), .int .i64 ((rd_T75 l0 t396).f3), .int .i64 ((rd_T75 l0 t396).f4), .bool ((rd_T75 l0 t396).f5)] 75 (0, 0))) ∧ (w'.heap[s_.1]? = some (.cells #[.int .i64 0, .int .i64 0, .int .i64 0, .int .i64 0, .int .i64 0] 71 (0, 0))) ∧ (w'.heap[s_.2]? = some (.cells #[.int .i64 0, .int .i64 0, .int .i64 0, .int .i64 0, .int .i64 0] 71 (0, 0))) ∧ (w.heap.size ≤ s_.1) ∧ (w.heap.size ≤ s_.1) ∧ (gb398 ≠ s_.1) ∧ (s_.1 ≠ gb398) ∧ (s_.2 ≠ s_.1) ∧ (s_.1 ≠ s_.2) ∧ (w.heap.size ≤ s_.2) ∧ (w.heap.size ≤ s_.2) ∧ (gb398 ≠ s_.2) ∧ (s_.2 ≠ gb398) ∧ (Below w.heap.size w w')) ?_ ?_
        rotate_left
        ·intro hJ3_10_11_12
         refine join_ (σ := Nat) 3 #[true, true, true, true, true, true, true, true, true, true, true, true, false, false, false] (fun s_ => [(30, .agg #[.int .i64 t399, .int .i64 t400, .int .i64 t401, .int .i64 t402, .int .i64 t403]), (37, .agg #[.int .i64 t405, .int .i64 t406, .int .i64 t407, .int .i64 t408, .int .i64 t409]), (7, .pointer (some ⟨s_, 0, none⟩))]) (fun s_ w' => (w'.cell? ⟨gb398, 0, none⟩ = some (.int .i64 ((rd_T75 l0 t396).f0)) ∧ w'.cell? ⟨gb398, 1, none⟩ = some (.int .i64 ((rd_T75 l0 t396).f1)) ∧ w'.cell? ⟨gb398, 2, none⟩ = some (.int .i64 ((rd_T75 l0 t396).f2)) ∧ w'.cell? ⟨gb398, 3, none⟩ = some (.int .i64 ((rd_T75 l0 t396).f3)) ∧ w'.cell? ⟨gb398, 4, none⟩ = some (.int .i64 ((rd_T75 l0 t396).f4)) ∧ w'.cell? ⟨gb398, 5, none⟩ = some (.bool ((rd_T75 l0 t396).f5)) ∧ w'.cell? (ad397.add ((x5_1).toNat * 6)) = some (.int .i64 ((rd_T75 l0 x5_1).f0)) ∧ w'.cell? ⟨(ad397.add ((x5_1).toNat * 6)).block, (ad397.add ((x5_1).toNat * 6)).off + 1, none⟩ = some (.int .i64 ((rd_T75 l0 x5_1).f1)) ∧ w'.cell? ⟨(ad397.add ((x5_1).toNat * 6)).block, (ad397.add ((x5_1).toNat * 6)).off + 2, none⟩ = some (.int .i64 ((rd_T75 l0 x5_1).f2)) ∧ w'.cell? ⟨(ad397.add ((x5_1).toNat * 6)).block, (ad397.add ((x5_1).toNat * 6)).off + 3, none⟩ = some (.int .i64 ((rd_T75 l0 x5_1).f3)) ∧ w'.cell? ⟨(ad397.add ((x5_1).toNat * 6)).block, (ad397.add ((x5_1).toNat * 6)).off + 4, none⟩ = some (.int .i64 ((rd_T75 l0 x5_1).f4)) ∧ w'.cell? ⟨(ad397.add ((x5_1).toNat * 6)).block, (ad397.add ((x5_1).toNat * 6)).off + 5, none⟩ = some (.bool ((rd_T75 l0 x5_1).f5))) ∧ (Kd.R (Kd.int .i64) 3 w' w.heap.size (fun _ => True) u4 x4_1) ∧ (w'.heap[gb398]? = some (.cells #[.int .i64 ((rd_T75 l0 t396).f0), .int .i64 ((rd_T75 l0 t396).f1), .int .i64 ((rd_T75 l0 t396).f2), .int .i64 ((rd_T75 l0 t396).f3), .int .i64 ((rd_T75 l0 t396).f4), .bool ((rd_T75 l0 t396).f5)] 75 (0, 0))) ∧ (w'.heap[s_]? = some (.cells #[.int .i64 0, .int .i64 0, .int .i64 0, .int .i64 0, .int .i64 0] 71 (0, 0))) ∧ (w.heap.size ≤ s_) ∧ (w.heap.size ≤ s_) ∧ (gb398 ≠ s_) ∧ (s_ ≠ gb398) ∧ (Below w.heap.size w w')) ?_ ?_
         rotate_left
         ·intro hJ3_10_11
          refine join_ (σ := Nat) 3 #[true, true, true, true, true, true, true, true, true, true, true, false, true, false, false] (fun s_ => [(30, .agg #[.int .i64 t399, .int .i64 t400, .int .i64 t401, .int .i64 t402, .int .i64 t403]), (37, .agg #[.int .i64 t405, .int .i64 t406, .int .i64 t407, .int .i64 t408, .int .i64 t409]), (8, .pointer (some ⟨s_, 0, none⟩))]) (fun s_ w' => (w'.cell? ⟨gb398, 0, none⟩ = some (.int .i64 ((rd_T75 l0 t396).f0)) ∧ w'.cell? ⟨gb398, 1, none⟩ = some (.int .i64 ((rd_T75 l0 t396).f1)) ∧ w'.cell? ⟨gb398, 2, none⟩ = some (.int .i64 ((rd_T75 l0 t396).f2)) ∧ w'.cell? ⟨gb398, 3, none⟩ = some (.int .i64 ((rd_T75 l0 t396).f3)) ∧ w'.cell? ⟨gb398, 4, none⟩ = some (.int .i64 ((rd_T75 l0 t396).f4)) ∧ w'.cell? ⟨gb398, 5, none⟩ = some (.bool ((rd_T75 l0 t396).f5)) ∧ w'.cell? (ad397.add ((x5_1).toNat * 6)) = some (.int .i64 ((rd_T75 l0 x5_1).f0)) ∧ w'.cell? ⟨(ad397.add ((x5_1).toNat * 6)).block, (ad397.add ((x5_1).toNat * 6)).off + 1, none⟩ = some (.int .i64 ((rd_T75 l0 x5_1).f1)) ∧ w'.cell? ⟨(ad397.add ((x5_1).toNat * 6)).block, (ad397.add ((x5_1).toNat * 6)).off + 2, none⟩ = some (.int .i64 ((rd_T75 l0 x5_1).f2)) ∧ w'.cell? ⟨(ad397.add ((x5_1).toNat * 6)).block, (ad397.add ((x5_1).toNat * 6)).off + 3, none⟩ = some (.int .i64 ((rd_T75 l0 x5_1).f3)) ∧ w'.cell? ⟨(ad397.add ((x5_1).toNat * 6)).block, (ad397.add ((x5_1).toNat * 6)).off + 4, none⟩ = some (.int .i64 ((rd_T75 l0 x5_1).f4)) ∧ w'.cell? ⟨(ad397.add ((x5_1).toNat * 6)).block, (ad397.add ((x5_1).toNat * 6)).off + 5, none⟩ = some (.bool ((rd_T75 l0 x5_1).f5))) ∧ (Kd.R (Kd.int .i64) 3 w' w.heap.size (fun _ => True) u4 x4_1) ∧ (w'.heap[gb398]? = some (.cells #[.int .i64 ((rd_T75 l0 t396).f0), .int .i64 ((rd_T75 l0 t396).f1), .int .i64 ((rd_T75 l0 t396).f2), .int .i64 ((rd_T75 l0 t396).f3), .int .i64 ((rd_T75 l0 t396).f4), .bool ((rd_T75 l0 t396).f5)] 75 (0, 0))) ∧ (w'.heap[s_]? = some (.cells #[.int .i64 0, .int .i64 0, .int .i64 0, .int .i64 0, .int .i64 0] 71 (0, 0))) ∧ (w.heap.size ≤ s_) ∧ (w.heap.size ≤ s_) ∧ (gb398 ≠ s_) ∧ (s_ ≠ gb398) ∧ (Below w.heap.size w w')) ?_ ?_
          rotate_left
          ·intro hJ3_10_12
           refine join_ (σ := Nat × Nat) 3 #[true, true, true, true, true, true, true, true, true, true, false, true, true, false, false] (fun s_ => [(30, .agg #[.int .i64 t399, .int .i64 t400, .int .i64 t401, .int .i64 t402, .int .i64 t403]), (7, .pointer (some ⟨s_.1, 0, none⟩)), (8, .pointer (some ⟨s_.2, 0, none⟩))]) (fun s_ w' => (w'.cell? ⟨gb398, 0, none⟩ = some (.int .i64 ((rd_T75 l0 t396).f0)) ∧ w'.cell? ⟨gb398, 1, none⟩ = some (.int .i64 ((rd_T75 l0 t396).f1)) ∧ w'.cell? ⟨gb398, 2, none⟩ = some (.int .i64 ((rd_T75 l0 t396).f2)) ∧ w'.cell? ⟨gb398, 3, none⟩ = some (.int .i64 ((rd_T75 l0 t396).f3)) ∧ w'.cell? ⟨gb398, 4, none⟩ = some (.int .i64 ((rd_T75 l0 t396).f4)) ∧ w'.cell? ⟨gb398, 5, none⟩ = some (.bool ((rd_T75 l0 t396).f5)) ∧ w'.cell? (ad397.add ((x5_1).toNat * 6)) = some (.int .i64 ((rd_T75 l0 x5_1).f0)) ∧ w'.cell? ⟨(ad397.add ((x5_1).toNat * 6)).block, (ad397.add ((x5_1).toNat * 6)).off + 1, none⟩ = some (.int .i64 ((rd_T75 l0 x5_1).f1)) ∧ w'.cell? ⟨(ad397.add ((x5_1).toNat * 6)).block, (ad397.add ((x5_1).toNat * 6)).off + 2, none⟩ = some (.int .i64 ((rd_T75 l0 x5_1).f2)) ∧ w'.cell? ⟨(ad397.add ((x5_1).toNat * 6)).block, (ad397.add ((x5_1).toNat * 6)).off + 3, none⟩ = some (.int .i64 ((rd_T75 l0 x5_1).f3)) ∧ w'.cell? ⟨(ad397.add ((x5_1).toNat * 6)).block, (ad397.add ((x5_1).toNat * 6)).off + 4, none⟩ = some (.int .i64 ((rd_T75 l0 x5_1).f4)) ∧ w'.cell? ⟨(ad397.add ((x5_1).toNat * 6)).block, (ad397.add ((x5_1).toNat * 6)).off + 5, none⟩ = some (.bool ((rd_T75 l0 x5_1).f5))) ∧ (Kd.R (Kd.int .i64) 3 w' w.heap.size (fun _ => True) u4 x4_1) ∧ (w'.heap[gb398]? = some (.cells #[.int .i64 ((rd_T75 l0 t396).f0), .int .i64 ((rd_T75 l0 t396).f1), .int .i64 ((rd_T75 l0 t396).f2), .int .i64 ((rd_T75 l0 t396).f3), .int .i64 ((rd_T75 l0 t396).f4), .bool ((rd_T75 l0 t396).f5)] 75 (0, 0))) ∧ (w'.heap[s_.1]? = some (.cells #[.int .i64 0, .int .i64 0, .int .i64 0, .int .i64 0, .int .i64 0] 71 (0, 0))) ∧ (w'.heap[s_.2]? = some (.cells #[.int .i64 0, .int .i64 0, .int .i64 0, .int .i64 0, .int .i64 0] 71 (0, 0))) ∧ (w.heap.size ≤ s_.1) ∧ (w.heap.size ≤ s_.1) ∧ (gb398 ≠ s_.1) ∧ (s_.1 ≠ gb398) ∧ (s_.2 ≠ s_.1) ∧ (s_.1 ≠ s_.2) ∧ (w.heap.size ≤ s_.2) ∧ (w.heap.size ≤ s_.2) ∧ (gb398 ≠ s_.2) ∧ (s_.2 ≠ gb398) ∧ (Below w.heap.size w w')) ?_ ?_
           rotate_left
           ·intro hJ3_11_12
            refine join_ (σ := Unit) 4 #[true, true, true, true, true, true, true, true, true, true, true, false, false, false, false] (fun s_ => [(30, .agg #[.int .i64 t399, .int .i64 t400, .int .i64 t401, .int .i64 t402, .int .i64 t403]), (37, .agg #[.int .i64 t405, .int .i64 t406, .int .i64 t407, .int .i64 t408, .int .i64 t409])]) (fun s_ w' => (w'.cell? ⟨gb398, 0, none⟩ = some (.int .i64 ((rd_T75 l0 t396).f0)) ∧ w'.cell? ⟨gb398, 1, none⟩ = some (.int .i64 ((rd_T75 l0 t396).f1)) ∧ w'.cell? ⟨gb398, 2, none⟩ = some (.int .i64 ((rd_T75 l0 t396).f2)) ∧ w'.cell? ⟨gb398, 3, none⟩ = some (.int .i64 ((rd_T75 l0 t396).f3)) ∧ w'.cell? ⟨gb398, 4, none⟩ = some (.int .i64 ((rd_T75 l0 t396).f4)) ∧ w'.cell? ⟨gb398, 5, none⟩ = some (.bool ((rd_T75 l0 t396).f5)) ∧ w'.cell? (ad397.add ((x5_1).toNat * 6)) = some (.int .i64 ((rd_T75 l0 x5_1).f0)) ∧ w'.cell? ⟨(ad397.add ((x5_1).toNat * 6)).block, (ad397.add ((x5_1).toNat * 6)).off + 1, none⟩ = some (.int .i64 ((rd_T75 l0 x5_1).f1)) ∧ w'.cell? ⟨(ad397.add ((x5_1).toNat * 6)).block, (ad397.add ((x5_1).toNat * 6)).off + 2, none⟩ = some (.int .i64 ((rd_T75 l0 x5_1).f2)) ∧ w'.cell? ⟨(ad397.add ((x5_1).toNat * 6)).block, (ad397.add ((x5_1).toNat * 6)).off + 3, none⟩ = some (.int .i64 ((rd_T75 l0 x5_1).f3)) ∧ w'.cell? ⟨(ad397.add ((x5_1).toNat * 6)).block, (ad397.add ((x5_1).toNat * 6)).off + 4, none⟩ = some (.int .i64 ((rd_T75 l0 x5_1).f4)) ∧ w'.cell? ⟨(ad397.add ((x5_1).toNat * 6)).block, (ad397.add ((x5_1).toNat * 6)).off + 5, none⟩ = some (.bool ((rd_T75 l0 x5_1).f5))) ∧ (Kd.R (Kd.int .i64) 3 w' w.heap.size (fun _ => True) u4 x4_1) ∧ (w'.heap[gb398]? = some (.cells #[.int .i64 ((rd_T75 l0 t396).f0), .int .i64 ((rd_T75 l0 t396).f1), .int .i64 ((rd_T75 l0 t396).f2), .int .i64 ((rd_T75 l0 t396).f3), .int .i64 ((rd_T75 l0 t396).f4), .bool ((rd_T75 l0 t396).f5)] 75 (0, 0))) ∧ (Below w.heap.size w w')) ?_ ?_
            rotate_left
            ·intro hJ3_10
             refine join_ (σ := Nat) 4 #[true, true, true, true, true, true, true, true, true, true, false, true, false, false, false] (fun s_ => [(30, .agg #[.int .i64 t399, .int .i64 t400, .int .i64 t401, .int .i64 t402, .int .i64 t403]), (7, .pointer (some ⟨s_, 0, none⟩))]) (fun s_ w' => (w'.cell? ⟨gb398, 0, none⟩ = some (.int .i64 ((rd_T75 l0 t396).f0)) ∧ w'.cell? ⟨gb398, 1, none⟩ = some (.int .i64 ((rd_T75 l0 t396).f1)) ∧ w'.cell? ⟨gb398, 2, none⟩ = some (.int .i64 ((rd_T75 l0 t396).f2)) ∧ w'.cell? ⟨gb398, 3, none⟩ = some (.int .i64 ((rd_T75 l0 t396).f3)) ∧ w'.cell? ⟨gb398, 4, none⟩ = some (.int .i64 ((rd_T75 l0 t396).f4)) ∧ w'.cell? ⟨gb398, 5, none⟩ = some (.bool ((rd_T75 l0 t396).f5)) ∧ w'.cell? (ad397.add ((x5_1).toNat * 6)) = some (.int .i64 ((rd_T75 l0 x5_1).f0)) ∧ w'.cell? ⟨(ad397.add ((x5_1).toNat * 6)).block, (ad397.add ((x5_1).toNat * 6)).off + 1, none⟩ = some (.int .i64 ((rd_T75 l0 x5_1).f1)) ∧ w'.cell? ⟨(ad397.add ((x5_1).toNat * 6)).block, (ad397.add ((x5_1).toNat * 6)).off + 2, none⟩ = some (.int .i64 ((rd_T75 l0 x5_1).f2)) ∧ w'.cell? ⟨(ad397.add ((x5_1).toNat * 6)).block, (ad397.add ((x5_1).toNat * 6)).off + 3, none⟩ = some (.int .i64 ((rd_T75 l0 x5_1).f3)) ∧ w'.cell? ⟨(ad397.add ((x5_1).toNat * 6)).block, (ad397.add ((x5_1).toNat * 6)).off + 4, none⟩ = some (.int .i64 ((rd_T75 l0 x5_1).f4)) ∧ w'.cell? ⟨(ad397.add ((x5_1).toNat * 6)).block, (ad397.add ((x5_1).toNat * 6)).off + 5, none⟩ = some (.bool ((rd_T75 l0 x5_1).f5))) ∧ (Kd.R (Kd.int .i64) 3 w' w.heap.size (fun _ => True) u4 x4_1) ∧ (w'.heap[gb398]? = some (.cells #[.int .i64 ((rd_T75 l0 t396).f0), .int .i64 ((rd_T75 l0 t396).f1), .int .i64 ((rd_T75 l0 t396).f2), .int .i64 ((rd_T75 l0 t396).f3), .int .i64 ((rd_T75 l0 t396).f4), .bool ((rd_T75 l0 t396).f5)] 75 (0, 0))) ∧ (w'.heap[s_]? = some (.cells #[.int .i64 0, .int .i64 0, .int .i64 0, .int .i64 0, .int .i64 0] 71 (0, 0))) ∧ (w.heap.size ≤ s_) ∧ (w.heap.size ≤ s_) ∧ (gb398 ≠ s_) ∧ (s_ ≠ gb398) ∧ (Below w.heap.size w w')) ?_ ?_
             rotate_left
             ·intro hJ3_11
              refine join_ (σ := Nat) 4 #[true, true, true, true, true, true, true, true, true, true, false, false, true, false, false] (fun s_ => [(30, .agg #[.int .i64 t399, .int .i64 t400, .int .i64 t401, .int .i64 t402, .int .i64 t403]), (8, .pointer (some ⟨s_, 0, none⟩))]) (fun s_ w' => (w'.cell? ⟨gb398, 0, none⟩ = some (.int .i64 ((rd_T75 l0 t396).f0)) ∧ w'.cell? ⟨gb398, 1, none⟩ = some (.int .i64 ((rd_T75 l0 t396).f1)) ∧ w'.cell? ⟨gb398, 2, none⟩ = some (.int .i64 ((rd_T75 l0 t396).f2)) ∧ w'.cell? ⟨gb398, 3, none⟩ = some (.int .i64 ((rd_T75 l0 t396).f3)) ∧ w'.cell? ⟨gb398, 4, none⟩ = some (.int .i64 ((rd_T75 l0 t396).f4)) ∧ w'.cell? ⟨gb398, 5, none⟩ = some (.bool ((rd_T75 l0 t396).f5)) ∧ w'.cell? (ad397.add ((x5_1).toNat * 6)) = some (.int .i64 ((rd_T75 l0 x5_1).f0)) ∧ w'.cell? ⟨(ad397.add ((x5_1).toNat * 6)).block, (ad397.add ((x5_1).toNat * 6)).off + 1, none⟩ = some (.int .i64 ((rd_T75 l0 x5_1).f1)) ∧ w'.cell? ⟨(ad397.add ((x5_1).toNat * 6)).block, (ad397.add ((x5_1).toNat * 6)).off + 2, none⟩ = some (.int .i64 ((rd_T75 l0 x5_1).f2)) ∧ w'.cell? ⟨(ad397.add ((x5_1).toNat * 6)).block, (ad397.add ((x5_1).toNat * 6)).off + 3, none⟩ = some (.int .i64 ((rd_T75 l0 x5_1).f3)) ∧ w'.cell? ⟨(ad397.add ((x5_1).toNat * 6)).block, (ad397.add ((x5_1).toNat * 6)).off + 4, none⟩ = some (.int .i64 ((rd_T75 l0 x5_1).f4)) ∧ w'.cell? ⟨(ad397.add ((x5_1).toNat * 6)).block, (ad397.add ((x5_1).toNat * 6)).off + 5, none⟩ = some (.bool ((rd_T75 l0 x5_1).f5))) ∧ (Kd.R (Kd.int .i64) 3 w' w.heap.size (fun _ => True) u4 x4_1) ∧ (w'.heap[gb398]? = some (.cells #[.int .i64 ((rd_T75 l0 t396).f0), .int .i64 ((rd_T75 l0 t396).f1), .int .i64 ((rd_T75 l0 t396).f2), .int .i64 ((rd_T75 l0 t396).f3), .int .i64 ((rd_T75 l0 t396).f4), .bool ((rd_T75 l0 t396).f5)] 75 (0, 0))) ∧ (w'.heap[s_]? = some (.cells #[.int .i64 0, .int .i64 0, .int .i64 0, .int .i64 0, .int .i64 0] 71 (0, 0))) ∧ (w.heap.size ≤ s_) ∧ (w.heap.size ≤ s_) ∧ (gb398 ≠ s_) ∧ (s_ ≠ gb398) ∧ (Below w.heap.size w w')) ?_ ?_
              rotate_left
              ·intro hJ3_12
               refine join_ (σ := Nat × Nat) 4 #[true, true, true, false, true, true, true, true, true, true, false, true, true, false, false] (fun s_ => [(7, .pointer (some ⟨s_.1, 0, none⟩)), (8, .pointer (some ⟨s_.2, 0, none⟩))]) (fun s_ w' => (w'.cell? ⟨gb398, 0, none⟩ = some (.int .i64 ((rd_T75 l0 t396).f0)) ∧ w'.cell? ⟨gb398, 1, none⟩ = some (.int .i64 ((rd_T75 l0 t396).f1)) ∧ w'.cell? ⟨gb398, 2, none⟩ = some (.int .i64 ((rd_T75 l0 t396).f2)) ∧ w'.cell? ⟨gb398, 3, none⟩ = some (.int .i64 ((rd_T75 l0 t396).f3)) ∧ w'.cell? ⟨gb398, 4, none⟩ = some (.int .i64 ((rd_T75 l0 t396).f4)) ∧ w'.cell? ⟨gb398, 5, none⟩ = some (.bool ((rd_T75 l0 t396).f5)) ∧ w'.cell? (ad397.add ((x5_1).toNat * 6)) = some (.int .i64 ((rd_T75 l0 x5_1).f0)) ∧ w'.cell? ⟨(ad397.add ((x5_1).toNat * 6)).block, (ad397.add ((x5_1).toNat * 6)).off + 1, none⟩ = some (.int .i64 ((rd_T75 l0 x5_1).f1)) ∧ w'.cell? ⟨(ad397.add ((x5_1).toNat * 6)).block, (ad397.add ((x5_1).toNat * 6)).off + 2, none⟩ = some (.int .i64 ((rd_T75 l0 x5_1).f2)) ∧ w'.cell? ⟨(ad397.add ((x5_1).toNat * 6)).block, (ad397.add ((x5_1).toNat * 6)).off + 3, none⟩ = some (.int .i64 ((rd_T75 l0 x5_1).f3)) ∧ w'.cell? ⟨(ad397.add ((x5_1).toNat * 6)).block, (ad397.add ((x5_1).toNat * 6)).off + 4, none⟩ = some (.int .i64 ((rd_T75 l0 x5_1).f4)) ∧ w'.cell? ⟨(ad397.add ((x5_1).toNat * 6)).block, (ad397.add ((x5_1).toNat * 6)).off + 5, none⟩ = some (.bool ((rd_T75 l0 x5_1).f5))) ∧ (Kd.R (Kd.int .i64) 3 w' w.heap.size (fun _ => True) u4 x4_1) ∧ (w'.heap[gb398]? = some (.cells #[.int .i64 ((rd_T75 l0 t396).f0), .int .i64 ((rd_T75 l0 t396).f1), .int .i64 ((rd_T75 l0 t396).f2), .int .i64 ((rd_T75 l0 t396).f3), .int .i64 ((rd_T75 l0 t396).f4), .bool ((rd_T75 l0 t396).f5)] 75 (0, 0))) ∧ (w'.heap[s_.1]? = some (.cells #[.int .i64 0, .int .i64 0, .int .i64 0, .int .i64 0, .int .i64 0] 71 (0, 0))) ∧ (w'.heap[s_.2]? = some (.cells #[.int .i64 0, .int .i64 0, .int .i64 0, .int .i64 0, .int .i64 0] 71 (0, 0))) ∧ (w.heap.size ≤ s_.1) ∧ (w.heap.size ≤ s_.1) ∧ (gb398 ≠ s_.1) ∧ (s_.1 ≠ gb398) ∧ (s_.2 ≠ s_.1) ∧ (s_.1 ≠ s_.2) ∧ (w.heap.size ≤ s_.2) ∧ (w.heap.size ≤ s_.2) ∧ (gb398 ≠ s_.2) ∧ (s_.2 ≠ gb398) ∧ (Below w.heap.size w w')) ?_ ?_
               rotate_left
               ·intro hJ11_12
                refine join_ (σ := Unit) 5 #[true, true, true, true, true, true, true, true, true, true, false, false, false, false, false] (fun s_ => [(30, .agg #[.int .i64 t399, .int .i64 t400, .int .i64 t401, .int .i64 t402, .int .i64 t403])]) (fun s_ w' => (w'.cell? ⟨gb398, 0, none⟩ = some (.int .i64 ((rd_T75 l0 t396).f0)) ∧ w'.cell? ⟨gb398, 1, none⟩ = some (.int .i64 ((rd_T75 l0 t396).f1)) ∧ w'.cell? ⟨gb398, 2, none⟩ = some (.int .i64 ((rd_T75 l0 t396).f2)) ∧ w'.cell? ⟨gb398, 3, none⟩ = some (.int .i64 ((rd_T75 l0 t396).f3)) ∧ w'.cell? ⟨gb398, 4, none⟩ = some (.int .i64 ((rd_T75 l0 t396).f4)) ∧ w'.cell? ⟨gb398, 5, none⟩ = some (.bool ((rd_T75 l0 t396).f5)) ∧ w'.cell? (ad397.add ((x5_1).toNat * 6)) = some (.int .i64 ((rd_T75 l0 x5_1).f0)) ∧ w'.cell? ⟨(ad397.add ((x5_1).toNat * 6)).block, (ad397.add ((x5_1).toNat * 6)).off + 1, none⟩ = some (.int .i64 ((rd_T75 l0 x5_1).f1)) ∧ w'.cell? ⟨(ad397.add ((x5_1).toNat * 6)).block, (ad397.add ((x5_1).toNat * 6)).off + 2, none⟩ = some (.int .i64 ((rd_T75 l0 x5_1).f2)) ∧ w'.cell? ⟨(ad397.add ((x5_1).toNat * 6)).block, (ad397.add ((x5_1).toNat * 6)).off + 3, none⟩ = some (.int .i64 ((rd_T75 l0 x5_1).f3)) ∧ w'.cell? ⟨(ad397.add ((x5_1).toNat * 6)).block, (ad397.add ((x5_1).toNat * 6)).off + 4, none⟩ = some (.int .i64 ((rd_T75 l0 x5_1).f4)) ∧ w'.cell? ⟨(ad397.add ((x5_1).toNat * 6)).block, (ad397.add ((x5_1).toNat * 6)).off + 5, none⟩ = some (.bool ((rd_T75 l0 x5_1).f5))) ∧ (Kd.R (Kd.int .i64) 3 w' w.heap.size (fun _ => True) u4 x4_1) ∧ (w'.heap[gb398]? = some (.cells #[.int .i64 ((rd_T75 l0 t396).f0), .int .i64 ((rd_T75 l0 t396).f1), .int .i64 ((rd_T75 l0 t396).f2), .int .i64 ((rd_T75 l0 t396).f3), .int .i64 ((rd_T75 l0 t396).f4), .bool ((rd_T75 l0 t396).f5)] 75 (0, 0))) ∧ (Below w.heap.size w w')) ?_ ?_
                rotate_left
                ·intro hJ3
                 refine join_ (σ := Nat) 5 #[true, true, true, false, true, true, true, true, true, true, false, true, false, false, false] (fun s_ => [(7, .pointer (some ⟨s_, 0, none⟩))]) (fun s_ w' => (w'.cell? ⟨gb398, 0, none⟩ = some (.int .i64 ((rd_T75 l0 t396).f0)) ∧ w'.cell? ⟨gb398, 1, none⟩ = some (.int .i64 ((rd_T75 l0 t396).f1)) ∧ w'.cell? ⟨gb398, 2, none⟩ = some (.int .i64 ((rd_T75 l0 t396).f2)) ∧ w'.cell? ⟨gb398, 3, none⟩ = some (.int .i64 ((rd_T75 l0 t396).f3)) ∧ w'.cell? ⟨gb398, 4, none⟩ = some (.int .i64 ((rd_T75 l0 t396).f4)) ∧ w'.cell? ⟨gb398, 5, none⟩ = some (.bool ((rd_T75 l0 t396).f5)) ∧ w'.cell? (ad397.add ((x5_1).toNat * 6)) = some (.int .i64 ((rd_T75 l0 x5_1).f0)) ∧ w'.cell? ⟨(ad397.add ((x5_1).toNat * 6)).block, (ad397.add ((x5_1).toNat * 6)).off + 1, none⟩ = some (.int .i64 ((rd_T75 l0 x5_1).f1)) ∧ w'.cell? ⟨(ad397.add ((x5_1).toNat * 6)).block, (ad397.add ((x5_1).toNat * 6)).off + 2, none⟩ = some (.int .i64 ((rd_T75 l0 x5_1).f2)) ∧ w'.cell? ⟨(ad397.add ((x5_1).toNat * 6)).block, (ad397.add ((x5_1).toNat * 6)).off + 3, none⟩ = some (.int .i64 ((rd_T75 l0 x5_1).f3)) ∧ w'.cell? ⟨(ad397.add ((x5_1).toNat * 6)).block, (ad397.add ((x5_1).toNat * 6)).off + 4, none⟩ = some (.int .i64 ((rd_T75 l0 x5_1).f4)) ∧ w'.cell? ⟨(ad397.add ((x5_1).toNat * 6)).block, (ad397.add ((x5_1).toNat * 6)).off + 5, none⟩ = some (.bool ((rd_T75 l0 x5_1).f5))) ∧ (Kd.R (Kd.int .i64) 3 w' w.heap.size (fun _ => True) u4 x4_1) ∧ (w'.heap[gb398]? = some (.cells #[.int .i64 ((rd_T75 l0 t396).f0), .int .i64 ((rd_T75 l0 t396).f1), .int .i64 ((rd_T75 l0 t396).f2), .int .i64 ((rd_T75 l0 t396).f3), .int .i64 ((rd_T75 l0 t396).f4), .bool ((rd_T75 l0 t396).f5)] 75 (0, 0))) ∧ (w'.heap[s_]? = some (.cells #[.int .i64 0, .int .i64 0, .int .i64 0, .int .i64 0, .int .i64 0] 71 (0, 0))) ∧ (w.heap.size ≤ s_) ∧ (w.heap.size ≤ s_) ∧ (gb398 ≠ s_) ∧ (s_ ≠ gb398) ∧ (Below w.heap.size w w')) ?_ ?_
                 rotate_left
                 ·intro hJ11
                  refine join_ (σ := Nat) 5 #[true, true, true, false, true, true, true, true, true, true, false, false, true, false, false] (fun s_ => [(8, .pointer (some ⟨s_, 0, none⟩))]) (fun s_ w' => (w'.cell? ⟨gb398, 0, none⟩ = some (.int .i64 ((rd_T75 l0 t396).f0)) ∧ w'.cell? ⟨gb398, 1, none⟩ = some (.int .i64 ((rd_T75 l0 t396).f1)) ∧ w'.cell? ⟨gb398, 2, none⟩ = some (.int .i64 ((rd_T75 l0 t396).f2)) ∧ w'.cell? ⟨gb398, 3, none⟩ = some (.int .i64 ((rd_T75 l0 t396).f3)) ∧ w'.cell? ⟨gb398, 4, none⟩ = some (.int .i64 ((rd_T75 l0 t396).f4)) ∧ w'.cell? ⟨gb398, 5, none⟩ = some (.bool ((rd_T75 l0 t396).f5)) ∧ w'.cell? (ad397.add ((x5_1).toNat * 6)) = some (.int .i64 ((rd_T75 l0 x5_1).f0)) ∧ w'.cell? ⟨(ad397.add ((x5_1).toNat * 6)).block, (ad397.add ((x5_1).toNat * 6)).off + 1, none⟩ = some (.int .i64 ((rd_T75 l0 x5_1).f1)) ∧ w'.cell? ⟨(ad397.add ((x5_1).toNat * 6)).block, (ad397.add ((x5_1).toNat * 6)).off + 2, none⟩ = some (.int .i64 ((rd_T75 l0 x5_1).f2)) ∧ w'.cell? ⟨(ad397.add ((x5_1).toNat * 6)).block, (ad397.add ((x5_1).toNat * 6)).off + 3, none⟩ = some (.int .i64 ((rd_T75 l0 x5_1).f3)) ∧ w'.cell? ⟨(ad397.add ((x5_1).toNat * 6)).block, (ad397.add ((x5_1).toNat * 6)).off + 4, none⟩ = some (.int .i64 ((rd_T75 l0 x5_1).f4)) ∧ w'.cell? ⟨(ad397.add ((x5_1).toNat * 6)).block, (ad397.add ((x5_1).toNat * 6)).off + 5, none⟩ = some (.bool ((rd_T75 l0 x5_1).f5))) ∧ (Kd.R (Kd.int .i64) 3 w' w.heap.size (fun _ => True) u4 x4_1) ∧ (w'.heap[gb398]? = some (.cells #[.int .i64 ((rd_T75 l0 t396).f0), .int .i64 ((rd_T75 l0 t396).f1), .int .i64 ((rd_T75 l0 t396).f2), .int .i64 ((rd_T75 l0 t396).f3), .int .i64 ((rd_T75 l0 t396).f4), .bool ((rd_T75 l0 t396).f5)] 75 (0, 0))) ∧ (w'.heap[s_]? = some (.cells #[.int .i64 0, .int .i64 0, .int .i64 0, .int .i64 0, .int .i64 0] 71 (0, 0))) ∧ (w.heap.size ≤ s_) ∧ (w.heap.size ≤ s_) ∧ (gb398 ≠ s_) ∧ (s_ ≠ gb398) ∧ (Below w.heap.size w w')) ?_ ?_
                  rotate_left
                  ·intro hJ12
                   refine three_ (i := 3) (j := 11) (k := 12) (Ni := some 30) (Nj := some 7) (Nk := some 8) #[true, true, true, true, true, true, true, true, true, true, false, false, false, false, false] #[true, true, true, false, true, true, true, true, true, true, false, true, false, false, false] #[true, true, true, false, true, true, true, true, true, true, false, false, true, false, false] rfl rfl rfl rfl rfl rfl (three_of HT_.out (by kernel_rfl)) (by decide) (by decide) (by decide) (fun K hK => ?_) (fun K hK => ?_) (fun K hK => ?_)
                   ·skip
                    refine goes_ Try.func81 (by kernel_rfl) rfl #[.agg #[.int .i64 ((rd_T75 l0 t396).f0), .int .i64 ((rd_T75 l0 t396).f1), .int .i64 ((rd_T75 l0 t396).f2), .int .i64 ((rd_T75 l0 t396).f3), .int .i64 ((rd_T75 l0 t396).f4), .bool ((rd_T75 l0 t396).f5)], .int .i64 ((rd_T75 l0 t396).f0)] (by rfl) rfl rfl (by (try simp only [List.map_toArray, List.map_cons, List.map_nil]); first | done | rfl | (simp only [List.length_drop, List.length_take]; rfl)) ?_
                    with_reducible refine (spec_l7Turned.calls ((rd_T75 l0 t396).f0) ((rd_T75 l0 t396).f1) ((rd_T75 l0 t396).f2) ((rd_T75 l0 t396).f3) ((rd_T75 l0 t396).f4) ((rd_T75 l0 t396).f5) ((rd_T75 l0 t396).f0) t399 t400 t401 t402 t403 _ A11.out).mono ?_
                    rintro e w22 ⟨rfl, hb⟩
                    refine ⟨_, rfl, ?_⟩
                    have n0_ := Aside0.mk (Kd.R_below (by (with_reducible repeat (first | apply Kd.R_alloc | apply Kd.R_drewN | apply Kd.R_drew)); exact HO_4.out) hb)
                    have n1_ := Aside0.mk (blk_below (g := gb398) (o := .cells #[.int .i64 ((rd_T75 l0 t396).f0), .int .i64 ((rd_T75 l0 t396).f1), .int .i64 ((rd_T75 l0 t396).f2), .int .i64 ((rd_T75 l0 t396).f3), .int .i64 ((rd_T75 l0 t396).f4), .bool ((rd_T75 l0 t396).f5)] 75 (0, 0)) (by (with_reducible repeat (first | refine blk_drewN ?_ _ | refine blk_drew ?_ | refine blk_alloc ?_ _)); exact BK398.out) hb)
                    have n2_ := Aside0.mk (below_step (by repeat (first | (with_reducible first | exact HB.out | apply below_alloc | apply pw_below_drewN | apply below_drew1 | refine below_set ?_ GE398.out) | exact HB.out)) hb)
                    clear HO_4
                    clear BK398
                    clear HB
                    have HO_4 := n0_
                    have BK398 := n1_
                    have HB := n2_
                    clear n0_ n1_ n2_
                    (try clear hb)
                    (try clear hb2)
                    (try clear hk)
                    (try clear hi)
                    refine hK.out _ _ ⟨(blk_cell BK398.out 0).trans rfl, (blk_cell BK398.out 1).trans rfl, (blk_cell BK398.out 2).trans rfl, (blk_cell BK398.out 3).trans rfl, (blk_cell BK398.out 4).trans rfl, (blk_cell BK398.out 5).trans rfl, ((HB.out.cell (World.block_lt_of_cell? w _ hw404_0)).trans hw404_0), ((HB.out.cell (World.block_lt_of_cell? w _ hw404_1)).trans hw404_1), ((HB.out.cell (World.block_lt_of_cell? w _ hw404_2)).trans hw404_2), ((HB.out.cell (World.block_lt_of_cell? w _ hw404_3)).trans hw404_3), ((HB.out.cell (World.block_lt_of_cell? w _ hw404_4)).trans hw404_4), ((HB.out.cell (World.block_lt_of_cell? w _ hw404_5)).trans hw404_5)⟩ (fun hHeld => ?_)
                    clear hK K
                    refine norm_ (a' := ?_) ?_ ?_
                    rotate_left
                    ·show Act.put _ (some 30) _ = _
                     simp only [Act.put, List.setIfInBounds_toArray, List.set_cons_zero, List.set_cons_succ, i64_w, i32_w]
                     rfl
                    exact norm_ (by first | (simp only [putAll, Act.put, List.setIfInBounds_toArray, List.set_cons_zero, List.set_cons_succ]; done) | (simp only [putAll, Act.put, List.setIfInBounds_toArray, List.set_cons_zero, List.set_cons_succ]; rfl)) (hJ3 () _ ⟨hHeld, (by (with_reducible repeat (first | apply Kd.R_alloc | apply Kd.R_drewN | apply Kd.R_drew)); exact HO_4.out), (by (with_reducible repeat (first | refine blk_drewN ?_ _ | refine blk_drew ?_ | refine blk_alloc ?_ _)); exact BK398.out), (by repeat (first | (with_reducible first | exact HB.out | apply below_alloc | apply pw_below_drewN | apply below_drew1 | refine below_set ?_ GE398.out) | exact HB.out))⟩)
                   ·skip
                    refine box_step ?hg (N := 7) ?hd (cs := #[.int .i64 0, .int .i64 0, .int .i64 0, .int .i64 0, .int .i64 0]) (t := 71) ?hr ?_; (case hd => rfl); (case hg => rfl); (case hr => first | (go_simp; done) | (go_simp; rfl))
                    intro gb410 hg w22 hbox hb
                    have n0_ := Aside0.mk (Kd.R_below (by (with_reducible repeat (first | apply Kd.R_alloc | apply Kd.R_drewN | apply Kd.R_drew)); exact HO_4.out) hb)
                    have n1_ := Aside0.mk (blk_below (g := gb398) (o := .cells #[.int .i64 ((rd_T75 l0 t396).f0), .int .i64 ((rd_T75 l0 t396).f1), .int .i64 ((rd_T75 l0 t396).f2), .int .i64 ((rd_T75 l0 t396).f3), .int .i64 ((rd_T75 l0 t396).f4), .bool ((rd_T75 l0 t396).f5)] 75 (0, 0)) (by (with_reducible repeat (first | refine blk_drewN ?_ _ | refine blk_drew ?_ | refine blk_alloc ?_ _)); exact BK398.out) hb)
                    have n2_ := Aside0.mk (below_step (by repeat (first | (with_reducible first | exact HB.out | apply below_alloc | apply pw_below_drewN | apply below_drew1 | refine below_set ?_ GE398.out) | exact HB.out)) hb)
                    have n3_ := Aside0.mk (hbox)
                    have n4_ := Aside0.mk ((by rw [hg]; exact (below_size (by repeat (first | (with_reducible first | exact HB.out | apply below_alloc | apply pw_below_drewN | apply below_drew1 | refine below_set ?_ GE398.out) | exact HB.out))) : w.heap.size ≤ gb410))
                    have n5_ := Aside0.mk ((by rw [hg]; exact (below_size (by repeat (first | (with_reducible first | exact HB.out | apply below_alloc | apply pw_below_drewN | apply below_drew1 | refine below_set ?_ GE398.out) | exact HB.out))) : w.heap.size ≤ gb410))
                    have n6_ := Aside0.mk ((by rw [hg]; exact Nat.ne_of_lt (blk_lt (g := gb398) (o := .cells #[.int .i64 ((rd_T75 l0 t396).f0), .int .i64 ((rd_T75 l0 t396).f1), .int .i64 ((rd_T75 l0 t396).f2), .int .i64 ((rd_T75 l0 t396).f3), .int .i64 ((rd_T75 l0 t396).f4), .bool ((rd_T75 l0 t396).f5)] 75 (0, 0)) (by (with_reducible repeat (first | refine blk_drewN ?_ _ | refine blk_drew ?_ | refine blk_alloc ?_ _)); exact BK398.out)) : gb398 ≠ gb410))
                    have n7_ := Aside0.mk ((by rw [hg]; exact Nat.ne_of_gt (blk_lt (g := gb398) (o := .cells #[.int .i64 ((rd_T75 l0 t396).f0), .int .i64 ((rd_T75 l0 t396).f1), .int .i64 ((rd_T75 l0 t396).f2), .int .i64 ((rd_T75 l0 t396).f3), .int .i64 ((rd_T75 l0 t396).f4), .bool ((rd_T75 l0 t396).f5)] 75 (0, 0)) (by (with_reducible repeat (first | refine blk_drewN ?_ _ | refine blk_drew ?_ | refine blk_alloc ?_ _)); exact BK398.out)) : gb410 ≠ gb398))
                    clear HO_4
                    clear BK398
                    clear HB
                    have HO_4 := n0_
                    have BK398 := n1_
                    have HB := n2_
                    have BK410 := n3_
                    have GW410 := n4_
                    have GE410 := n5_
                    have NB398_410 := n6_
                    have NB410_398 := n7_
                    clear n0_ n1_ n2_ n3_ n4_ n5_ n6_ n7_
                    clear hb hbox hg
                    refine hK.out _ _ ⟨(blk_cell BK398.out 0).trans rfl, (blk_cell BK398.out 1).trans rfl, (blk_cell BK398.out 2).trans rfl, (blk_cell BK398.out 3).trans rfl, (blk_cell BK398.out 4).trans rfl, (blk_cell BK398.out 5).trans rfl, ((HB.out.cell (World.block_lt_of_cell? w _ hw404_0)).trans hw404_0), ((HB.out.cell (World.block_lt_of_cell? w _ hw404_1)).trans hw404_1), ((HB.out.cell (World.block_lt_of_cell? w _ hw404_2)).trans hw404_2), ((HB.out.cell (World.block_lt_of_cell? w _ hw404_3)).trans hw404_3), ((HB.out.cell (World.block_lt_of_cell? w _ hw404_4)).trans hw404_4), ((HB.out.cell (World.block_lt_of_cell? w _ hw404_5)).trans hw404_5)⟩ (fun hHeld => ?_)
                    clear hK K
                    refine norm_ (a' := ?_) ?_ ?_
                    rotate_left
                    ·show Act.put _ (some 7) _ = _
                     simp only [Act.put, List.setIfInBounds_toArray, List.set_cons_zero, List.set_cons_succ, i64_w, i32_w]
                     rfl
                    exact norm_ (by first | (simp only [putAll, Act.put, List.setIfInBounds_toArray, List.set_cons_zero, List.set_cons_succ]; done) | (simp only [putAll, Act.put, List.setIfInBounds_toArray, List.set_cons_zero, List.set_cons_succ]; rfl)) (hJ11 (gb410) _ ⟨hHeld, (by (with_reducible repeat (first | apply Kd.R_alloc | apply Kd.R_drewN | apply Kd.R_drew)); exact HO_4.out), (by (with_reducible repeat (first | refine blk_drewN ?_ _ | refine blk_drew ?_ | refine blk_alloc ?_ _)); exact BK398.out), (by (with_reducible repeat (first | refine blk_drewN ?_ _ | refine blk_drew ?_ | refine blk_alloc ?_ _)); exact BK410.out), GW410.out, GE410.out, NB398_410.out, NB410_398.out, (by repeat (first | (with_reducible first | exact HB.out | apply below_alloc | apply pw_below_drewN | apply below_drew1 | refine below_set ?_ GE398.out | refine below_set ?_ GE410.out) | exact HB.out))⟩)
                   ·skip
                    refine box_step ?hg (N := 8) ?hd (cs := #[.int .i64 0, .int .i64 0, .int .i64 0, .int .i64 0, .int .i64 0]) (t := 71) ?hr ?_; (case hd => rfl); (case hg => rfl); (case hr => first | (go_simp; done) | (go_simp; rfl))
                    intro gb411 hg w22 hbox hb
                    have n0_ := Aside0.mk (Kd.R_below (by (with_reducible repeat (first | apply Kd.R_alloc | apply Kd.R_drewN | apply Kd.R_drew)); exact HO_4.out) hb)
                    have n1_ := Aside0.mk (blk_below (g := gb398) (o := .cells #[.int .i64 ((rd_T75 l0 t396).f0), .int .i64 ((rd_T75 l0 t396).f1), .int .i64 ((rd_T75 l0 t396).f2), .int .i64 ((rd_T75 l0 t396).f3), .int .i64 ((rd_T75 l0 t396).f4), .bool ((rd_T75 l0 t396).f5)] 75 (0, 0)) (by (with_reducible repeat (first | refine blk_drewN ?_ _ | refine blk_drew ?_ | refine blk_alloc ?_ _)); exact BK398.out) hb)
                    have n2_ := Aside0.mk (below_step (by repeat (first | (with_reducible first | exact HB.out | apply below_alloc | apply pw_below_drewN | apply below_drew1 | refine below_set ?_ GE398.out) | exact HB.out)) hb)
                    have n3_ := Aside0.mk (hbox)
                    have n4_ := Aside0.mk ((by rw [hg]; exact (below_size (by repeat (first | (with_reducible first | exact HB.out | apply below_alloc | apply pw_below_drewN | apply below_drew1 | refine below_set ?_ GE398.out) | exact HB.out))) : w.heap.size ≤ gb411))
                    have n5_ := Aside0.mk ((by rw [hg]; exact (below_size (by repeat (first | (with_reducible first | exact HB.out | apply below_alloc | apply pw_below_drewN | apply below_drew1 | refine below_set ?_ GE398.out) | exact HB.out))) : w.heap.size ≤ gb411))
                    have n6_ := Aside0.mk ((by rw [hg]; exact Nat.ne_of_lt (blk_lt (g := gb398) (o := .cells #[.int .i64 ((rd_T75 l0 t396).f0), .int .i64 ((rd_T75 l0 t396).f1), .int .i64 ((rd_T75 l0 t396).f2), .int .i64 ((rd_T75 l0 t396).f3), .int .i64 ((rd_T75 l0 t396).f4), .bool ((rd_T75 l0 t396).f5)] 75 (0, 0)) (by (with_reducible repeat (first | refine blk_drewN ?_ _ | refine blk_drew ?_ | refine blk_alloc ?_ _)); exact BK398.out)) : gb398 ≠ gb411))
                    have n7_ := Aside0.mk ((by rw [hg]; exact Nat.ne_of_gt (blk_lt (g := gb398) (o := .cells #[.int .i64 ((rd_T75 l0 t396).f0), .int .i64 ((rd_T75 l0 t396).f1), .int .i64 ((rd_T75 l0 t396).f2), .int .i64 ((rd_T75 l0 t396).f3), .int .i64 ((rd_T75 l0 t396).f4), .bool ((rd_T75 l0 t396).f5)] 75 (0, 0)) (by (with_reducible repeat (first | refine blk_drewN ?_ _ | refine blk_drew ?_ | refine blk_alloc ?_ _)); exact BK398.out)) : gb411 ≠ gb398))
                    clear HO_4
                    clear BK398
                    clear HB
                    have HO_4 := n0_
                    have BK398 := n1_
                    have HB := n2_
                    have BK411 := n3_
                    have GW411 := n4_
                    have GE411 := n5_
                    have NB398_411 := n6_
                    have NB411_398 := n7_
                    clear n0_ n1_ n2_ n3_ n4_ n5_ n6_ n7_
                    clear hb hbox hg
                    refine hK.out _ _ ⟨(blk_cell BK398.out 0).trans rfl, (blk_cell BK398.out 1).trans rfl, (blk_cell BK398.out 2).trans rfl, (blk_cell BK398.out 3).trans rfl, (blk_cell BK398.out 4).trans rfl, (blk_cell BK398.out 5).trans rfl, ((HB.out.cell (World.block_lt_of_cell? w _ hw404_0)).trans hw404_0), ((HB.out.cell (World.block_lt_of_cell? w _ hw404_1)).trans hw404_1), ((HB.out.cell (World.block_lt_of_cell? w _ hw404_2)).trans hw404_2), ((HB.out.cell (World.block_lt_of_cell? w _ hw404_3)).trans hw404_3), ((HB.out.cell (World.block_lt_of_cell? w _ hw404_4)).trans hw404_4), ((HB.out.cell (World.block_lt_of_cell? w _ hw404_5)).trans hw404_5)⟩ (fun hHeld => ?_)
                    clear hK K
                    refine norm_ (a' := ?_) ?_ ?_
                    rotate_left
                    ·show Act.put _ (some 8) _ = _
                     simp only [Act.put, List.setIfInBounds_toArray, List.set_cons_zero, List.set_cons_succ, i64_w, i32_w]
                     rfl
                    exact norm_ (by first | (simp only [putAll, Act.put, List.setIfInBounds_toArray, List.set_cons_zero, List.set_cons_succ]; done) | (simp only [putAll, Act.put, List.setIfInBounds_toArray, List.set_cons_zero, List.set_cons_succ]; rfl)) (hJ12 (gb411) _ ⟨hHeld, (by (with_reducible repeat (first | apply Kd.R_alloc | apply Kd.R_drewN | apply Kd.R_drew)); exact HO_4.out), (by (with_reducible repeat (first | refine blk_drewN ?_ _ | refine blk_drew ?_ | refine blk_alloc ?_ _)); exact BK398.out), (by (with_reducible repeat (first | refine blk_drewN ?_ _ | refine blk_drew ?_ | refine blk_alloc ?_ _)); exact BK411.out), GW411.out, GE411.out, NB398_411.out, NB411_398.out, (by repeat (first | (with_reducible first | exact HB.out | apply below_alloc | apply pw_below_drewN | apply below_drew1 | refine below_set ?_ GE398.out | refine below_set ?_ GE411.out) | exact HB.out))⟩)
                  ·skip
                   rintro gb411 w23 ⟨hS_, h0_, h1_, h2_, h3_, h4_, h5_, h6_, h7_⟩
                   have n0_ : Aside0 (Kd.R (Kd.int .i64) 3 w23 w.heap.size (fun _ => True) u4 x4_1) := ⟨h0_⟩
                   have n1_ : Aside0 (w23.heap[gb398]? = some (.cells #[.int .i64 ((rd_T75 l0 t396).f0), .int .i64 ((rd_T75 l0 t396).f1), .int .i64 ((rd_T75 l0 t396).f2), .int .i64 ((rd_T75 l0 t396).f3), .int .i64 ((rd_T75 l0 t396).f4), .bool ((rd_T75 l0 t396).f5)] 75 (0, 0))) := ⟨h1_⟩
                   have n2_ : Aside0 (w23.heap[gb411]? = some (.cells #[.int .i64 0, .int .i64 0, .int .i64 0, .int .i64 0, .int .i64 0] 71 (0, 0))) := ⟨h2_⟩
                   have n3_ : Aside0 (w.heap.size ≤ gb411) := ⟨h3_⟩
                   have n4_ : Aside0 (w.heap.size ≤ gb411) := ⟨h4_⟩
                   have n5_ : Aside0 (gb398 ≠ gb411) := ⟨h5_⟩
                   have n6_ : Aside0 (gb411 ≠ gb398) := ⟨h6_⟩
                   have n7_ : Aside0 (Below w.heap.size w w23) := ⟨h7_⟩
                   clear HO_4
                   clear BK398
                   clear HB
                   clear h0_ h1_ h2_ h3_ h4_ h5_ h6_ h7_
                   have HO_4 := n0_
                   have BK398 := n1_
                   have BK411 := n2_
                   have GW411 := n3_
                   have GE411 := n4_
                   have NB398_411 := n5_
                   have NB411_398 := n6_
                   have HB := n7_
                   clear n0_ n1_ n2_ n3_ n4_ n5_ n6_ n7_
                   have hHeld : w23.cell? ⟨gb398, 0, none⟩ = some (.int .i64 ((rd_T75 l0 t396).f0)) ∧ w23.cell? ⟨gb398, 1, none⟩ = some (.int .i64 ((rd_T75 l0 t396).f1)) ∧ w23.cell? ⟨gb398, 2, none⟩ = some (.int .i64 ((rd_T75 l0 t396).f2)) ∧ w23.cell? ⟨gb398, 3, none⟩ = some (.int .i64 ((rd_T75 l0 t396).f3)) ∧ w23.cell? ⟨gb398, 4, none⟩ = some (.int .i64 ((rd_T75 l0 t396).f4)) ∧ w23.cell? ⟨gb398, 5, none⟩ = some (.bool ((rd_T75 l0 t396).f5)) ∧ w23.cell? (ad397.add ((x5_1).toNat * 6)) = some (.int .i64 ((rd_T75 l0 x5_1).f0)) ∧ w23.cell? ⟨(ad397.add ((x5_1).toNat * 6)).block, (ad397.add ((x5_1).toNat * 6)).off + 1, none⟩ = some (.int .i64 ((rd_T75 l0 x5_1).f1)) ∧ w23.cell? ⟨(ad397.add ((x5_1).toNat * 6)).block, (ad397.add ((x5_1).toNat * 6)).off + 2, none⟩ = some (.int .i64 ((rd_T75 l0 x5_1).f2)) ∧ w23.cell? ⟨(ad397.add ((x5_1).toNat * 6)).block, (ad397.add ((x5_1).toNat * 6)).off + 3, none⟩ = some (.int .i64 ((rd_T75 l0 x5_1).f3)) ∧ w23.cell? ⟨(ad397.add ((x5_1).toNat * 6)).block, (ad397.add ((x5_1).toNat * 6)).off + 4, none⟩ = some (.int .i64 ((rd_T75 l0 x5_1).f4)) ∧ w23.cell? ⟨(ad397.add ((x5_1).toNat * 6)).block, (ad397.add ((x5_1).toNat * 6)).off + 5, none⟩ = some (.bool ((rd_T75 l0 x5_1).f5)) := hS_
                   refine norm_ (a' := ?_) ?_ ?_
                   rotate_left
                   ·simp only [putAll, Act.put, List.setIfInBounds_toArray, List.set_cons_zero, List.set_cons_succ]
                    rfl
                   refine two_ (i := 3) (j := 11) (Ni := some 30) (Nj := some 7) #[true, true, true, true, true, true, true, true, true, true, false, false, true, false, false] #[true, true, true, false, true, true, true, true, true, true, false, true, true, false, false] rfl rfl rfl rfl (two_of HT_.out (by kernel_rfl)) (by decide) (by decide) (fun K hK => ?_) (fun K hK => ?_)
                   ·skip
                    refine goes_ Try.func81 (by kernel_rfl) rfl #[.agg #[.int .i64 ((rd_T75 l0 t396).f0), .int .i64 ((rd_T75 l0 t396).f1), .int .i64 ((rd_T75 l0 t396).f2), .int .i64 ((rd_T75 l0 t396).f3), .int .i64 ((rd_T75 l0 t396).f4), .bool ((rd_T75 l0 t396).f5)], .int .i64 ((rd_T75 l0 t396).f0)] (by rfl) rfl rfl (by (try simp only [List.map_toArray, List.map_cons, List.map_nil]); first | done | rfl | (simp only [List.length_drop, List.length_take]; rfl)) ?_
                    with_reducible refine (spec_l7Turned.calls ((rd_T75 l0 t396).f0) ((rd_T75 l0 t396).f1) ((rd_T75 l0 t396).f2) ((rd_T75 l0 t396).f3) ((rd_T75 l0 t396).f4) ((rd_T75 l0 t396).f5) ((rd_T75 l0 t396).f0) t399 t400 t401 t402 t403 _ A11.out).mono ?_
                    rintro e w24 ⟨rfl, hb⟩
                    refine ⟨_, rfl, ?_⟩
                    have n0_ := Aside0.mk (Kd.R_below (by (with_reducible repeat (first | apply Kd.R_alloc | apply Kd.R_drewN | apply Kd.R_drew)); exact HO_4.out) hb)
                    have n1_ := Aside0.mk (blk_below (g := gb398) (o := .cells #[.int .i64 ((rd_T75 l0 t396).f0), .int .i64 ((rd_T75 l0 t396).f1), .int .i64 ((rd_T75 l0 t396).f2), .int .i64 ((rd_T75 l0 t396).f3), .int .i64 ((rd_T75 l0 t396).f4), .bool ((rd_T75 l0 t396).f5)] 75 (0, 0)) (by (with_reducible repeat (first | refine blk_drewN ?_ _ | refine blk_drew ?_ | refine blk_alloc ?_ _)); exact BK398.out) hb)
                    have n2_ := Aside0.mk (blk_below (g := gb411) (o := .cells #[.int .i64 0, .int .i64 0, .int .i64 0, .int .i64 0, .int .i64 0] 71 (0, 0)) (by (with_reducible repeat (first | refine blk_drewN ?_ _ | refine blk_drew ?_ | refine blk_alloc ?_ _)); exact BK411.out) hb)
                    have n3_ := Aside0.mk (below_step (by repeat (first | (with_reducible first | exact HB.out | apply below_alloc | apply pw_below_drewN | apply below_drew1 | refine below_set ?_ GE398.out | refine below_set ?_ GE411.out) | exact HB.out)) hb)
                    clear HO_4
                    clear BK398
                    clear BK411
                    clear HB
                    have HO_4 := n0_
                    have BK398 := n1_
                    have BK411 := n2_
                    have HB := n3_
                    clear n0_ n1_ n2_ n3_
                    (try clear hb)
                    (try clear hb2)
                    (try clear hk)
                    (try clear hi)
                    refine hK.out _ _ ⟨(blk_cell BK398.out 0).trans rfl, (blk_cell BK398.out 1).trans rfl, (blk_cell BK398.out 2).trans rfl, (blk_cell BK398.out 3).trans rfl, (blk_cell BK398.out 4).trans rfl, (blk_cell BK398.out 5).trans rfl, ((HB.out.cell (World.block_lt_of_cell? w _ hw404_0)).trans hw404_0), ((HB.out.cell (World.block_lt_of_cell? w _ hw404_1)).trans hw404_1), ((HB.out.cell (World.block_lt_of_cell? w _ hw404_2)).trans hw404_2), ((HB.out.cell (World.block_lt_of_cell? w _ hw404_3)).trans hw404_3), ((HB.out.cell (World.block_lt_of_cell? w _ hw404_4)).trans hw404_4), ((HB.out.cell (World.block_lt_of_cell? w _ hw404_5)).trans hw404_5)⟩ (fun hHeld => ?_)
                    clear hK K
                    refine norm_ (a' := ?_) ?_ ?_
                    rotate_left
                    ·show Act.put _ (some 30) _ = _
                     simp only [Act.put, List.setIfInBounds_toArray, List.set_cons_zero, List.set_cons_succ, i64_w, i32_w]
                     rfl
                    exact norm_ (by first | (simp only [putAll, Act.put, List.setIfInBounds_toArray, List.set_cons_zero, List.set_cons_succ]; done) | (simp only [putAll, Act.put, List.setIfInBounds_toArray, List.set_cons_zero, List.set_cons_succ]; rfl)) (hJ3_12 (gb411) _ ⟨hHeld, (by (with_reducible repeat (first | apply Kd.R_alloc | apply Kd.R_drewN | apply Kd.R_drew)); exact HO_4.out), (by (with_reducible repeat (first | refine blk_drewN ?_ _ | refine blk_drew ?_ | refine blk_alloc ?_ _)); exact BK398.out), (by (with_reducible repeat (first | refine blk_drewN ?_ _ | refine blk_drew ?_ | refine blk_alloc ?_ _)); exact BK411.out), GW411.out, GE411.out, NB398_411.out, NB411_398.out, (by repeat (first | (with_reducible first | exact HB.out | apply below_alloc | apply pw_below_drewN | apply below_drew1 | refine below_set ?_ GE398.out | refine below_set ?_ GE411.out) | exact HB.out))⟩)
                   ·skip
                    refine box_step ?hg (N := 7) ?hd (cs := #[.int .i64 0, .int .i64 0, .int .i64 0, .int .i64 0, .int .i64 0]) (t := 71) ?hr ?_; (case hd => rfl); (case hg => rfl); (case hr => first | (go_simp; done) | (go_simp; rfl))
                    intro gb410 hg w24 hbox hb
                    have n0_ := Aside0.mk (Kd.R_below (by (with_reducible repeat (first | apply Kd.R_alloc | apply Kd.R_drewN | apply Kd.R_drew)); exact HO_4.out) hb)
                    have n1_ := Aside0.mk (blk_below (g := gb398) (o := .cells #[.int .i64 ((rd_T75 l0 t396).f0), .int .i64 ((rd_T75 l0 t396).f1), .int .i64 ((rd_T75 l0 t396).f2), .int .i64 ((rd_T75 l0 t396).f3), .int .i64 ((rd_T75 l0 t396).f4), .bool ((rd_T75 l0 t396).f5)] 75 (0, 0)) (by (with_reducible repeat (first | refine blk_drewN ?_ _ | refine blk_drew ?_ | refine blk_alloc ?_ _)); exact BK398.out) hb)
                    have n2_ := Aside0.mk (blk_below (g := gb411) (o := .cells #[.int .i64 0, .int .i64 0, .int .i64 0, .int .i64 0, .int .i64 0] 71 (0, 0)) (by (with_reducible repeat (first | refine blk_drewN ?_ _ | refine blk_drew ?_ | refine blk_alloc ?_ _)); exact BK411.out) hb)
                    have n3_ := Aside0.mk (below_step (by repeat (first | (with_reducible first | exact HB.out | apply below_alloc | apply pw_below_drewN | apply below_drew1 | refine below_set ?_ GE398.out | refine below_set ?_ GE411.out) | exact HB.out)) hb)
                    have n4_ := Aside0.mk (hbox)
                    have n5_ := Aside0.mk ((by rw [hg]; exact (below_size (by repeat (first | (with_reducible first | exact HB.out | apply below_alloc | apply pw_below_drewN | apply below_drew1 | refine below_set ?_ GE398.out | refine below_set ?_ GE411.out) | exact HB.out))) : w.heap.size ≤ gb410))
                    have n6_ := Aside0.mk ((by rw [hg]; exact (below_size (by repeat (first | (with_reducible first | exact HB.out | apply below_alloc | apply pw_below_drewN | apply below_drew1 | refine below_set ?_ GE398.out | refine below_set ?_ GE411.out) | exact HB.out))) : w.heap.size ≤ gb410))
                    have n7_ := Aside0.mk ((by rw [hg]; exact Nat.ne_of_lt (blk_lt (g := gb398) (o := .cells #[.int .i64 ((rd_T75 l0 t396).f0), .int .i64 ((rd_T75 l0 t396).f1), .int .i64 ((rd_T75 l0 t396).f2), .int .i64 ((rd_T75 l0 t396).f3), .int .i64 ((rd_T75 l0 t396).f4), .bool ((rd_T75 l0 t396).f5)] 75 (0, 0)) (by (with_reducible repeat (first | refine blk_drewN ?_ _ | refine blk_drew ?_ | refine blk_alloc ?_ _)); exact BK398.out)) : gb398 ≠ gb410))
                    have n8_ := Aside0.mk ((by rw [hg]; exact Nat.ne_of_gt (blk_lt (g := gb398) (o := .cells #[.int .i64 ((rd_T75 l0 t396).f0), .int .i64 ((rd_T75 l0 t396).f1), .int .i64 ((rd_T75 l0 t396).f2), .int .i64 ((rd_T75 l0 t396).f3), .int .i64 ((rd_T75 l0 t396).f4), .bool ((rd_T75 l0 t396).f5)] 75 (0, 0)) (by (with_reducible repeat (first | refine blk_drewN ?_ _ | refine blk_drew ?_ | refine blk_alloc ?_ _)); exact BK398.out)) : gb410 ≠ gb398))
                    have n9_ := Aside0.mk ((by rw [hg]; exact Nat.ne_of_lt (blk_lt (g := gb411) (o := .cells #[.int .i64 0, .int .i64 0, .int .i64 0, .int .i64 0, .int .i64 0] 71 (0, 0)) (by (with_reducible repeat (first | refine blk_drewN ?_ _ | refine blk_drew ?_ | refine blk_alloc ?_ _)); exact BK411.out)) : gb411 ≠ gb410))
                    have n10_ := Aside0.mk ((by rw [hg]; exact Nat.ne_of_gt (blk_lt (g := gb411) (o := .cells #[.int .i64 0, .int .i64 0, .int .i64 0, .int .i64 0, .int .i64 0] 71 (0, 0)) (by (with_reducible repeat (first | refine blk_drewN ?_ _ | refine blk_drew ?_ | refine blk_alloc ?_ _)); exact BK411.out)) : gb410 ≠ gb411))
                    clear HO_4
                    clear BK398
                    clear BK411
                    clear HB
                    have HO_4 := n0_
                    have BK398 := n1_
                    have BK411 := n2_
                    have HB := n3_
                    have BK410 := n4_
                    have GW410 := n5_
                    have GE410 := n6_
                    have NB398_410 := n7_
                    have NB410_398 := n8_
                    have NB411_410 := n9_
                    have NB410_411 := n10_
                    clear n0_ n1_ n2_ n3_ n4_ n5_ n6_ n7_ n8_ n9_ n10_
                    clear hb hbox hg
                    refine hK.out _ _ ⟨(blk_cell BK398.out 0).trans rfl, (blk_cell BK398.out 1).trans rfl, (blk_cell BK398.out 2).trans rfl, (blk_cell BK398.out 3).trans rfl, (blk_cell BK398.out 4).trans rfl, (blk_cell BK398.out 5).trans rfl, ((HB.out.cell (World.block_lt_of_cell? w _ hw404_0)).trans hw404_0), ((HB.out.cell (World.block_lt_of_cell? w _ hw404_1)).trans hw404_1), ((HB.out.cell (World.block_lt_of_cell? w _ hw404_2)).trans hw404_2), ((HB.out.cell (World.block_lt_of_cell? w _ hw404_3)).trans hw404_3), ((HB.out.cell (World.block_lt_of_cell? w _ hw404_4)).trans hw404_4), ((HB.out.cell (World.block_lt_of_cell? w _ hw404_5)).trans hw404_5)⟩ (fun hHeld => ?_)
                    clear hK K
                    refine norm_ (a' := ?_) ?_ ?_
                    rotate_left
                    ·show Act.put _ (some 7) _ = _
                     simp only [Act.put, List.setIfInBounds_toArray, List.set_cons_zero, List.set_cons_succ, i64_w, i32_w]
                     rfl
                    exact norm_ (by first | (simp only [putAll, Act.put, List.setIfInBounds_toArray, List.set_cons_zero, List.set_cons_succ]; done) | (simp only [putAll, Act.put, List.setIfInBounds_toArray, List.set_cons_zero, List.set_cons_succ]; rfl)) (hJ11_12 (gb410, gb411) _ ⟨hHeld, (by (with_reducible repeat (first | apply Kd.R_alloc | apply Kd.R_drewN | apply Kd.R_drew)); exact HO_4.out), (by (with_reducible repeat (first | refine blk_drewN ?_ _ | refine blk_drew ?_ | refine blk_alloc ?_ _)); exact BK398.out), (by (with_reducible repeat (first | refine blk_drewN ?_ _ | refine blk_drew ?_ | refine blk_alloc ?_ _)); exact BK410.out), (by (with_reducible repeat (first | refine blk_drewN ?_ _ | refine blk_drew ?_ | refine blk_alloc ?_ _)); exact BK411.out), GW410.out, GE410.out, NB398_410.out, NB410_398.out, NB411_410.out, NB410_411.out, GW411.out, GE411.out, NB398_411.out, NB411_398.out, (by repeat (first | (with_reducible first | exact HB.out | apply below_alloc | apply pw_below_drewN | apply below_drew1 | refine below_set ?_ GE398.out | refine below_set ?_ GE411.out | refine below_set ?_ GE410.out) | exact HB.out))⟩)
                 ·skip
                  rintro gb410 w23 ⟨hS_, h0_, h1_, h2_, h3_, h4_, h5_, h6_, h7_⟩
                  have n0_ : Aside0 (Kd.R (Kd.int .i64) 3 w23 w.heap.size (fun _ => True) u4 x4_1) := ⟨h0_⟩
                  have n1_ : Aside0 (w23.heap[gb398]? = some (.cells #[.int .i64 ((rd_T75 l0 t396).f0), .int .i64 ((rd_T75 l0 t396).f1), .int .i64 ((rd_T75 l0 t396).f2), .int .i64 ((rd_T75 l0 t396).f3), .int .i64 ((rd_T75 l0 t396).f4), .bool ((rd_T75 l0 t396).f5)] 75 (0, 0))) := ⟨h1_⟩
                  have n2_ : Aside0 (w23.heap[gb410]? = some (.cells #[.int .i64 0, .int .i64 0, .int .i64 0, .int .i64 0, .int .i64 0] 71 (0, 0))) := ⟨h2_⟩
                  have n3_ : Aside0 (w.heap.size ≤ gb410) := ⟨h3_⟩
                  have n4_ : Aside0 (w.heap.size ≤ gb410) := ⟨h4_⟩
                  have n5_ : Aside0 (gb398 ≠ gb410) := ⟨h5_⟩
                  have n6_ : Aside0 (gb410 ≠ gb398) := ⟨h6_⟩
                  have n7_ : Aside0 (Below w.heap.size w w23) := ⟨h7_⟩
                  clear HO_4
                  clear BK398
                  clear HB
                  clear h0_ h1_ h2_ h3_ h4_ h5_ h6_ h7_
                  have HO_4 := n0_
                  have BK398 := n1_
                  have BK410 := n2_
                  have GW410 := n3_
                  have GE410 := n4_
                  have NB398_410 := n5_
                  have NB410_398 := n6_
                  have HB := n7_
                  clear n0_ n1_ n2_ n3_ n4_ n5_ n6_ n7_
                  have hHeld : w23.cell? ⟨gb398, 0, none⟩ = some (.int .i64 ((rd_T75 l0 t396).f0)) ∧ w23.cell? ⟨gb398, 1, none⟩ = some (.int .i64 ((rd_T75 l0 t396).f1)) ∧ w23.cell? ⟨gb398, 2, none⟩ = some (.int .i64 ((rd_T75 l0 t396).f2)) ∧ w23.cell? ⟨gb398, 3, none⟩ = some (.int .i64 ((rd_T75 l0 t396).f3)) ∧ w23.cell? ⟨gb398, 4, none⟩ = some (.int .i64 ((rd_T75 l0 t396).f4)) ∧ w23.cell? ⟨gb398, 5, none⟩ = some (.bool ((rd_T75 l0 t396).f5)) ∧ w23.cell? (ad397.add ((x5_1).toNat * 6)) = some (.int .i64 ((rd_T75 l0 x5_1).f0)) ∧ w23.cell? ⟨(ad397.add ((x5_1).toNat * 6)).block, (ad397.add ((x5_1).toNat * 6)).off + 1, none⟩ = some (.int .i64 ((rd_T75 l0 x5_1).f1)) ∧ w23.cell? ⟨(ad397.add ((x5_1).toNat * 6)).block, (ad397.add ((x5_1).toNat * 6)).off + 2, none⟩ = some (.int .i64 ((rd_T75 l0 x5_1).f2)) ∧ w23.cell? ⟨(ad397.add ((x5_1).toNat * 6)).block, (ad397.add ((x5_1).toNat * 6)).off + 3, none⟩ = some (.int .i64 ((rd_T75 l0 x5_1).f3)) ∧ w23.cell? ⟨(ad397.add ((x5_1).toNat * 6)).block, (ad397.add ((x5_1).toNat * 6)).off + 4, none⟩ = some (.int .i64 ((rd_T75 l0 x5_1).f4)) ∧ w23.cell? ⟨(ad397.add ((x5_1).toNat * 6)).block, (ad397.add ((x5_1).toNat * 6)).off + 5, none⟩ = some (.bool ((rd_T75 l0 x5_1).f5)) := hS_
                  refine norm_ (a' := ?_) ?_ ?_
                  rotate_left
                  ·simp only [putAll, Act.put, List.setIfInBounds_toArray, List.set_cons_zero, List.set_cons_succ]
                   rfl
                  refine two_ (i := 3) (j := 12) (Ni := some 30) (Nj := some 8) #[true, true, true, true, true, true, true, true, true, true, false, true, false, false, false] #[true, true, true, false, true, true, true, true, true, true, false, true, true, false, false] rfl rfl rfl rfl (two_of HT_.out (by kernel_rfl)) (by decide) (by decide) (fun K hK => ?_) (fun K hK => ?_)
                  ·skip
                   refine goes_ Try.func81 (by kernel_rfl) rfl #[.agg #[.int .i64 ((rd_T75 l0 t396).f0), .int .i64 ((rd_T75 l0 t396).f1), .int .i64 ((rd_T75 l0 t396).f2), .int .i64 ((rd_T75 l0 t396).f3), .int .i64 ((rd_T75 l0 t396).f4), .bool ((rd_T75 l0 t396).f5)], .int .i64 ((rd_T75 l0 t396).f0)] (by rfl) rfl rfl (by (try simp only [List.map_toArray, List.map_cons, List.map_nil]); first | done | rfl | (simp only [List.length_drop, List.length_take]; rfl)) ?_
                   with_reducible refine (spec_l7Turned.calls ((rd_T75 l0 t396).f0) ((rd_T75 l0 t396).f1) ((rd_T75 l0 t396).f2) ((rd_T75 l0 t396).f3) ((rd_T75 l0 t396).f4) ((rd_T75 l0 t396).f5) ((rd_T75 l0 t396).f0) t399 t400 t401 t402 t403 _ A11.out).mono ?_
                   rintro e w24 ⟨rfl, hb⟩
                   refine ⟨_, rfl, ?_⟩
                   have n0_ := Aside0.mk (Kd.R_below (by (with_reducible repeat (first | apply Kd.R_alloc | apply Kd.R_drewN | apply Kd.R_drew)); exact HO_4.out) hb)
                   have n1_ := Aside0.mk (blk_below (g := gb398) (o := .cells #[.int .i64 ((rd_T75 l0 t396).f0), .int .i64 ((rd_T75 l0 t396).f1), .int .i64 ((rd_T75 l0 t396).f2), .int .i64 ((rd_T75 l0 t396).f3), .int .i64 ((rd_T75 l0 t396).f4), .bool ((rd_T75 l0 t396).f5)] 75 (0, 0)) (by (with_reducible repeat (first | refine blk_drewN ?_ _ | refine blk_drew ?_ | refine blk_alloc ?_ _)); exact BK398.out) hb)
                   have n2_ := Aside0.mk (blk_below (g := gb410) (o := .cells #[.int .i64 0, .int .i64 0, .int .i64 0, .int .i64 0, .int .i64 0] 71 (0, 0)) (by (with_reducible repeat (first | refine blk_drewN ?_ _ | refine blk_drew ?_ | refine blk_alloc ?_ _)); exact BK410.out) hb)
                   have n3_ := Aside0.mk (below_step (by repeat (first | (with_reducible first | exact HB.out | apply below_alloc | apply pw_below_drewN | apply below_drew1 | refine below_set ?_ GE398.out | refine below_set ?_ GE410.out) | exact HB.out)) hb)
                   clear HO_4
                   clear BK398
                   clear BK410
                   clear HB
                   have HO_4 := n0_
                   have BK398 := n1_
                   have BK410 := n2_
                   have HB := n3_
                   clear n0_ n1_ n2_ n3_
                   (try clear hb)
                   (try clear hb2)
                   (try clear hk)
                   (try clear hi)
                   refine hK.out _ _ ⟨(blk_cell BK398.out 0).trans rfl, (blk_cell BK398.out 1).trans rfl, (blk_cell BK398.out 2).trans rfl, (blk_cell BK398.out 3).trans rfl, (blk_cell BK398.out 4).trans rfl, (blk_cell BK398.out 5).trans rfl, ((HB.out.cell (World.block_lt_of_cell? w _ hw404_0)).trans hw404_0), ((HB.out.cell (World.block_lt_of_cell? w _ hw404_1)).trans hw404_1), ((HB.out.cell (World.block_lt_of_cell? w _ hw404_2)).trans hw404_2), ((HB.out.cell (World.block_lt_of_cell? w _ hw404_3)).trans hw404_3), ((HB.out.cell (World.block_lt_of_cell? w _ hw404_4)).trans hw404_4), ((HB.out.cell (World.block_lt_of_cell? w _ hw404_5)).trans hw404_5)⟩ (fun hHeld => ?_)
                   clear hK K
                   refine norm_ (a' := ?_) ?_ ?_
                   rotate_left
                   ·show Act.put _ (some 30) _ = _
                    simp only [Act.put, List.setIfInBounds_toArray, List.set_cons_zero, List.set_cons_succ, i64_w, i32_w]
                    rfl
                   exact norm_ (by first | (simp only [putAll, Act.put, List.setIfInBounds_toArray, List.set_cons_zero, List.set_cons_succ]; done) | (simp only [putAll, Act.put, List.setIfInBounds_toArray, List.set_cons_zero, List.set_cons_succ]; rfl)) (hJ3_11 (gb410) _ ⟨hHeld, (by (with_reducible repeat (first | apply Kd.R_alloc | apply Kd.R_drewN | apply Kd.R_drew)); exact HO_4.out), (by (with_reducible repeat (first | refine blk_drewN ?_ _ | refine blk_drew ?_ | refine blk_alloc ?_ _)); exact BK398.out), (by (with_reducible repeat (first | refine blk_drewN ?_ _ | refine blk_drew ?_ | refine blk_alloc ?_ _)); exact BK410.out), GW410.out, GE410.out, NB398_410.out, NB410_398.out, (by repeat (first | (with_reducible first | exact HB.out | apply below_alloc | apply pw_below_drewN | apply below_drew1 | refine below_set ?_ GE398.out | refine below_set ?_ GE410.out) | exact HB.out))⟩)
                  ·skip
                   refine box_step ?hg (N := 8) ?hd (cs := #[.int .i64 0, .int .i64 0, .int .i64 0, .int .i64 0, .int .i64 0]) (t := 71) ?hr ?_; (case hd => rfl); (case hg => rfl); (case hr => first | (go_simp; done) | (go_simp; rfl))
                   intro gb411 hg w24 hbox hb
                   have n0_ := Aside0.mk (Kd.R_below (by (with_reducible repeat (first | apply Kd.R_alloc | apply Kd.R_drewN | apply Kd.R_drew)); exact HO_4.out) hb)
                   have n1_ := Aside0.mk (blk_below (g := gb398) (o := .cells #[.int .i64 ((rd_T75 l0 t396).f0), .int .i64 ((rd_T75 l0 t396).f1), .int .i64 ((rd_T75 l0 t396).f2), .int .i64 ((rd_T75 l0 t396).f3), .int .i64 ((rd_T75 l0 t396).f4), .bool ((rd_T75 l0 t396).f5)] 75 (0, 0)) (by (with_reducible repeat (first | refine blk_drewN ?_ _ | refine blk_drew ?_ | refine blk_alloc ?_ _)); exact BK398.out) hb)
                   have n2_ := Aside0.mk (blk_below (g := gb410) (o := .cells #[.int .i64 0, .int .i64 0, .int .i64 0, .int .i64 0, .int .i64 0] 71 (0, 0)) (by (with_reducible repeat (first | refine blk_drewN ?_ _ | refine blk_drew ?_ | refine blk_alloc ?_ _)); exact BK410.out) hb)
                   have n3_ := Aside0.mk (below_step (by repeat (first | (with_reducible first | exact HB.out | apply below_alloc | apply pw_below_drewN | apply below_drew1 | refine below_set ?_ GE398.out | refine below_set ?_ GE410.out) | exact HB.out)) hb)
                   have n4_ := Aside0.mk (hbox)
                   have n5_ := Aside0.mk ((by rw [hg]; exact (below_size (by repeat (first | (with_reducible first | exact HB.out | apply below_alloc | apply pw_below_drewN | apply below_drew1 | refine below_set ?_ GE398.out | refine below_set ?_ GE410.out) | exact HB.out))) : w.heap.size ≤ gb411))
                   have n6_ := Aside0.mk ((by rw [hg]; exact (below_size (by repeat (first | (with_reducible first | exact HB.out | apply below_alloc | apply pw_below_drewN | apply below_drew1 | refine below_set ?_ GE398.out | refine below_set ?_ GE410.out) | exact HB.out))) : w.heap.size ≤ gb411))
                   have n7_ := Aside0.mk ((by rw [hg]; exact Nat.ne_of_lt (blk_lt (g := gb398) (o := .cells #[.int .i64 ((rd_T75 l0 t396).f0), .int .i64 ((rd_T75 l0 t396).f1), .int .i64 ((rd_T75 l0 t396).f2), .int .i64 ((rd_T75 l0 t396).f3), .int .i64 ((rd_T75 l0 t396).f4), .bool ((rd_T75 l0 t396).f5)] 75 (0, 0)) (by (with_reducible repeat (first | refine blk_drewN ?_ _ | refine blk_drew ?_ | refine blk_alloc ?_ _)); exact BK398.out)) : gb398 ≠ gb411))
                   have n8_ := Aside0.mk ((by rw [hg]; exact Nat.ne_of_gt (blk_lt (g := gb398) (o := .cells #[.int .i64 ((rd_T75 l0 t396).f0), .int .i64 ((rd_T75 l0 t396).f1), .int .i64 ((rd_T75 l0 t396).f2), .int .i64 ((rd_T75 l0 t396).f3), .int .i64 ((rd_T75 l0 t396).f4), .bool ((rd_T75 l0 t396).f5)] 75 (0, 0)) (by (with_reducible repeat (first | refine blk_drewN ?_ _ | refine blk_drew ?_ | refine blk_alloc ?_ _)); exact BK398.out)) : gb411 ≠ gb398))
                   have n9_ := Aside0.mk ((by rw [hg]; exact Nat.ne_of_lt (blk_lt (g := gb410) (o := .cells #[.int .i64 0, .int .i64 0, .int .i64 0, .int .i64 0, .int .i64 0] 71 (0, 0)) (by (with_reducible repeat (first | refine blk_drewN ?_ _ | refine blk_drew ?_ | refine blk_alloc ?_ _)); exact BK410.out)) : gb410 ≠ gb411))
                   have n10_ := Aside0.mk ((by rw [hg]; exact Nat.ne_of_gt (blk_lt (g := gb410) (o := .cells #[.int .i64 0, .int .i64 0, .int .i64 0, .int .i64 0, .int .i64 0] 71 (0, 0)) (by (with_reducible repeat (first | refine blk_drewN ?_ _ | refine blk_drew ?_ | refine blk_alloc ?_ _)); exact BK410.out)) : gb411 ≠ gb410))
                   clear HO_4
                   clear BK398
                   clear BK410
                   clear HB
                   have HO_4 := n0_
                   have BK398 := n1_
                   have BK410 := n2_
                   have HB := n3_
                   have BK411 := n4_
                   have GW411 := n5_
                   have GE411 := n6_
                   have NB398_411 := n7_
                   have NB411_398 := n8_
                   have NB410_411 := n9_
                   have NB411_410 := n10_
                   clear n0_ n1_ n2_ n3_ n4_ n5_ n6_ n7_ n8_ n9_ n10_
                   clear hb hbox hg
                   refine hK.out _ _ ⟨(blk_cell BK398.out 0).trans rfl, (blk_cell BK398.out 1).trans rfl, (blk_cell BK398.out 2).trans rfl, (blk_cell BK398.out 3).trans rfl, (blk_cell BK398.out 4).trans rfl, (blk_cell BK398.out 5).trans rfl, ((HB.out.cell (World.block_lt_of_cell? w _ hw404_0)).trans hw404_0), ((HB.out.cell (World.block_lt_of_cell? w _ hw404_1)).trans hw404_1), ((HB.out.cell (World.block_lt_of_cell? w _ hw404_2)).trans hw404_2), ((HB.out.cell (World.block_lt_of_cell? w _ hw404_3)).trans hw404_3), ((HB.out.cell (World.block_lt_of_cell? w _ hw404_4)).trans hw404_4), ((HB.out.cell (World.block_lt_of_cell? w _ hw404_5)).trans hw404_5)⟩ (fun hHeld => ?_)
                   clear hK K
                   refine norm_ (a' := ?_) ?_ ?_
                   rotate_left
                   ·show Act.put _ (some 8) _ = _
                    simp only [Act.put, List.setIfInBounds_toArray, List.set_cons_zero, List.set_cons_succ, i64_w, i32_w]
                    rfl
                   exact norm_ (by first | (simp only [putAll, Act.put, List.setIfInBounds_toArray, List.set_cons_zero, List.set_cons_succ]; done) | (simp only [putAll, Act.put, List.setIfInBounds_toArray, List.set_cons_zero, List.set_cons_succ]; rfl)) (hJ11_12 (gb410, gb411) _ ⟨hHeld, (by (with_reducible repeat (first | apply Kd.R_alloc | apply Kd.R_drewN | apply Kd.R_drew)); exact HO_4.out), (by (with_reducible repeat (first | refine blk_drewN ?_ _ | refine blk_drew ?_ | refine blk_alloc ?_ _)); exact BK398.out), (by (with_reducible repeat (first | refine blk_drewN ?_ _ | refine blk_drew ?_ | refine blk_alloc ?_ _)); exact BK410.out), (by (with_reducible repeat (first | refine blk_drewN ?_ _ | refine blk_drew ?_ | refine blk_alloc ?_ _)); exact BK411.out), GW410.out, GE410.out, NB398_410.out, NB410_398.out, NB411_410.out, NB410_411.out, GW411.out, GE411.out, NB398_411.out, NB411_398.out, (by repeat (first | (with_reducible first | exact HB.out | apply below_alloc | apply pw_below_drewN | apply below_drew1 | refine below_set ?_ GE398.out | refine below_set ?_ GE410.out | refine below_set ?_ GE411.out) | exact HB.out))⟩)
                ·skip
                 rintro _ w23 ⟨hS_, h0_, h1_, h2_⟩
                 have n0_ : Aside0 (Kd.R (Kd.int .i64) 3 w23 w.heap.size (fun _ => True) u4 x4_1) := ⟨h0_⟩
                 have n1_ : Aside0 (w23.heap[gb398]? = some (.cells #[.int .i64 ((rd_T75 l0 t396).f0), .int .i64 ((rd_T75 l0 t396).f1), .int .i64 ((rd_T75 l0 t396).f2), .int .i64 ((rd_T75 l0 t396).f3), .int .i64 ((rd_T75 l0 t396).f4), .bool ((rd_T75 l0 t396).f5)] 75 (0, 0))) := ⟨h1_⟩
                 have n2_ : Aside0 (Below w.heap.size w w23) := ⟨h2_⟩
                 clear HO_4
                 clear BK398
                 clear HB
                 clear h0_ h1_ h2_
                 have HO_4 := n0_
                 have BK398 := n1_
                 have HB := n2_
                 clear n0_ n1_ n2_
                 have hHeld : w23.cell? ⟨gb398, 0, none⟩ = some (.int .i64 ((rd_T75 l0 t396).f0)) ∧ w23.cell? ⟨gb398, 1, none⟩ = some (.int .i64 ((rd_T75 l0 t396).f1)) ∧ w23.cell? ⟨gb398, 2, none⟩ = some (.int .i64 ((rd_T75 l0 t396).f2)) ∧ w23.cell? ⟨gb398, 3, none⟩ = some (.int .i64 ((rd_T75 l0 t396).f3)) ∧ w23.cell? ⟨gb398, 4, none⟩ = some (.int .i64 ((rd_T75 l0 t396).f4)) ∧ w23.cell? ⟨gb398, 5, none⟩ = some (.bool ((rd_T75 l0 t396).f5)) ∧ w23.cell? (ad397.add ((x5_1).toNat * 6)) = some (.int .i64 ((rd_T75 l0 x5_1).f0)) ∧ w23.cell? ⟨(ad397.add ((x5_1).toNat * 6)).block, (ad397.add ((x5_1).toNat * 6)).off + 1, none⟩ = some (.int .i64 ((rd_T75 l0 x5_1).f1)) ∧ w23.cell? ⟨(ad397.add ((x5_1).toNat * 6)).block, (ad397.add ((x5_1).toNat * 6)).off + 2, none⟩ = some (.int .i64 ((rd_T75 l0 x5_1).f2)) ∧ w23.cell? ⟨(ad397.add ((x5_1).toNat * 6)).block, (ad397.add ((x5_1).toNat * 6)).off + 3, none⟩ = some (.int .i64 ((rd_T75 l0 x5_1).f3)) ∧ w23.cell? ⟨(ad397.add ((x5_1).toNat * 6)).block, (ad397.add ((x5_1).toNat * 6)).off + 4, none⟩ = some (.int .i64 ((rd_T75 l0 x5_1).f4)) ∧ w23.cell? ⟨(ad397.add ((x5_1).toNat * 6)).block, (ad397.add ((x5_1).toNat * 6)).off + 5, none⟩ = some (.bool ((rd_T75 l0 x5_1).f5)) := hS_
                 refine norm_ (a' := ?_) ?_ ?_
                 rotate_left
                 ·simp only [putAll, Act.put, List.setIfInBounds_toArray, List.set_cons_zero, List.set_cons_succ]
                  rfl
                 refine three_ (i := 10) (j := 11) (k := 12) (Ni := some 37) (Nj := some 7) (Nk := some 8) #[true, true, true, true, true, true, true, true, true, true, true, false, false, false, false] #[true, true, true, true, true, true, true, true, true, true, false, true, false, false, false] #[true, true, true, true, true, true, true, true, true, true, false, false, true, false, false] rfl rfl rfl rfl rfl rfl (three_of HT_.out (by kernel_rfl)) (by decide) (by decide) (by decide) (fun K hK => ?_) (fun K hK => ?_) (fun K hK => ?_)
                 ·skip
                  refine goes_ Try.func81 (by kernel_rfl) rfl #[.agg #[.int .i64 ((rd_T75 l0 x5_1).f0), .int .i64 ((rd_T75 l0 x5_1).f1), .int .i64 ((rd_T75 l0 x5_1).f2), .int .i64 ((rd_T75 l0 x5_1).f3), .int .i64 ((rd_T75 l0 x5_1).f4), .bool ((rd_T75 l0 x5_1).f5)], .int .i64 ((rd_T75 l0 t396).f0)] (by rfl) rfl rfl (by (try simp only [List.map_toArray, List.map_cons, List.map_nil]); first | done | rfl | (simp only [List.length_drop, List.length_take]; rfl)) ?_
                  with_reducible refine (spec_l7Turned.calls ((rd_T75 l0 x5_1).f0) ((rd_T75 l0 x5_1).f1) ((rd_T75 l0 x5_1).f2) ((rd_T75 l0 x5_1).f3) ((rd_T75 l0 x5_1).f4) ((rd_T75 l0 x5_1).f5) ((rd_T75 l0 t396).f0) t405 t406 t407 t408 t409 _ A13.out).mono ?_
                  rintro e w24 ⟨rfl, hb⟩
                  refine ⟨_, rfl, ?_⟩
                  have n0_ := Aside0.mk (Kd.R_below (by (with_reducible repeat (first | apply Kd.R_alloc | apply Kd.R_drewN | apply Kd.R_drew)); exact HO_4.out) hb)
                  have n1_ := Aside0.mk (blk_below (g := gb398) (o := .cells #[.int .i64 ((rd_T75 l0 t396).f0), .int .i64 ((rd_T75 l0 t396).f1), .int .i64 ((rd_T75 l0 t396).f2), .int .i64 ((rd_T75 l0 t396).f3), .int .i64 ((rd_T75 l0 t396).f4), .bool ((rd_T75 l0 t396).f5)] 75 (0, 0)) (by (with_reducible repeat (first | refine blk_drewN ?_ _ | refine blk_drew ?_ | refine blk_alloc ?_ _)); exact BK398.out) hb)
                  have n2_ := Aside0.mk (below_step (by repeat (first | (with_reducible first | exact HB.out | apply below_alloc | apply pw_below_drewN | apply below_drew1 | refine below_set ?_ GE398.out) | exact HB.out)) hb)
                  clear HO_4
                  clear BK398
                  clear HB
                  have HO_4 := n0_
                  have BK398 := n1_
                  have HB := n2_
                  clear n0_ n1_ n2_
                  (try clear hb)
                  (try clear hb2)
                  (try clear hk)
                  (try clear hi)
                  refine hK.out _ _ ⟨(blk_cell BK398.out 0).trans rfl, (blk_cell BK398.out 1).trans rfl, (blk_cell BK398.out 2).trans rfl, (blk_cell BK398.out 3).trans rfl, (blk_cell BK398.out 4).trans rfl, (blk_cell BK398.out 5).trans rfl, ((HB.out.cell (World.block_lt_of_cell? w _ hw404_0)).trans hw404_0), ((HB.out.cell (World.block_lt_of_cell? w _ hw404_1)).trans hw404_1), ((HB.out.cell (World.block_lt_of_cell? w _ hw404_2)).trans hw404_2), ((HB.out.cell (World.block_lt_of_cell? w _ hw404_3)).trans hw404_3), ((HB.out.cell (World.block_lt_of_cell? w _ hw404_4)).trans hw404_4), ((HB.out.cell (World.block_lt_of_cell? w _ hw404_5)).trans hw404_5)⟩ (fun hHeld => ?_)
                  clear hK K
                  refine norm_ (a' := ?_) ?_ ?_
                  rotate_left
                  ·show Act.put _ (some 37) _ = _
                   simp only [Act.put, List.setIfInBounds_toArray, List.set_cons_zero, List.set_cons_succ, i64_w, i32_w]
                   rfl
                  exact norm_ (by first | (simp only [putAll, Act.put, List.setIfInBounds_toArray, List.set_cons_zero, List.set_cons_succ]; done) | (simp only [putAll, Act.put, List.setIfInBounds_toArray, List.set_cons_zero, List.set_cons_succ]; rfl)) (hJ3_10 () _ ⟨hHeld, (by (with_reducible repeat (first | apply Kd.R_alloc | apply Kd.R_drewN | apply Kd.R_drew)); exact HO_4.out), (by (with_reducible repeat (first | refine blk_drewN ?_ _ | refine blk_drew ?_ | refine blk_alloc ?_ _)); exact BK398.out), (by repeat (first | (with_reducible first | exact HB.out | apply below_alloc | apply pw_below_drewN | apply below_drew1 | refine below_set ?_ GE398.out) | exact HB.out))⟩)
                 ·skip
                  refine box_step ?hg (N := 7) ?hd (cs := #[.int .i64 0, .int .i64 0, .int .i64 0, .int .i64 0, .int .i64 0]) (t := 71) ?hr ?_; (case hd => rfl); (case hg => rfl); (case hr => first | (go_simp; done) | (go_simp; rfl))
                  intro gb410 hg w24 hbox hb
                  have n0_ := Aside0.mk (Kd.R_below (by (with_reducible repeat (first | apply Kd.R_alloc | apply Kd.R_drewN | apply Kd.R_drew)); exact HO_4.out) hb)
                  have n1_ := Aside0.mk (blk_below (g := gb398) (o := .cells #[.int .i64 ((rd_T75 l0 t396).f0), .int .i64 ((rd_T75 l0 t396).f1), .int .i64 ((rd_T75 l0 t396).f2), .int .i64 ((rd_T75 l0 t396).f3), .int .i64 ((rd_T75 l0 t396).f4), .bool ((rd_T75 l0 t396).f5)] 75 (0, 0)) (by (with_reducible repeat (first | refine blk_drewN ?_ _ | refine blk_drew ?_ | refine blk_alloc ?_ _)); exact BK398.out) hb)
                  have n2_ := Aside0.mk (below_step (by repeat (first | (with_reducible first | exact HB.out | apply below_alloc | apply pw_below_drewN | apply below_drew1 | refine below_set ?_ GE398.out) | exact HB.out)) hb)
                  have n3_ := Aside0.mk (hbox)
                  have n4_ := Aside0.mk ((by rw [hg]; exact (below_size (by repeat (first | (with_reducible first | exact HB.out | apply below_alloc | apply pw_below_drewN | apply below_drew1 | refine below_set ?_ GE398.out) | exact HB.out))) : w.heap.size ≤ gb410))
                  have n5_ := Aside0.mk ((by rw [hg]; exact (below_size (by repeat (first | (with_reducible first | exact HB.out | apply below_alloc | apply pw_below_drewN | apply below_drew1 | refine below_set ?_ GE398.out) | exact HB.out))) : w.heap.size ≤ gb410))
                  have n6_ := Aside0.mk ((by rw [hg]; exact Nat.ne_of_lt (blk_lt (g := gb398) (o := .cells #[.int .i64 ((rd_T75 l0 t396).f0), .int .i64 ((rd_T75 l0 t396).f1), .int .i64 ((rd_T75 l0 t396).f2), .int .i64 ((rd_T75 l0 t396).f3), .int .i64 ((rd_T75 l0 t396).f4), .bool ((rd_T75 l0 t396).f5)] 75 (0, 0)) (by (with_reducible repeat (first | refine blk_drewN ?_ _ | refine blk_drew ?_ | refine blk_alloc ?_ _)); exact BK398.out)) : gb398 ≠ gb410))
                  have n7_ := Aside0.mk ((by rw [hg]; exact Nat.ne_of_gt (blk_lt (g := gb398) (o := .cells #[.int .i64 ((rd_T75 l0 t396).f0), .int .i64 ((rd_T75 l0 t396).f1), .int .i64 ((rd_T75 l0 t396).f2), .int .i64 ((rd_T75 l0 t396).f3), .int .i64 ((rd_T75 l0 t396).f4), .bool ((rd_T75 l0 t396).f5)] 75 (0, 0)) (by (with_reducible repeat (first | refine blk_drewN ?_ _ | refine blk_drew ?_ | refine blk_alloc ?_ _)); exact BK398.out)) : gb410 ≠ gb398))
                  clear HO_4
                  clear BK398
                  clear HB
                  have HO_4 := n0_
                  have BK398 := n1_
                  have HB := n2_
                  have BK410 := n3_
                  have GW410 := n4_
                  have GE410 := n5_
                  have NB398_410 := n6_
                  have NB410_398 := n7_
                  clear n0_ n1_ n2_ n3_ n4_ n5_ n6_ n7_
                  clear hb hbox hg
                  refine hK.out _ _ ⟨(blk_cell BK398.out 0).trans rfl, (blk_cell BK398.out 1).trans rfl, (blk_cell BK398.out 2).trans rfl, (blk_cell BK398.out 3).trans rfl, (blk_cell BK398.out 4).trans rfl, (blk_cell BK398.out 5).trans rfl, ((HB.out.cell (World.block_lt_of_cell? w _ hw404_0)).trans hw404_0), ((HB.out.cell (World.block_lt_of_cell? w _ hw404_1)).trans hw404_1), ((HB.out.cell (World.block_lt_of_cell? w _ hw404_2)).trans hw404_2), ((HB.out.cell (World.block_lt_of_cell? w _ hw404_3)).trans hw404_3), ((HB.out.cell (World.block_lt_of_cell? w _ hw404_4)).trans hw404_4), ((HB.out.cell (World.block_lt_of_cell? w _ hw404_5)).trans hw404_5)⟩ (fun hHeld => ?_)
                  clear hK K
                  refine norm_ (a' := ?_) ?_ ?_
                  rotate_left
                  ·show Act.put _ (some 7) _ = _
                   simp only [Act.put, List.setIfInBounds_toArray, List.set_cons_zero, List.set_cons_succ, i64_w, i32_w]
                   rfl
                  exact norm_ (by first | (simp only [putAll, Act.put, List.setIfInBounds_toArray, List.set_cons_zero, List.set_cons_succ]; done) | (simp only [putAll, Act.put, List.setIfInBounds_toArray, List.set_cons_zero, List.set_cons_succ]; rfl)) (hJ3_11 (gb410) _ ⟨hHeld, (by (with_reducible repeat (first | apply Kd.R_alloc | apply Kd.R_drewN | apply Kd.R_drew)); exact HO_4.out), (by (with_reducible repeat (first | refine blk_drewN ?_ _ | refine blk_drew ?_ | refine blk_alloc ?_ _)); exact BK398.out), (by (with_reducible repeat (first | refine blk_drewN ?_ _ | refine blk_drew ?_ | refine blk_alloc ?_ _)); exact BK410.out), GW410.out, GE410.out, NB398_410.out, NB410_398.out, (by repeat (first | (with_reducible first | exact HB.out | apply below_alloc | apply pw_below_drewN | apply below_drew1 | refine below_set ?_ GE398.out | refine below_set ?_ GE410.out) | exact HB.out))⟩)
                 ·skip
                  refine box_step ?hg (N := 8) ?hd (cs := #[.int .i64 0, .int .i64 0, .int .i64 0, .int .i64 0, .int .i64 0]) (t := 71) ?hr ?_; (case hd => rfl); (case hg => rfl); (case hr => first | (go_simp; done) | (go_simp; rfl))
                  intro gb411 hg w24 hbox hb
                  have n0_ := Aside0.mk (Kd.R_below (by (with_reducible repeat (first | apply Kd.R_alloc | apply Kd.R_drewN | apply Kd.R_drew)); exact HO_4.out) hb)
                  have n1_ := Aside0.mk (blk_below (g := gb398) (o := .cells #[.int .i64 ((rd_T75 l0 t396).f0), .int .i64 ((rd_T75 l0 t396).f1), .int .i64 ((rd_T75 l0 t396).f2), .int .i64 ((rd_T75 l0 t396).f3), .int .i64 ((rd_T75 l0 t396).f4), .bool ((rd_T75 l0 t396).f5)] 75 (0, 0)) (by (with_reducible repeat (first | refine blk_drewN ?_ _ | refine blk_drew ?_ | refine blk_alloc ?_ _)); exact BK398.out) hb)
                  have n2_ := Aside0.mk (below_step (by repeat (first | (with_reducible first | exact HB.out | apply below_alloc | apply pw_below_drewN | apply below_drew1 | refine below_set ?_ GE398.out) | exact HB.out)) hb)
                  have n3_ := Aside0.mk (hbox)
                  have n4_ := Aside0.mk ((by rw [hg]; exact (below_size (by repeat (first | (with_reducible first | exact HB.out | apply below_alloc | apply pw_below_drewN | apply below_drew1 | refine below_set ?_ GE398.out) | exact HB.out))) : w.heap.size ≤ gb411))
                  have n5_ := Aside0.mk ((by rw [hg]; exact (below_size (by repeat (first | (with_reducible first | exact HB.out | apply below_alloc | apply pw_below_drewN | apply below_drew1 | refine below_set ?_ GE398.out) | exact HB.out))) : w.heap.size ≤ gb411))
                  have n6_ := Aside0.mk ((by rw [hg]; exact Nat.ne_of_lt (blk_lt (g := gb398) (o := .cells #[.int .i64 ((rd_T75 l0 t396).f0), .int .i64 ((rd_T75 l0 t396).f1), .int .i64 ((rd_T75 l0 t396).f2), .int .i64 ((rd_T75 l0 t396).f3), .int .i64 ((rd_T75 l0 t396).f4), .bool ((rd_T75 l0 t396).f5)] 75 (0, 0)) (by (with_reducible repeat (first | refine blk_drewN ?_ _ | refine blk_drew ?_ | refine blk_alloc ?_ _)); exact BK398.out)) : gb398 ≠ gb411))
                  have n7_ := Aside0.mk ((by rw [hg]; exact Nat.ne_of_gt (blk_lt (g := gb398) (o := .cells #[.int .i64 ((rd_T75 l0 t396).f0), .int .i64 ((rd_T75 l0 t396).f1), .int .i64 ((rd_T75 l0 t396).f2), .int .i64 ((rd_T75 l0 t396).f3), .int .i64 ((rd_T75 l0 t396).f4), .bool ((rd_T75 l0 t396).f5)] 75 (0, 0)) (by (with_reducible repeat (first | refine blk_drewN ?_ _ | refine blk_drew ?_ | refine blk_alloc ?_ _)); exact BK398.out)) : gb411 ≠ gb398))
                  clear HO_4
                  clear BK398
                  clear HB
                  have HO_4 := n0_
                  have BK398 := n1_
                  have HB := n2_
                  have BK411 := n3_
                  have GW411 := n4_
                  have GE411 := n5_
                  have NB398_411 := n6_
                  have NB411_398 := n7_
                  clear n0_ n1_ n2_ n3_ n4_ n5_ n6_ n7_
                  clear hb hbox hg
                  refine hK.out _ _ ⟨(blk_cell BK398.out 0).trans rfl, (blk_cell BK398.out 1).trans rfl, (blk_cell BK398.out 2).trans rfl, (blk_cell BK398.out 3).trans rfl, (blk_cell BK398.out 4).trans rfl, (blk_cell BK398.out 5).trans rfl, ((HB.out.cell (World.block_lt_of_cell? w _ hw404_0)).trans hw404_0), ((HB.out.cell (World.block_lt_of_cell? w _ hw404_1)).trans hw404_1), ((HB.out.cell (World.block_lt_of_cell? w _ hw404_2)).trans hw404_2), ((HB.out.cell (World.block_lt_of_cell? w _ hw404_3)).trans hw404_3), ((HB.out.cell (World.block_lt_of_cell? w _ hw404_4)).trans hw404_4), ((HB.out.cell (World.block_lt_of_cell? w _ hw404_5)).trans hw404_5)⟩ (fun hHeld => ?_)
                  clear hK K
                  refine norm_ (a' := ?_) ?_ ?_
                  rotate_left
                  ·show Act.put _ (some 8) _ = _
                   simp only [Act.put, List.setIfInBounds_toArray, List.set_cons_zero, List.set_cons_succ, i64_w, i32_w]
                   rfl
                  exact norm_ (by first | (simp only [putAll, Act.put, List.setIfInBounds_toArray, List.set_cons_zero, List.set_cons_succ]; done) | (simp only [putAll, Act.put, List.setIfInBounds_toArray, List.set_cons_zero, List.set_cons_succ]; rfl)) (hJ3_12 (gb411) _ ⟨hHeld, (by (with_reducible repeat (first | apply Kd.R_alloc | apply Kd.R_drewN | apply Kd.R_drew)); exact HO_4.out), (by (with_reducible repeat (first | refine blk_drewN ?_ _ | refine blk_drew ?_ | refine blk_alloc ?_ _)); exact BK398.out), (by (with_reducible repeat (first | refine blk_drewN ?_ _ | refine blk_drew ?_ | refine blk_alloc ?_ _)); exact BK411.out), GW411.out, GE411.out, NB398_411.out, NB411_398.out, (by repeat (first | (with_reducible first | exact HB.out | apply below_alloc | apply pw_below_drewN | apply below_drew1 | refine below_set ?_ GE398.out | refine below_set ?_ GE411.out) | exact HB.out))⟩)
               ·skip
                rintro ⟨gb410, gb411⟩ w24 ⟨hS_, h0_, h1_, h2_, h3_, h4_, h5_, h6_, h7_, h8_, h9_, h10_, h11_, h12_, h13_, h14_⟩
                have n0_ : Aside0 (Kd.R (Kd.int .i64) 3 w24 w.heap.size (fun _ => True) u4 x4_1) := ⟨h0_⟩
                have n1_ : Aside0 (w24.heap[gb398]? = some (.cells #[.int .i64 ((rd_T75 l0 t396).f0), .int .i64 ((rd_T75 l0 t396).f1), .int .i64 ((rd_T75 l0 t396).f2), .int .i64 ((rd_T75 l0 t396).f3), .int .i64 ((rd_T75 l0 t396).f4), .bool ((rd_T75 l0 t396).f5)] 75 (0, 0))) := ⟨h1_⟩
                have n2_ : Aside0 (w24.heap[gb410]? = some (.cells #[.int .i64 0, .int .i64 0, .int .i64 0, .int .i64 0, .int .i64 0] 71 (0, 0))) := ⟨h2_⟩
                have n3_ : Aside0 (w24.heap[gb411]? = some (.cells #[.int .i64 0, .int .i64 0, .int .i64 0, .int .i64 0, .int .i64 0] 71 (0, 0))) := ⟨h3_⟩
                have n4_ : Aside0 (w.heap.size ≤ gb410) := ⟨h4_⟩
                have n5_ : Aside0 (w.heap.size ≤ gb410) := ⟨h5_⟩
                have n6_ : Aside0 (gb398 ≠ gb410) := ⟨h6_⟩
                have n7_ : Aside0 (gb410 ≠ gb398) := ⟨h7_⟩
                have n8_ : Aside0 (gb411 ≠ gb410) := ⟨h8_⟩
                have n9_ : Aside0 (gb410 ≠ gb411) := ⟨h9_⟩
                have n10_ : Aside0 (w.heap.size ≤ gb411) := ⟨h10_⟩
                have n11_ : Aside0 (w.heap.size ≤ gb411) := ⟨h11_⟩
                have n12_ : Aside0 (gb398 ≠ gb411) := ⟨h12_⟩
                have n13_ : Aside0 (gb411 ≠ gb398) := ⟨h13_⟩
                have n14_ : Aside0 (Below w.heap.size w w24) := ⟨h14_⟩
                clear HO_4
                clear BK398
                clear HB
                clear h0_ h1_ h2_ h3_ h4_ h5_ h6_ h7_ h8_ h9_ h10_ h11_ h12_ h13_ h14_
                have HO_4 := n0_
                have BK398 := n1_
                have BK410 := n2_
                have BK411 := n3_
                have GW410 := n4_
                have GE410 := n5_
                have NB398_410 := n6_
                have NB410_398 := n7_
                have NB411_410 := n8_
                have NB410_411 := n9_
                have GW411 := n10_
                have GE411 := n11_
                have NB398_411 := n12_
                have NB411_398 := n13_
                have HB := n14_
                clear n0_ n1_ n2_ n3_ n4_ n5_ n6_ n7_ n8_ n9_ n10_ n11_ n12_ n13_ n14_
                have hHeld : w24.cell? ⟨gb398, 0, none⟩ = some (.int .i64 ((rd_T75 l0 t396).f0)) ∧ w24.cell? ⟨gb398, 1, none⟩ = some (.int .i64 ((rd_T75 l0 t396).f1)) ∧ w24.cell? ⟨gb398, 2, none⟩ = some (.int .i64 ((rd_T75 l0 t396).f2)) ∧ w24.cell? ⟨gb398, 3, none⟩ = some (.int .i64 ((rd_T75 l0 t396).f3)) ∧ w24.cell? ⟨gb398, 4, none⟩ = some (.int .i64 ((rd_T75 l0 t396).f4)) ∧ w24.cell? ⟨gb398, 5, none⟩ = some (.bool ((rd_T75 l0 t396).f5)) ∧ w24.cell? (ad397.add ((x5_1).toNat * 6)) = some (.int .i64 ((rd_T75 l0 x5_1).f0)) ∧ w24.cell? ⟨(ad397.add ((x5_1).toNat * 6)).block, (ad397.add ((x5_1).toNat * 6)).off + 1, none⟩ = some (.int .i64 ((rd_T75 l0 x5_1).f1)) ∧ w24.cell? ⟨(ad397.add ((x5_1).toNat * 6)).block, (ad397.add ((x5_1).toNat * 6)).off + 2, none⟩ = some (.int .i64 ((rd_T75 l0 x5_1).f2)) ∧ w24.cell? ⟨(ad397.add ((x5_1).toNat * 6)).block, (ad397.add ((x5_1).toNat * 6)).off + 3, none⟩ = some (.int .i64 ((rd_T75 l0 x5_1).f3)) ∧ w24.cell? ⟨(ad397.add ((x5_1).toNat * 6)).block, (ad397.add ((x5_1).toNat * 6)).off + 4, none⟩ = some (.int .i64 ((rd_T75 l0 x5_1).f4)) ∧ w24.cell? ⟨(ad397.add ((x5_1).toNat * 6)).block, (ad397.add ((x5_1).toNat * 6)).off + 5, none⟩ = some (.bool ((rd_T75 l0 x5_1).f5)) := hS_
                refine norm_ (a' := ?_) ?_ ?_
                rotate_left
                ·simp only [putAll, Act.put, List.setIfInBounds_toArray, List.set_cons_zero, List.set_cons_succ]
                 rfl
                refine one_ (i := 3) (N := some 30) #[true, true, true, true, true, true, true, true, true, true, false, true, true, false, false] rfl rfl (one_of HT_.out (by kernel_rfl)) (by decide) (fun K hK => ?_)
                refine goes_ Try.func81 (by kernel_rfl) rfl #[.agg #[.int .i64 ((rd_T75 l0 t396).f0), .int .i64 ((rd_T75 l0 t396).f1), .int .i64 ((rd_T75 l0 t396).f2), .int .i64 ((rd_T75 l0 t396).f3), .int .i64 ((rd_T75 l0 t396).f4), .bool ((rd_T75 l0 t396).f5)], .int .i64 ((rd_T75 l0 t396).f0)] (by rfl) rfl rfl (by (try simp only [List.map_toArray, List.map_cons, List.map_nil]); first | done | rfl | (simp only [List.length_drop, List.length_take]; rfl)) ?_
                with_reducible refine (spec_l7Turned.calls ((rd_T75 l0 t396).f0) ((rd_T75 l0 t396).f1) ((rd_T75 l0 t396).f2) ((rd_T75 l0 t396).f3) ((rd_T75 l0 t396).f4) ((rd_T75 l0 t396).f5) ((rd_T75 l0 t396).f0) t399 t400 t401 t402 t403 _ A11.out).mono ?_
                rintro e w25 ⟨rfl, hb⟩
                refine ⟨_, rfl, ?_⟩
                have n0_ := Aside0.mk (Kd.R_below (by (with_reducible repeat (first | apply Kd.R_alloc | apply Kd.R_drewN | apply Kd.R_drew)); exact HO_4.out) hb)
                have n1_ := Aside0.mk (blk_below (g := gb398) (o := .cells #[.int .i64 ((rd_T75 l0 t396).f0), .int .i64 ((rd_T75 l0 t396).f1), .int .i64 ((rd_T75 l0 t396).f2), .int .i64 ((rd_T75 l0 t396).f3), .int .i64 ((rd_T75 l0 t396).f4), .bool ((rd_T75 l0 t396).f5)] 75 (0, 0)) (by (with_reducible repeat (first | refine blk_drewN ?_ _ | refine blk_drew ?_ | refine blk_alloc ?_ _)); exact BK398.out) hb)
                have n2_ := Aside0.mk (blk_below (g := gb410) (o := .cells #[.int .i64 0, .int .i64 0, .int .i64 0, .int .i64 0, .int .i64 0] 71 (0, 0)) (by (with_reducible repeat (first | refine blk_drewN ?_ _ | refine blk_drew ?_ | refine blk_alloc ?_ _)); exact BK410.out) hb)
                have n3_ := Aside0.mk (blk_below (g := gb411) (o := .cells #[.int .i64 0, .int .i64 0, .int .i64 0, .int .i64 0, .int .i64 0] 71 (0, 0)) (by (with_reducible repeat (first | refine blk_drewN ?_ _ | refine blk_drew ?_ | refine blk_alloc ?_ _)); exact BK411.out) hb)
                have n4_ := Aside0.mk (below_step (by repeat (first | (with_reducible first | exact HB.out | apply below_alloc | apply pw_below_drewN | apply below_drew1 | refine below_set ?_ GE398.out | refine below_set ?_ GE410.out | refine below_set ?_ GE411.out) | exact HB.out)) hb)
                clear HO_4
                clear BK398
                clear BK410
                clear BK411
                clear HB
                have HO_4 := n0_
                have BK398 := n1_
                have BK410 := n2_
                have BK411 := n3_
                have HB := n4_
                clear n0_ n1_ n2_ n3_ n4_
                (try clear hb)
                (try clear hb2)
                (try clear hk)
                (try clear hi)
                refine hK.out _ _ ⟨(blk_cell BK398.out 0).trans rfl, (blk_cell BK398.out 1).trans rfl, (blk_cell BK398.out 2).trans rfl, (blk_cell BK398.out 3).trans rfl, (blk_cell BK398.out 4).trans rfl, (blk_cell BK398.out 5).trans rfl, ((HB.out.cell (World.block_lt_of_cell? w _ hw404_0)).trans hw404_0), ((HB.out.cell (World.block_lt_of_cell? w _ hw404_1)).trans hw404_1), ((HB.out.cell (World.block_lt_of_cell? w _ hw404_2)).trans hw404_2), ((HB.out.cell (World.block_lt_of_cell? w _ hw404_3)).trans hw404_3), ((HB.out.cell (World.block_lt_of_cell? w _ hw404_4)).trans hw404_4), ((HB.out.cell (World.block_lt_of_cell? w _ hw404_5)).trans hw404_5)⟩ (fun hHeld => ?_)
                clear hK K
                refine norm_ (a' := ?_) ?_ ?_
                rotate_left
                ·show Act.put _ (some 30) _ = _
                 simp only [Act.put, List.setIfInBounds_toArray, List.set_cons_zero, List.set_cons_succ, i64_w, i32_w]
                 rfl
                exact norm_ (by first | (simp only [putAll, Act.put, List.setIfInBounds_toArray, List.set_cons_zero, List.set_cons_succ]; done) | (simp only [putAll, Act.put, List.setIfInBounds_toArray, List.set_cons_zero, List.set_cons_succ]; rfl)) (hJ3_11_12 (gb410, gb411) _ ⟨hHeld, (by (with_reducible repeat (first | apply Kd.R_alloc | apply Kd.R_drewN | apply Kd.R_drew)); exact HO_4.out), (by (with_reducible repeat (first | refine blk_drewN ?_ _ | refine blk_drew ?_ | refine blk_alloc ?_ _)); exact BK398.out), (by (with_reducible repeat (first | refine blk_drewN ?_ _ | refine blk_drew ?_ | refine blk_alloc ?_ _)); exact BK410.out), (by (with_reducible repeat (first | refine blk_drewN ?_ _ | refine blk_drew ?_ | refine blk_alloc ?_ _)); exact BK411.out), GW410.out, GE410.out, NB398_410.out, NB410_398.out, NB411_410.out, NB410_411.out, GW411.out, GE411.out, NB398_411.out, NB411_398.out, (by repeat (first | (with_reducible first | exact HB.out | apply below_alloc | apply pw_below_drewN | apply below_drew1 | refine below_set ?_ GE398.out | refine below_set ?_ GE410.out | refine below_set ?_ GE411.out) | exact HB.out))⟩)
              ·skip
               rintro gb411 w24 ⟨hS_, h0_, h1_, h2_, h3_, h4_, h5_, h6_, h7_⟩
               have n0_ : Aside0 (Kd.R (Kd.int .i64) 3 w24 w.heap.size (fun _ => True) u4 x4_1) := ⟨h0_⟩
               have n1_ : Aside0 (w24.heap[gb398]? = some (.cells #[.int .i64 ((rd_T75 l0 t396).f0), .int .i64 ((rd_T75 l0 t396).f1), .int .i64 ((rd_T75 l0 t396).f2), .int .i64 ((rd_T75 l0 t396).f3), .int .i64 ((rd_T75 l0 t396).f4), .bool ((rd_T75 l0 t396).f5)] 75 (0, 0))) := ⟨h1_⟩
               have n2_ : Aside0 (w24.heap[gb411]? = some (.cells #[.int .i64 0, .int .i64 0, .int .i64 0, .int .i64 0, .int .i64 0] 71 (0, 0))) := ⟨h2_⟩
               have n3_ : Aside0 (w.heap.size ≤ gb411) := ⟨h3_⟩
               have n4_ : Aside0 (w.heap.size ≤ gb411) := ⟨h4_⟩
               have n5_ : Aside0 (gb398 ≠ gb411) := ⟨h5_⟩
               have n6_ : Aside0 (gb411 ≠ gb398) := ⟨h6_⟩
               have n7_ : Aside0 (Below w.heap.size w w24) := ⟨h7_⟩
               clear HO_4
               clear BK398
               clear HB
               clear h0_ h1_ h2_ h3_ h4_ h5_ h6_ h7_
               have HO_4 := n0_
               have BK398 := n1_
               have BK411 := n2_
               have GW411 := n3_
               have GE411 := n4_
               have NB398_411 := n5_
               have NB411_398 := n6_
               have HB := n7_
               clear n0_ n1_ n2_ n3_ n4_ n5_ n6_ n7_
               have hHeld : w24.cell? ⟨gb398, 0, none⟩ = some (.int .i64 ((rd_T75 l0 t396).f0)) ∧ w24.cell? ⟨gb398, 1, none⟩ = some (.int .i64 ((rd_T75 l0 t396).f1)) ∧ w24.cell? ⟨gb398, 2, none⟩ = some (.int .i64 ((rd_T75 l0 t396).f2)) ∧ w24.cell? ⟨gb398, 3, none⟩ = some (.int .i64 ((rd_T75 l0 t396).f3)) ∧ w24.cell? ⟨gb398, 4, none⟩ = some (.int .i64 ((rd_T75 l0 t396).f4)) ∧ w24.cell? ⟨gb398, 5, none⟩ = some (.bool ((rd_T75 l0 t396).f5)) ∧ w24.cell? (ad397.add ((x5_1).toNat * 6)) = some (.int .i64 ((rd_T75 l0 x5_1).f0)) ∧ w24.cell? ⟨(ad397.add ((x5_1).toNat * 6)).block, (ad397.add ((x5_1).toNat * 6)).off + 1, none⟩ = some (.int .i64 ((rd_T75 l0 x5_1).f1)) ∧ w24.cell? ⟨(ad397.add ((x5_1).toNat * 6)).block, (ad397.add ((x5_1).toNat * 6)).off + 2, none⟩ = some (.int .i64 ((rd_T75 l0 x5_1).f2)) ∧ w24.cell? ⟨(ad397.add ((x5_1).toNat * 6)).block, (ad397.add ((x5_1).toNat * 6)).off + 3, none⟩ = some (.int .i64 ((rd_T75 l0 x5_1).f3)) ∧ w24.cell? ⟨(ad397.add ((x5_1).toNat * 6)).block, (ad397.add ((x5_1).toNat * 6)).off + 4, none⟩ = some (.int .i64 ((rd_T75 l0 x5_1).f4)) ∧ w24.cell? ⟨(ad397.add ((x5_1).toNat * 6)).block, (ad397.add ((x5_1).toNat * 6)).off + 5, none⟩ = some (.bool ((rd_T75 l0 x5_1).f5)) := hS_
               refine norm_ (a' := ?_) ?_ ?_
               rotate_left
               ·simp only [putAll, Act.put, List.setIfInBounds_toArray, List.set_cons_zero, List.set_cons_succ]
                rfl
               refine two_ (i := 10) (j := 11) (Ni := some 37) (Nj := some 7) #[true, true, true, true, true, true, true, true, true, true, true, false, true, false, false] #[true, true, true, true, true, true, true, true, true, true, false, true, true, false, false] rfl rfl rfl rfl (two_of HT_.out (by kernel_rfl)) (by decide) (by decide) (fun K hK => ?_) (fun K hK => ?_)
               ·skip
                refine goes_ Try.func81 (by kernel_rfl) rfl #[.agg #[.int .i64 ((rd_T75 l0 x5_1).f0), .int .i64 ((rd_T75 l0 x5_1).f1), .int .i64 ((rd_T75 l0 x5_1).f2), .int .i64 ((rd_T75 l0 x5_1).f3), .int .i64 ((rd_T75 l0 x5_1).f4), .bool ((rd_T75 l0 x5_1).f5)], .int .i64 ((rd_T75 l0 t396).f0)] (by rfl) rfl rfl (by (try simp only [List.map_toArray, List.map_cons, List.map_nil]); first | done | rfl | (simp only [List.length_drop, List.length_take]; rfl)) ?_
                with_reducible refine (spec_l7Turned.calls ((rd_T75 l0 x5_1).f0) ((rd_T75 l0 x5_1).f1) ((rd_T75 l0 x5_1).f2) ((rd_T75 l0 x5_1).f3) ((rd_T75 l0 x5_1).f4) ((rd_T75 l0 x5_1).f5) ((rd_T75 l0 t396).f0) t405 t406 t407 t408 t409 _ A13.out).mono ?_
                rintro e w25 ⟨rfl, hb⟩
                refine ⟨_, rfl, ?_⟩
                have n0_ := Aside0.mk (Kd.R_below (by (with_reducible repeat (first | apply Kd.R_alloc | apply Kd.R_drewN | apply Kd.R_drew)); exact HO_4.out) hb)
                have n1_ := Aside0.mk (blk_below (g := gb398) (o := .cells #[.int .i64 ((rd_T75 l0 t396).f0), .int .i64 ((rd_T75 l0 t396).f1), .int .i64 ((rd_T75 l0 t396).f2), .int .i64 ((rd_T75 l0 t396).f3), .int .i64 ((rd_T75 l0 t396).f4), .bool ((rd_T75 l0 t396).f5)] 75 (0, 0)) (by (with_reducible repeat (first | refine blk_drewN ?_ _ | refine blk_drew ?_ | refine blk_alloc ?_ _)); exact BK398.out) hb)
                have n2_ := Aside0.mk (blk_below (g := gb411) (o := .cells #[.int .i64 0, .int .i64 0, .int .i64 0, .int .i64 0, .int .i64 0] 71 (0, 0)) (by (with_reducible repeat (first | refine blk_drewN ?_ _ | refine blk_drew ?_ | refine blk_alloc ?_ _)); exact BK411.out) hb)
                have n3_ := Aside0.mk (below_step (by repeat (first | (with_reducible first | exact HB.out | apply below_alloc | apply pw_below_drewN | apply below_drew1 | refine below_set ?_ GE398.out | refine below_set ?_ GE411.out) | exact HB.out)) hb)
                clear HO_4
                clear BK398
                clear BK411
                clear HB
                have HO_4 := n0_
                have BK398 := n1_
                have BK411 := n2_
                have HB := n3_
                clear n0_ n1_ n2_ n3_
                (try clear hb)
                (try clear hb2)
                (try clear hk)
                (try clear hi)
                refine hK.out _ _ ⟨(blk_cell BK398.out 0).trans rfl, (blk_cell BK398.out 1).trans rfl, (blk_cell BK398.out 2).trans rfl, (blk_cell BK398.out 3).trans rfl, (blk_cell BK398.out 4).trans rfl, (blk_cell BK398.out 5).trans rfl, ((HB.out.cell (World.block_lt_of_cell? w _ hw404_0)).trans hw404_0), ((HB.out.cell (World.block_lt_of_cell? w _ hw404_1)).trans hw404_1), ((HB.out.cell (World.block_lt_of_cell? w _ hw404_2)).trans hw404_2), ((HB.out.cell (World.block_lt_of_cell? w _ hw404_3)).trans hw404_3), ((HB.out.cell (World.block_lt_of_cell? w _ hw404_4)).trans hw404_4), ((HB.out.cell (World.block_lt_of_cell? w _ hw404_5)).trans hw404_5)⟩ (fun hHeld => ?_)
                clear hK K
                refine norm_ (a' := ?_) ?_ ?_
                rotate_left
                ·show Act.put _ (some 37) _ = _
                 simp only [Act.put, List.setIfInBounds_toArray, List.set_cons_zero, List.set_cons_succ, i64_w, i32_w]
                 rfl
                exact norm_ (by first | (simp only [putAll, Act.put, List.setIfInBounds_toArray, List.set_cons_zero, List.set_cons_succ]; done) | (simp only [putAll, Act.put, List.setIfInBounds_toArray, List.set_cons_zero, List.set_cons_succ]; rfl)) (hJ3_10_12 (gb411) _ ⟨hHeld, (by (with_reducible repeat (first | apply Kd.R_alloc | apply Kd.R_drewN | apply Kd.R_drew)); exact HO_4.out), (by (with_reducible repeat (first | refine blk_drewN ?_ _ | refine blk_drew ?_ | refine blk_alloc ?_ _)); exact BK398.out), (by (with_reducible repeat (first | refine blk_drewN ?_ _ | refine blk_drew ?_ | refine blk_alloc ?_ _)); exact BK411.out), GW411.out, GE411.out, NB398_411.out, NB411_398.out, (by repeat (first | (with_reducible first | exact HB.out | apply below_alloc | apply pw_below_drewN | apply below_drew1 | refine below_set ?_ GE398.out | refine below_set ?_ GE411.out) | exact HB.out))⟩)
               ·skip
                refine box_step ?hg (N := 7) ?hd (cs := #[.int .i64 0, .int .i64 0, .int .i64 0, .int .i64 0, .int .i64 0]) (t := 71) ?hr ?_; (case hd => rfl); (case hg => rfl); (case hr => first | (go_simp; done) | (go_simp; rfl))
                intro gb410 hg w25 hbox hb
                have n0_ := Aside0.mk (Kd.R_below (by (with_reducible repeat (first | apply Kd.R_alloc | apply Kd.R_drewN | apply Kd.R_drew)); exact HO_4.out) hb)
                have n1_ := Aside0.mk (blk_below (g := gb398) (o := .cells #[.int .i64 ((rd_T75 l0 t396).f0), .int .i64 ((rd_T75 l0 t396).f1), .int .i64 ((rd_T75 l0 t396).f2), .int .i64 ((rd_T75 l0 t396).f3), .int .i64 ((rd_T75 l0 t396).f4), .bool ((rd_T75 l0 t396).f5)] 75 (0, 0)) (by (with_reducible repeat (first | refine blk_drewN ?_ _ | refine blk_drew ?_ | refine blk_alloc ?_ _)); exact BK398.out) hb)
                have n2_ := Aside0.mk (blk_below (g := gb411) (o := .cells #[.int .i64 0, .int .i64 0, .int .i64 0, .int .i64 0, .int .i64 0] 71 (0, 0)) (by (with_reducible repeat (first | refine blk_drewN ?_ _ | refine blk_drew ?_ | refine blk_alloc ?_ _)); exact BK411.out) hb)
                have n3_ := Aside0.mk (below_step (by repeat (first | (with_reducible first | exact HB.out | apply below_alloc | apply pw_below_drewN | apply below_drew1 | refine below_set ?_ GE398.out | refine below_set ?_ GE411.out) | exact HB.out)) hb)
                have n4_ := Aside0.mk (hbox)
                have n5_ := Aside0.mk ((by rw [hg]; exact (below_size (by repeat (first | (with_reducible first | exact HB.out | apply below_alloc | apply pw_below_drewN | apply below_drew1 | refine below_set ?_ GE398.out | refine below_set ?_ GE411.out) | exact HB.out))) : w.heap.size ≤ gb410))
                have n6_ := Aside0.mk ((by rw [hg]; exact (below_size (by repeat (first | (with_reducible first | exact HB.out | apply below_alloc | apply pw_below_drewN | apply below_drew1 | refine below_set ?_ GE398.out | refine below_set ?_ GE411.out) | exact HB.out))) : w.heap.size ≤ gb410))
                have n7_ := Aside0.mk ((by rw [hg]; exact Nat.ne_of_lt (blk_lt (g := gb398) (o := .cells #[.int .i64 ((rd_T75 l0 t396).f0), .int .i64 ((rd_T75 l0 t396).f1), .int .i64 ((rd_T75 l0 t396).f2), .int .i64 ((rd_T75 l0 t396).f3), .int .i64 ((rd_T75 l0 t396).f4), .bool ((rd_T75 l0 t396).f5)] 75 (0, 0)) (by (with_reducible repeat (first | refine blk_drewN ?_ _ | refine blk_drew ?_ | refine blk_alloc ?_ _)); exact BK398.out)) : gb398 ≠ gb410))
                have n8_ := Aside0.mk ((by rw [hg]; exact Nat.ne_of_gt (blk_lt (g := gb398) (o := .cells #[.int .i64 ((rd_T75 l0 t396).f0), .int .i64 ((rd_T75 l0 t396).f1), .int .i64 ((rd_T75 l0 t396).f2), .int .i64 ((rd_T75 l0 t396).f3), .int .i64 ((rd_T75 l0 t396).f4), .bool ((rd_T75 l0 t396).f5)] 75 (0, 0)) (by (with_reducible repeat (first | refine blk_drewN ?_ _ | refine blk_drew ?_ | refine blk_alloc ?_ _)); exact BK398.out)) : gb410 ≠ gb398))
                have n9_ := Aside0.mk ((by rw [hg]; exact Nat.ne_of_lt (blk_lt (g := gb411) (o := .cells #[.int .i64 0, .int .i64 0, .int .i64 0, .int .i64 0, .int .i64 0] 71 (0, 0)) (by (with_reducible repeat (first | refine blk_drewN ?_ _ | refine blk_drew ?_ | refine blk_alloc ?_ _)); exact BK411.out)) : gb411 ≠ gb410))
                have n10_ := Aside0.mk ((by rw [hg]; exact Nat.ne_of_gt (blk_lt (g := gb411) (o := .cells #[.int .i64 0, .int .i64 0, .int .i64 0, .int .i64 0, .int .i64 0] 71 (0, 0)) (by (with_reducible repeat (first | refine blk_drewN ?_ _ | refine blk_drew ?_ | refine blk_alloc ?_ _)); exact BK411.out)) : gb410 ≠ gb411))
                clear HO_4
                clear BK398
                clear BK411
                clear HB
                have HO_4 := n0_
                have BK398 := n1_
                have BK411 := n2_
                have HB := n3_
                have BK410 := n4_
                have GW410 := n5_
                have GE410 := n6_
                have NB398_410 := n7_
                have NB410_398 := n8_
                have NB411_410 := n9_
                have NB410_411 := n10_
                clear n0_ n1_ n2_ n3_ n4_ n5_ n6_ n7_ n8_ n9_ n10_
                clear hb hbox hg
                refine hK.out _ _ ⟨(blk_cell BK398.out 0).trans rfl, (blk_cell BK398.out 1).trans rfl, (blk_cell BK398.out 2).trans rfl, (blk_cell BK398.out 3).trans rfl, (blk_cell BK398.out 4).trans rfl, (blk_cell BK398.out 5).trans rfl, ((HB.out.cell (World.block_lt_of_cell? w _ hw404_0)).trans hw404_0), ((HB.out.cell (World.block_lt_of_cell? w _ hw404_1)).trans hw404_1), ((HB.out.cell (World.block_lt_of_cell? w _ hw404_2)).trans hw404_2), ((HB.out.cell (World.block_lt_of_cell? w _ hw404_3)).trans hw404_3), ((HB.out.cell (World.block_lt_of_cell? w _ hw404_4)).trans hw404_4), ((HB.out.cell (World.block_lt_of_cell? w _ hw404_5)).trans hw404_5)⟩ (fun hHeld => ?_)
                clear hK K
                refine norm_ (a' := ?_) ?_ ?_
                rotate_left
                ·show Act.put _ (some 7) _ = _
                 simp only [Act.put, List.setIfInBounds_toArray, List.set_cons_zero, List.set_cons_succ, i64_w, i32_w]
                 rfl
                exact norm_ (by first | (simp only [putAll, Act.put, List.setIfInBounds_toArray, List.set_cons_zero, List.set_cons_succ]; done) | (simp only [putAll, Act.put, List.setIfInBounds_toArray, List.set_cons_zero, List.set_cons_succ]; rfl)) (hJ3_11_12 (gb410, gb411) _ ⟨hHeld, (by (with_reducible repeat (first | apply Kd.R_alloc | apply Kd.R_drewN | apply Kd.R_drew)); exact HO_4.out), (by (with_reducible repeat (first | refine blk_drewN ?_ _ | refine blk_drew ?_ | refine blk_alloc ?_ _)); exact BK398.out), (by (with_reducible repeat (first | refine blk_drewN ?_ _ | refine blk_drew ?_ | refine blk_alloc ?_ _)); exact BK410.out), (by (with_reducible repeat (first | refine blk_drewN ?_ _ | refine blk_drew ?_ | refine blk_alloc ?_ _)); exact BK411.out), GW410.out, GE410.out, NB398_410.out, NB410_398.out, NB411_410.out, NB410_411.out, GW411.out, GE411.out, NB398_411.out, NB411_398.out, (by repeat (first | (with_reducible first | exact HB.out | apply below_alloc | apply pw_below_drewN | apply below_drew1 | refine below_set ?_ GE398.out | refine below_set ?_ GE411.out | refine below_set ?_ GE410.out) | exact HB.out))⟩)
             ·skip
              rintro gb410 w24 ⟨hS_, h0_, h1_, h2_, h3_, h4_, h5_, h6_, h7_⟩
              have n0_ : Aside0 (Kd.R (Kd.int .i64) 3 w24 w.heap.size (fun _ => True) u4 x4_1) := ⟨h0_⟩
              have n1_ : Aside0 (w24.heap[gb398]? = some (.cells #[.int .i64 ((rd_T75 l0 t396).f0), .int .i64 ((rd_T75 l0 t396).f1), .int .i64 ((rd_T75 l0 t396).f2), .int .i64 ((rd_T75 l0 t396).f3), .int .i64 ((rd_T75 l0 t396).f4), .bool ((rd_T75 l0 t396).f5)] 75 (0, 0))) := ⟨h1_⟩
              have n2_ : Aside0 (w24.heap[gb410]? = some (.cells #[.int .i64 0, .int .i64 0, .int .i64 0, .int .i64 0, .int .i64 0] 71 (0, 0))) := ⟨h2_⟩
              have n3_ : Aside0 (w.heap.size ≤ gb410) := ⟨h3_⟩
              have n4_ : Aside0 (w.heap.size ≤ gb410) := ⟨h4_⟩
              have n5_ : Aside0 (gb398 ≠ gb410) := ⟨h5_⟩
              have n6_ : Aside0 (gb410 ≠ gb398) := ⟨h6_⟩
              have n7_ : Aside0 (Below w.heap.size w w24) := ⟨h7_⟩
              clear HO_4
              clear BK398
              clear HB
              clear h0_ h1_ h2_ h3_ h4_ h5_ h6_ h7_
              have HO_4 := n0_
              have BK398 := n1_
              have BK410 := n2_
              have GW410 := n3_
              have GE410 := n4_
              have NB398_410 := n5_
              have NB410_398 := n6_
              have HB := n7_
              clear n0_ n1_ n2_ n3_ n4_ n5_ n6_ n7_
              have hHeld : w24.cell? ⟨gb398, 0, none⟩ = some (.int .i64 ((rd_T75 l0 t396).f0)) ∧ w24.cell? ⟨gb398, 1, none⟩ = some (.int .i64 ((rd_T75 l0 t396).f1)) ∧ w24.cell? ⟨gb398, 2, none⟩ = some (.int .i64 ((rd_T75 l0 t396).f2)) ∧ w24.cell? ⟨gb398, 3, none⟩ = some (.int .i64 ((rd_T75 l0 t396).f3)) ∧ w24.cell? ⟨gb398, 4, none⟩ = some (.int .i64 ((rd_T75 l0 t396).f4)) ∧ w24.cell? ⟨gb398, 5, none⟩ = some (.bool ((rd_T75 l0 t396).f5)) ∧ w24.cell? (ad397.add ((x5_1).toNat * 6)) = some (.int .i64 ((rd_T75 l0 x5_1).f0)) ∧ w24.cell? ⟨(ad397.add ((x5_1).toNat * 6)).block, (ad397.add ((x5_1).toNat * 6)).off + 1, none⟩ = some (.int .i64 ((rd_T75 l0 x5_1).f1)) ∧ w24.cell? ⟨(ad397.add ((x5_1).toNat * 6)).block, (ad397.add ((x5_1).toNat * 6)).off + 2, none⟩ = some (.int .i64 ((rd_T75 l0 x5_1).f2)) ∧ w24.cell? ⟨(ad397.add ((x5_1).toNat * 6)).block, (ad397.add ((x5_1).toNat * 6)).off + 3, none⟩ = some (.int .i64 ((rd_T75 l0 x5_1).f3)) ∧ w24.cell? ⟨(ad397.add ((x5_1).toNat * 6)).block, (ad397.add ((x5_1).toNat * 6)).off + 4, none⟩ = some (.int .i64 ((rd_T75 l0 x5_1).f4)) ∧ w24.cell? ⟨(ad397.add ((x5_1).toNat * 6)).block, (ad397.add ((x5_1).toNat * 6)).off + 5, none⟩ = some (.bool ((rd_T75 l0 x5_1).f5)) := hS_
              refine norm_ (a' := ?_) ?_ ?_
              rotate_left
              ·simp only [putAll, Act.put, List.setIfInBounds_toArray, List.set_cons_zero, List.set_cons_succ]
               rfl
              refine two_ (i := 10) (j := 12) (Ni := some 37) (Nj := some 8) #[true, true, true, true, true, true, true, true, true, true, true, true, false, false, false] #[true, true, true, true, true, true, true, true, true, true, false, true, true, false, false] rfl rfl rfl rfl (two_of HT_.out (by kernel_rfl)) (by decide) (by decide) (fun K hK => ?_) (fun K hK => ?_)
              ·skip
               refine goes_ Try.func81 (by kernel_rfl) rfl #[.agg #[.int .i64 ((rd_T75 l0 x5_1).f0), .int .i64 ((rd_T75 l0 x5_1).f1), .int .i64 ((rd_T75 l0 x5_1).f2), .int .i64 ((rd_T75 l0 x5_1).f3), .int .i64 ((rd_T75 l0 x5_1).f4), .bool ((rd_T75 l0 x5_1).f5)], .int .i64 ((rd_T75 l0 t396).f0)] (by rfl) rfl rfl (by (try simp only [List.map_toArray, List.map_cons, List.map_nil]); first | done | rfl | (simp only [List.length_drop, List.length_take]; rfl)) ?_
               with_reducible refine (spec_l7Turned.calls ((rd_T75 l0 x5_1).f0) ((rd_T75 l0 x5_1).f1) ((rd_T75 l0 x5_1).f2) ((rd_T75 l0 x5_1).f3) ((rd_T75 l0 x5_1).f4) ((rd_T75 l0 x5_1).f5) ((rd_T75 l0 t396).f0) t405 t406 t407 t408 t409 _ A13.out).mono ?_
               rintro e w25 ⟨rfl, hb⟩
               refine ⟨_, rfl, ?_⟩
               have n0_ := Aside0.mk (Kd.R_below (by (with_reducible repeat (first | apply Kd.R_alloc | apply Kd.R_drewN | apply Kd.R_drew)); exact HO_4.out) hb)
               have n1_ := Aside0.mk (blk_below (g := gb398) (o := .cells #[.int .i64 ((rd_T75 l0 t396).f0), .int .i64 ((rd_T75 l0 t396).f1), .int .i64 ((rd_T75 l0 t396).f2), .int .i64 ((rd_T75 l0 t396).f3), .int .i64 ((rd_T75 l0 t396).f4), .bool ((rd_T75 l0 t396).f5)] 75 (0, 0)) (by (with_reducible repeat (first | refine blk_drewN ?_ _ | refine blk_drew ?_ | refine blk_alloc ?_ _)); exact BK398.out) hb)
               have n2_ := Aside0.mk (blk_below (g := gb410) (o := .cells #[.int .i64 0, .int .i64 0, .int .i64 0, .int .i64 0, .int .i64 0] 71 (0, 0)) (by (with_reducible repeat (first | refine blk_drewN ?_ _ | refine blk_drew ?_ | refine blk_alloc ?_ _)); exact BK410.out) hb)
               have n3_ := Aside0.mk (below_step (by repeat (first | (with_reducible first | exact HB.out | apply below_alloc | apply pw_below_drewN | apply below_drew1 | refine below_set ?_ GE398.out | refine below_set ?_ GE410.out) | exact HB.out)) hb)
               clear HO_4
               clear BK398
               clear BK410
               clear HB
               have HO_4 := n0_
               have BK398 := n1_
               have BK410 := n2_
               have HB := n3_
               clear n0_ n1_ n2_ n3_
               (try clear hb)
               (try clear hb2)
               (try clear hk)
               (try clear hi)
               refine hK.out _ _ ⟨(blk_cell BK398.out 0).trans rfl, (blk_cell BK398.out 1).trans rfl, (blk_cell BK398.out 2).trans rfl, (blk_cell BK398.out 3).trans rfl, (blk_cell BK398.out 4).trans rfl, (blk_cell BK398.out 5).trans rfl, ((HB.out.cell (World.block_lt_of_cell? w _ hw404_0)).trans hw404_0), ((HB.out.cell (World.block_lt_of_cell? w _ hw404_1)).trans hw404_1), ((HB.out.cell (World.block_lt_of_cell? w _ hw404_2)).trans hw404_2), ((HB.out.cell (World.block_lt_of_cell? w _ hw404_3)).trans hw404_3), ((HB.out.cell (World.block_lt_of_cell? w _ hw404_4)).trans hw404_4), ((HB.out.cell (World.block_lt_of_cell? w _ hw404_5)).trans hw404_5)⟩ (fun hHeld => ?_)
               clear hK K
               refine norm_ (a' := ?_) ?_ ?_
               rotate_left
               ·show Act.put _ (some 37) _ = _
                simp only [Act.put, List.setIfInBounds_toArray, List.set_cons_zero, List.set_cons_succ, i64_w, i32_w]
                rfl
               exact norm_ (by first | (simp only [putAll, Act.put, List.setIfInBounds_toArray, List.set_cons_zero, List.set_cons_succ]; done) | (simp only [putAll, Act.put, List.setIfInBounds_toArray, List.set_cons_zero, List.set_cons_succ]; rfl)) (hJ3_10_11 (gb410) _ ⟨hHeld, (by (with_reducible repeat (first | apply Kd.R_alloc | apply Kd.R_drewN | apply Kd.R_drew)); exact HO_4.out), (by (with_reducible repeat (first | refine blk_drewN ?_ _ | refine blk_drew ?_ | refine blk_alloc ?_ _)); exact BK398.out), (by (with_reducible repeat (first | refine blk_drewN ?_ _ | refine blk_drew ?_ | refine blk_alloc ?_ _)); exact BK410.out), GW410.out, GE410.out, NB398_410.out, NB410_398.out, (by repeat (first | (with_reducible first | exact HB.out | apply below_alloc | apply pw_below_drewN | apply below_drew1 | refine below_set ?_ GE398.out | refine below_set ?_ GE410.out) | exact HB.out))⟩)
              ·skip
               refine box_step ?hg (N := 8) ?hd (cs := #[.int .i64 0, .int .i64 0, .int .i64 0, .int .i64 0, .int .i64 0]) (t := 71) ?hr ?_; (case hd => rfl); (case hg => rfl); (case hr => first | (go_simp; done) | (go_simp; rfl))
               intro gb411 hg w25 hbox hb
               have n0_ := Aside0.mk (Kd.R_below (by (with_reducible repeat (first | apply Kd.R_alloc | apply Kd.R_drewN | apply Kd.R_drew)); exact HO_4.out) hb)
               have n1_ := Aside0.mk (blk_below (g := gb398) (o := .cells #[.int .i64 ((rd_T75 l0 t396).f0), .int .i64 ((rd_T75 l0 t396).f1), .int .i64 ((rd_T75 l0 t396).f2), .int .i64 ((rd_T75 l0 t396).f3), .int .i64 ((rd_T75 l0 t396).f4), .bool ((rd_T75 l0 t396).f5)] 75 (0, 0)) (by (with_reducible repeat (first | refine blk_drewN ?_ _ | refine blk_drew ?_ | refine blk_alloc ?_ _)); exact BK398.out) hb)
               have n2_ := Aside0.mk (blk_below (g := gb410) (o := .cells #[.int .i64 0, .int .i64 0, .int .i64 0, .int .i64 0, .int .i64 0] 71 (0, 0)) (by (with_reducible repeat (first | refine blk_drewN ?_ _ | refine blk_drew ?_ | refine blk_alloc ?_ _)); exact BK410.out) hb)
               have n3_ := Aside0.mk (below_step (by repeat (first | (with_reducible first | exact HB.out | apply below_alloc | apply pw_below_drewN | apply below_drew1 | refine below_set ?_ GE398.out | refine below_set ?_ GE410.out) | exact HB.out)) hb)
               have n4_ := Aside0.mk (hbox)
               have n5_ := Aside0.mk ((by rw [hg]; exact (below_size (by repeat (first | (with_reducible first | exact HB.out | apply below_alloc | apply pw_below_drewN | apply below_drew1 | refine below_set ?_ GE398.out | refine below_set ?_ GE410.out) | exact HB.out))) : w.heap.size ≤ gb411))
               have n6_ := Aside0.mk ((by rw [hg]; exact (below_size (by repeat (first | (with_reducible first | exact HB.out | apply below_alloc | apply pw_below_drewN | apply below_drew1 | refine below_set ?_ GE398.out | refine below_set ?_ GE410.out) | exact HB.out))) : w.heap.size ≤ gb411))
               have n7_ := Aside0.mk ((by rw [hg]; exact Nat.ne_of_lt (blk_lt (g := gb398) (o := .cells #[.int .i64 ((rd_T75 l0 t396).f0), .int .i64 ((rd_T75 l0 t396).f1), .int .i64 ((rd_T75 l0 t396).f2), .int .i64 ((rd_T75 l0 t396).f3), .int .i64 ((rd_T75 l0 t396).f4), .bool ((rd_T75 l0 t396).f5)] 75 (0, 0)) (by (with_reducible repeat (first | refine blk_drewN ?_ _ | refine blk_drew ?_ | refine blk_alloc ?_ _)); exact BK398.out)) : gb398 ≠ gb411))
               have n8_ := Aside0.mk ((by rw [hg]; exact Nat.ne_of_gt (blk_lt (g := gb398) (o := .cells #[.int .i64 ((rd_T75 l0 t396).f0), .int .i64 ((rd_T75 l0 t396).f1), .int .i64 ((rd_T75 l0 t396).f2), .int .i64 ((rd_T75 l0 t396).f3), .int .i64 ((rd_T75 l0 t396).f4), .bool ((rd_T75 l0 t396).f5)] 75 (0, 0)) (by (with_reducible repeat (first | refine blk_drewN ?_ _ | refine blk_drew ?_ | refine blk_alloc ?_ _)); exact BK398.out)) : gb411 ≠ gb398))
               have n9_ := Aside0.mk ((by rw [hg]; exact Nat.ne_of_lt (blk_lt (g := gb410) (o := .cells #[.int .i64 0, .int .i64 0, .int .i64 0, .int .i64 0, .int .i64 0] 71 (0, 0)) (by (with_reducible repeat (first | refine blk_drewN ?_ _ | refine blk_drew ?_ | refine blk_alloc ?_ _)); exact BK410.out)) : gb410 ≠ gb411))
               have n10_ := Aside0.mk ((by rw [hg]; exact Nat.ne_of_gt (blk_lt (g := gb410) (o := .cells #[.int .i64 0, .int .i64 0, .int .i64 0, .int .i64 0, .int .i64 0] 71 (0, 0)) (by (with_reducible repeat (first | refine blk_drewN ?_ _ | refine blk_drew ?_ | refine blk_alloc ?_ _)); exact BK410.out)) : gb411 ≠ gb410))
               clear HO_4
               clear BK398
               clear BK410
               clear HB
               have HO_4 := n0_
               have BK398 := n1_
               have BK410 := n2_
               have HB := n3_
               have BK411 := n4_
               have GW411 := n5_
               have GE411 := n6_
               have NB398_411 := n7_
               have NB411_398 := n8_
               have NB410_411 := n9_
               have NB411_410 := n10_
               clear n0_ n1_ n2_ n3_ n4_ n5_ n6_ n7_ n8_ n9_ n10_
               clear hb hbox hg
               refine hK.out _ _ ⟨(blk_cell BK398.out 0).trans rfl, (blk_cell BK398.out 1).trans rfl, (blk_cell BK398.out 2).trans rfl, (blk_cell BK398.out 3).trans rfl, (blk_cell BK398.out 4).trans rfl, (blk_cell BK398.out 5).trans rfl, ((HB.out.cell (World.block_lt_of_cell? w _ hw404_0)).trans hw404_0), ((HB.out.cell (World.block_lt_of_cell? w _ hw404_1)).trans hw404_1), ((HB.out.cell (World.block_lt_of_cell? w _ hw404_2)).trans hw404_2), ((HB.out.cell (World.block_lt_of_cell? w _ hw404_3)).trans hw404_3), ((HB.out.cell (World.block_lt_of_cell? w _ hw404_4)).trans hw404_4), ((HB.out.cell (World.block_lt_of_cell? w _ hw404_5)).trans hw404_5)⟩ (fun hHeld => ?_)
               clear hK K
               refine norm_ (a' := ?_) ?_ ?_
               rotate_left
               ·show Act.put _ (some 8) _ = _
                simp only [Act.put, List.setIfInBounds_toArray, List.set_cons_zero, List.set_cons_succ, i64_w, i32_w]
                rfl
               exact norm_ (by first | (simp only [putAll, Act.put, List.setIfInBounds_toArray, List.set_cons_zero, List.set_cons_succ]; done) | (simp only [putAll, Act.put, List.setIfInBounds_toArray, List.set_cons_zero, List.set_cons_succ]; rfl)) (hJ3_11_12 (gb410, gb411) _ ⟨hHeld, (by (with_reducible repeat (first | apply Kd.R_alloc | apply Kd.R_drewN | apply Kd.R_drew)); exact HO_4.out), (by (with_reducible repeat (first | refine blk_drewN ?_ _ | refine blk_drew ?_ | refine blk_alloc ?_ _)); exact BK398.out), (by (with_reducible repeat (first | refine blk_drewN ?_ _ | refine blk_drew ?_ | refine blk_alloc ?_ _)); exact BK410.out), (by (with_reducible repeat (first | refine blk_drewN ?_ _ | refine blk_drew ?_ | refine blk_alloc ?_ _)); exact BK411.out), GW410.out, GE410.out, NB398_410.out, NB410_398.out, NB411_410.out, NB410_411.out, GW411.out, GE411.out, NB398_411.out, NB411_398.out, (by repeat (first | (with_reducible first | exact HB.out | apply below_alloc | apply pw_below_drewN | apply below_drew1 | refine below_set ?_ GE398.out | refine below_set ?_ GE410.out | refine below_set ?_ GE411.out) | exact HB.out))⟩)
            ·skip
             rintro _ w24 ⟨hS_, h0_, h1_, h2_⟩
             have n0_ : Aside0 (Kd.R (Kd.int .i64) 3 w24 w.heap.size (fun _ => True) u4 x4_1) := ⟨h0_⟩
             have n1_ : Aside0 (w24.heap[gb398]? = some (.cells #[.int .i64 ((rd_T75 l0 t396).f0), .int .i64 ((rd_T75 l0 t396).f1), .int .i64 ((rd_T75 l0 t396).f2), .int .i64 ((rd_T75 l0 t396).f3), .int .i64 ((rd_T75 l0 t396).f4), .bool ((rd_T75 l0 t396).f5)] 75 (0, 0))) := ⟨h1_⟩
             have n2_ : Aside0 (Below w.heap.size w w24) := ⟨h2_⟩
             clear HO_4
             clear BK398
             clear HB
             clear h0_ h1_ h2_
             have HO_4 := n0_
             have BK398 := n1_
             have HB := n2_
             clear n0_ n1_ n2_
             have hHeld : w24.cell? ⟨gb398, 0, none⟩ = some (.int .i64 ((rd_T75 l0 t396).f0)) ∧ w24.cell? ⟨gb398, 1, none⟩ = some (.int .i64 ((rd_T75 l0 t396).f1)) ∧ w24.cell? ⟨gb398, 2, none⟩ = some (.int .i64 ((rd_T75 l0 t396).f2)) ∧ w24.cell? ⟨gb398, 3, none⟩ = some (.int .i64 ((rd_T75 l0 t396).f3)) ∧ w24.cell? ⟨gb398, 4, none⟩ = some (.int .i64 ((rd_T75 l0 t396).f4)) ∧ w24.cell? ⟨gb398, 5, none⟩ = some (.bool ((rd_T75 l0 t396).f5)) ∧ w24.cell? (ad397.add ((x5_1).toNat * 6)) = some (.int .i64 ((rd_T75 l0 x5_1).f0)) ∧ w24.cell? ⟨(ad397.add ((x5_1).toNat * 6)).block, (ad397.add ((x5_1).toNat * 6)).off + 1, none⟩ = some (.int .i64 ((rd_T75 l0 x5_1).f1)) ∧ w24.cell? ⟨(ad397.add ((x5_1).toNat * 6)).block, (ad397.add ((x5_1).toNat * 6)).off + 2, none⟩ = some (.int .i64 ((rd_T75 l0 x5_1).f2)) ∧ w24.cell? ⟨(ad397.add ((x5_1).toNat * 6)).block, (ad397.add ((x5_1).toNat * 6)).off + 3, none⟩ = some (.int .i64 ((rd_T75 l0 x5_1).f3)) ∧ w24.cell? ⟨(ad397.add ((x5_1).toNat * 6)).block, (ad397.add ((x5_1).toNat * 6)).off + 4, none⟩ = some (.int .i64 ((rd_T75 l0 x5_1).f4)) ∧ w24.cell? ⟨(ad397.add ((x5_1).toNat * 6)).block, (ad397.add ((x5_1).toNat * 6)).off + 5, none⟩ = some (.bool ((rd_T75 l0 x5_1).f5)) := hS_
             refine norm_ (a' := ?_) ?_ ?_
             rotate_left
             ·simp only [putAll, Act.put, List.setIfInBounds_toArray, List.set_cons_zero, List.set_cons_succ]
              rfl
             refine two_ (i := 11) (j := 12) (Ni := some 7) (Nj := some 8) #[true, true, true, true, true, true, true, true, true, true, true, true, false, false, false] #[true, true, true, true, true, true, true, true, true, true, true, false, true, false, false] rfl rfl rfl rfl (two_of HT_.out (by kernel_rfl)) (by decide) (by decide) (fun K hK => ?_) (fun K hK => ?_)
             ·skip
              refine box_step ?hg (N := 7) ?hd (cs := #[.int .i64 0, .int .i64 0, .int .i64 0, .int .i64 0, .int .i64 0]) (t := 71) ?hr ?_; (case hd => rfl); (case hg => rfl); (case hr => first | (go_simp; done) | (go_simp; rfl))
              intro gb410 hg w25 hbox hb
              have n0_ := Aside0.mk (Kd.R_below (by (with_reducible repeat (first | apply Kd.R_alloc | apply Kd.R_drewN | apply Kd.R_drew)); exact HO_4.out) hb)
              have n1_ := Aside0.mk (blk_below (g := gb398) (o := .cells #[.int .i64 ((rd_T75 l0 t396).f0), .int .i64 ((rd_T75 l0 t396).f1), .int .i64 ((rd_T75 l0 t396).f2), .int .i64 ((rd_T75 l0 t396).f3), .int .i64 ((rd_T75 l0 t396).f4), .bool ((rd_T75 l0 t396).f5)] 75 (0, 0)) (by (with_reducible repeat (first | refine blk_drewN ?_ _ | refine blk_drew ?_ | refine blk_alloc ?_ _)); exact BK398.out) hb)
              have n2_ := Aside0.mk (below_step (by repeat (first | (with_reducible first | exact HB.out | apply below_alloc | apply pw_below_drewN | apply below_drew1 | refine below_set ?_ GE398.out) | exact HB.out)) hb)
              have n3_ := Aside0.mk (hbox)
              have n4_ := Aside0.mk ((by rw [hg]; exact (below_size (by repeat (first | (with_reducible first | exact HB.out | apply below_alloc | apply pw_below_drewN | apply below_drew1 | refine below_set ?_ GE398.out) | exact HB.out))) : w.heap.size ≤ gb410))
              have n5_ := Aside0.mk ((by rw [hg]; exact (below_size (by repeat (first | (with_reducible first | exact HB.out | apply below_alloc | apply pw_below_drewN | apply below_drew1 | refine below_set ?_ GE398.out) | exact HB.out))) : w.heap.size ≤ gb410))
              have n6_ := Aside0.mk ((by rw [hg]; exact Nat.ne_of_lt (blk_lt (g := gb398) (o := .cells #[.int .i64 ((rd_T75 l0 t396).f0), .int .i64 ((rd_T75 l0 t396).f1), .int .i64 ((rd_T75 l0 t396).f2), .int .i64 ((rd_T75 l0 t396).f3), .int .i64 ((rd_T75 l0 t396).f4), .bool ((rd_T75 l0 t396).f5)] 75 (0, 0)) (by (with_reducible repeat (first | refine blk_drewN ?_ _ | refine blk_drew ?_ | refine blk_alloc ?_ _)); exact BK398.out)) : gb398 ≠ gb410))
              have n7_ := Aside0.mk ((by rw [hg]; exact Nat.ne_of_gt (blk_lt (g := gb398) (o := .cells #[.int .i64 ((rd_T75 l0 t396).f0), .int .i64 ((rd_T75 l0 t396).f1), .int .i64 ((rd_T75 l0 t396).f2), .int .i64 ((rd_T75 l0 t396).f3), .int .i64 ((rd_T75 l0 t396).f4), .bool ((rd_T75 l0 t396).f5)] 75 (0, 0)) (by (with_reducible repeat (first | refine blk_drewN ?_ _ | refine blk_drew ?_ | refine blk_alloc ?_ _)); exact BK398.out)) : gb410 ≠ gb398))
              clear HO_4
              clear BK398
              clear HB
              have HO_4 := n0_
              have BK398 := n1_
              have HB := n2_
              have BK410 := n3_
              have GW410 := n4_
              have GE410 := n5_
              have NB398_410 := n6_
              have NB410_398 := n7_
              clear n0_ n1_ n2_ n3_ n4_ n5_ n6_ n7_
              clear hb hbox hg
              refine hK.out _ _ ⟨(blk_cell BK398.out 0).trans rfl, (blk_cell BK398.out 1).trans rfl, (blk_cell BK398.out 2).trans rfl, (blk_cell BK398.out 3).trans rfl, (blk_cell BK398.out 4).trans rfl, (blk_cell BK398.out 5).trans rfl, ((HB.out.cell (World.block_lt_of_cell? w _ hw404_0)).trans hw404_0), ((HB.out.cell (World.block_lt_of_cell? w _ hw404_1)).trans hw404_1), ((HB.out.cell (World.block_lt_of_cell? w _ hw404_2)).trans hw404_2), ((HB.out.cell (World.block_lt_of_cell? w _ hw404_3)).trans hw404_3), ((HB.out.cell (World.block_lt_of_cell? w _ hw404_4)).trans hw404_4), ((HB.out.cell (World.block_lt_of_cell? w _ hw404_5)).trans hw404_5)⟩ (fun hHeld => ?_)
              clear hK K
              refine norm_ (a' := ?_) ?_ ?_
              rotate_left
              ·show Act.put _ (some 7) _ = _
               simp only [Act.put, List.setIfInBounds_toArray, List.set_cons_zero, List.set_cons_succ, i64_w, i32_w]
               rfl
              exact norm_ (by first | (simp only [putAll, Act.put, List.setIfInBounds_toArray, List.set_cons_zero, List.set_cons_succ]; done) | (simp only [putAll, Act.put, List.setIfInBounds_toArray, List.set_cons_zero, List.set_cons_succ]; rfl)) (hJ3_10_11 (gb410) _ ⟨hHeld, (by (with_reducible repeat (first | apply Kd.R_alloc | apply Kd.R_drewN | apply Kd.R_drew)); exact HO_4.out), (by (with_reducible repeat (first | refine blk_drewN ?_ _ | refine blk_drew ?_ | refine blk_alloc ?_ _)); exact BK398.out), (by (with_reducible repeat (first | refine blk_drewN ?_ _ | refine blk_drew ?_ | refine blk_alloc ?_ _)); exact BK410.out), GW410.out, GE410.out, NB398_410.out, NB410_398.out, (by repeat (first | (with_reducible first | exact HB.out | apply below_alloc | apply pw_below_drewN | apply below_drew1 | refine below_set ?_ GE398.out | refine below_set ?_ GE410.out) | exact HB.out))⟩)
             ·skip
              refine box_step ?hg (N := 8) ?hd (cs := #[.int .i64 0, .int .i64 0, .int .i64 0, .int .i64 0, .int .i64 0]) (t := 71) ?hr ?_; (case hd => rfl); (case hg => rfl); (case hr => first | (go_simp; done) | (go_simp; rfl))
              intro gb411 hg w25 hbox hb
              have n0_ := Aside0.mk (Kd.R_below (by (with_reducible repeat (first | apply Kd.R_alloc | apply Kd.R_drewN | apply Kd.R_drew)); exact HO_4.out) hb)
              have n1_ := Aside0.mk (blk_below (g := gb398) (o := .cells #[.int .i64 ((rd_T75 l0 t396).f0), .int .i64 ((rd_T75 l0 t396).f1), .int .i64 ((rd_T75 l0 t396).f2), .int .i64 ((rd_T75 l0 t396).f3), .int .i64 ((rd_T75 l0 t396).f4), .bool ((rd_T75 l0 t396).f5)] 75 (0, 0)) (by (with_reducible repeat (first | refine blk_drewN ?_ _ | refine blk_drew ?_ | refine blk_alloc ?_ _)); exact BK398.out) hb)
              have n2_ := Aside0.mk (below_step (by repeat (first | (with_reducible first | exact HB.out | apply below_alloc | apply pw_below_drewN | apply below_drew1 | refine below_set ?_ GE398.out) | exact HB.out)) hb)
              have n3_ := Aside0.mk (hbox)
              have n4_ := Aside0.mk ((by rw [hg]; exact (below_size (by repeat (first | (with_reducible first | exact HB.out | apply below_alloc | apply pw_below_drewN | apply below_drew1 | refine below_set ?_ GE398.out) | exact HB.out))) : w.heap.size ≤ gb411))
              have n5_ := Aside0.mk ((by rw [hg]; exact (below_size (by repeat (first | (with_reducible first | exact HB.out | apply below_alloc | apply pw_below_drewN | apply below_drew1 | refine below_set ?_ GE398.out) | exact HB.out))) : w.heap.size ≤ gb411))
              have n6_ := Aside0.mk ((by rw [hg]; exact Nat.ne_of_lt (blk_lt (g := gb398) (o := .cells #[.int .i64 ((rd_T75 l0 t396).f0), .int .i64 ((rd_T75 l0 t396).f1), .int .i64 ((rd_T75 l0 t396).f2), .int .i64 ((rd_T75 l0 t396).f3), .int .i64 ((rd_T75 l0 t396).f4), .bool ((rd_T75 l0 t396).f5)] 75 (0, 0)) (by (with_reducible repeat (first | refine blk_drewN ?_ _ | refine blk_drew ?_ | refine blk_alloc ?_ _)); exact BK398.out)) : gb398 ≠ gb411))
              have n7_ := Aside0.mk ((by rw [hg]; exact Nat.ne_of_gt (blk_lt (g := gb398) (o := .cells #[.int .i64 ((rd_T75 l0 t396).f0), .int .i64 ((rd_T75 l0 t396).f1), .int .i64 ((rd_T75 l0 t396).f2), .int .i64 ((rd_T75 l0 t396).f3), .int .i64 ((rd_T75 l0 t396).f4), .bool ((rd_T75 l0 t396).f5)] 75 (0, 0)) (by (with_reducible repeat (first | refine blk_drewN ?_ _ | refine blk_drew ?_ | refine blk_alloc ?_ _)); exact BK398.out)) : gb411 ≠ gb398))
              clear HO_4
              clear BK398
              clear HB
              have HO_4 := n0_
              have BK398 := n1_
              have HB := n2_
              have BK411 := n3_
              have GW411 := n4_
              have GE411 := n5_
              have NB398_411 := n6_
              have NB411_398 := n7_
              clear n0_ n1_ n2_ n3_ n4_ n5_ n6_ n7_
              clear hb hbox hg
              refine hK.out _ _ ⟨(blk_cell BK398.out 0).trans rfl, (blk_cell BK398.out 1).trans rfl, (blk_cell BK398.out 2).trans rfl, (blk_cell BK398.out 3).trans rfl, (blk_cell BK398.out 4).trans rfl, (blk_cell BK398.out 5).trans rfl, ((HB.out.cell (World.block_lt_of_cell? w _ hw404_0)).trans hw404_0), ((HB.out.cell (World.block_lt_of_cell? w _ hw404_1)).trans hw404_1), ((HB.out.cell (World.block_lt_of_cell? w _ hw404_2)).trans hw404_2), ((HB.out.cell (World.block_lt_of_cell? w _ hw404_3)).trans hw404_3), ((HB.out.cell (World.block_lt_of_cell? w _ hw404_4)).trans hw404_4), ((HB.out.cell (World.block_lt_of_cell? w _ hw404_5)).trans hw404_5)⟩ (fun hHeld => ?_)
              clear hK K
              refine norm_ (a' := ?_) ?_ ?_
              rotate_left
              ·show Act.put _ (some 8) _ = _
               simp only [Act.put, List.setIfInBounds_toArray, List.set_cons_zero, List.set_cons_succ, i64_w, i32_w]
               rfl
              exact norm_ (by first | (simp only [putAll, Act.put, List.setIfInBounds_toArray, List.set_cons_zero, List.set_cons_succ]; done) | (simp only [putAll, Act.put, List.setIfInBounds_toArray, List.set_cons_zero, List.set_cons_succ]; rfl)) (hJ3_10_12 (gb411) _ ⟨hHeld, (by (with_reducible repeat (first | apply Kd.R_alloc | apply Kd.R_drewN | apply Kd.R_drew)); exact HO_4.out), (by (with_reducible repeat (first | refine blk_drewN ?_ _ | refine blk_drew ?_ | refine blk_alloc ?_ _)); exact BK398.out), (by (with_reducible repeat (first | refine blk_drewN ?_ _ | refine blk_drew ?_ | refine blk_alloc ?_ _)); exact BK411.out), GW411.out, GE411.out, NB398_411.out, NB411_398.out, (by repeat (first | (with_reducible first | exact HB.out | apply below_alloc | apply pw_below_drewN | apply below_drew1 | refine below_set ?_ GE398.out | refine below_set ?_ GE411.out) | exact HB.out))⟩)
           ·skip
            rintro ⟨gb410, gb411⟩ w25 ⟨hS_, h0_, h1_, h2_, h3_, h4_, h5_, h6_, h7_, h8_, h9_, h10_, h11_, h12_, h13_, h14_⟩
            have n0_ : Aside0 (Kd.R (Kd.int .i64) 3 w25 w.heap.size (fun _ => True) u4 x4_1) := ⟨h0_⟩
            have n1_ : Aside0 (w25.heap[gb398]? = some (.cells #[.int .i64 ((rd_T75 l0 t396).f0), .int .i64 ((rd_T75 l0 t396).f1), .int .i64 ((rd_T75 l0 t396).f2), .int .i64 ((rd_T75 l0 t396).f3), .int .i64 ((rd_T75 l0 t396).f4), .bool ((rd_T75 l0 t396).f5)] 75 (0, 0))) := ⟨h1_⟩
            have n2_ : Aside0 (w25.heap[gb410]? = some (.cells #[.int .i64 0, .int .i64 0, .int .i64 0, .int .i64 0, .int .i64 0] 71 (0, 0))) := ⟨h2_⟩
            have n3_ : Aside0 (w25.heap[gb411]? = some (.cells #[.int .i64 0, .int .i64 0, .int .i64 0, .int .i64 0, .int .i64 0] 71 (0, 0))) := ⟨h3_⟩
            have n4_ : Aside0 (w.heap.size ≤ gb410) := ⟨h4_⟩
            have n5_ : Aside0 (w.heap.size ≤ gb410) := ⟨h5_⟩
            have n6_ : Aside0 (gb398 ≠ gb410) := ⟨h6_⟩
            have n7_ : Aside0 (gb410 ≠ gb398) := ⟨h7_⟩
            have n8_ : Aside0 (gb411 ≠ gb410) := ⟨h8_⟩
            have n9_ : Aside0 (gb410 ≠ gb411) := ⟨h9_⟩
            have n10_ : Aside0 (w.heap.size ≤ gb411) := ⟨h10_⟩
            have n11_ : Aside0 (w.heap.size ≤ gb411) := ⟨h11_⟩
            have n12_ : Aside0 (gb398 ≠ gb411) := ⟨h12_⟩
            have n13_ : Aside0 (gb411 ≠ gb398) := ⟨h13_⟩
            have n14_ : Aside0 (Below w.heap.size w w25) := ⟨h14_⟩
            clear HO_4
            clear BK398
            clear HB
            clear h0_ h1_ h2_ h3_ h4_ h5_ h6_ h7_ h8_ h9_ h10_ h11_ h12_ h13_ h14_
            have HO_4 := n0_
            have BK398 := n1_
            have BK410 := n2_
            have BK411 := n3_
            have GW410 := n4_
            have GE410 := n5_
            have NB398_410 := n6_
            have NB410_398 := n7_
            have NB411_410 := n8_
            have NB410_411 := n9_
            have GW411 := n10_
            have GE411 := n11_
            have NB398_411 := n12_
            have NB411_398 := n13_
            have HB := n14_
            clear n0_ n1_ n2_ n3_ n4_ n5_ n6_ n7_ n8_ n9_ n10_ n11_ n12_ n13_ n14_
            have hHeld : w25.cell? ⟨gb398, 0, none⟩ = some (.int .i64 ((rd_T75 l0 t396).f0)) ∧ w25.cell? ⟨gb398, 1, none⟩ = some (.int .i64 ((rd_T75 l0 t396).f1)) ∧ w25.cell? ⟨gb398, 2, none⟩ = some (.int .i64 ((rd_T75 l0 t396).f2)) ∧ w25.cell? ⟨gb398, 3, none⟩ = some (.int .i64 ((rd_T75 l0 t396).f3)) ∧ w25.cell? ⟨gb398, 4, none⟩ = some (.int .i64 ((rd_T75 l0 t396).f4)) ∧ w25.cell? ⟨gb398, 5, none⟩ = some (.bool ((rd_T75 l0 t396).f5)) ∧ w25.cell? (ad397.add ((x5_1).toNat * 6)) = some (.int .i64 ((rd_T75 l0 x5_1).f0)) ∧ w25.cell? ⟨(ad397.add ((x5_1).toNat * 6)).block, (ad397.add ((x5_1).toNat * 6)).off + 1, none⟩ = some (.int .i64 ((rd_T75 l0 x5_1).f1)) ∧ w25.cell? ⟨(ad397.add ((x5_1).toNat * 6)).block, (ad397.add ((x5_1).toNat * 6)).off + 2, none⟩ = some (.int .i64 ((rd_T75 l0 x5_1).f2)) ∧ w25.cell? ⟨(ad397.add ((x5_1).toNat * 6)).block, (ad397.add ((x5_1).toNat * 6)).off + 3, none⟩ = some (.int .i64 ((rd_T75 l0 x5_1).f3)) ∧ w25.cell? ⟨(ad397.add ((x5_1).toNat * 6)).block, (ad397.add ((x5_1).toNat * 6)).off + 4, none⟩ = some (.int .i64 ((rd_T75 l0 x5_1).f4)) ∧ w25.cell? ⟨(ad397.add ((x5_1).toNat * 6)).block, (ad397.add ((x5_1).toNat * 6)).off + 5, none⟩ = some (.bool ((rd_T75 l0 x5_1).f5)) := hS_
            refine norm_ (a' := ?_) ?_ ?_
            rotate_left
            ·simp only [putAll, Act.put, List.setIfInBounds_toArray, List.set_cons_zero, List.set_cons_succ]
             rfl
            refine one_ (i := 10) (N := some 37) #[true, true, true, true, true, true, true, true, true, true, true, true, true, false, false] rfl rfl (one_of HT_.out (by kernel_rfl)) (by decide) (fun K hK => ?_)
            refine goes_ Try.func81 (by kernel_rfl) rfl #[.agg #[.int .i64 ((rd_T75 l0 x5_1).f0), .int .i64 ((rd_T75 l0 x5_1).f1), .int .i64 ((rd_T75 l0 x5_1).f2), .int .i64 ((rd_T75 l0 x5_1).f3), .int .i64 ((rd_T75 l0 x5_1).f4), .bool ((rd_T75 l0 x5_1).f5)], .int .i64 ((rd_T75 l0 t396).f0)] (by rfl) rfl rfl (by (try simp only [List.map_toArray, List.map_cons, List.map_nil]); first | done | rfl | (simp only [List.length_drop, List.length_take]; rfl)) ?_
            with_reducible refine (spec_l7Turned.calls ((rd_T75 l0 x5_1).f0) ((rd_T75 l0 x5_1).f1) ((rd_T75 l0 x5_1).f2) ((rd_T75 l0 x5_1).f3) ((rd_T75 l0 x5_1).f4) ((rd_T75 l0 x5_1).f5) ((rd_T75 l0 t396).f0) t405 t406 t407 t408 t409 _ A13.out).mono ?_
            rintro e w26 ⟨rfl, hb⟩
            refine ⟨_, rfl, ?_⟩
            have n0_ := Aside0.mk (Kd.R_below (by (with_reducible repeat (first | apply Kd.R_alloc | apply Kd.R_drewN | apply Kd.R_drew)); exact HO_4.out) hb)
            have n1_ := Aside0.mk (blk_below (g := gb398) (o := .cells #[.int .i64 ((rd_T75 l0 t396).f0), .int .i64 ((rd_T75 l0 t396).f1), .int .i64 ((rd_T75 l0 t396).f2), .int .i64 ((rd_T75 l0 t396).f3), .int .i64 ((rd_T75 l0 t396).f4), .bool ((rd_T75 l0 t396).f5)] 75 (0, 0)) (by (with_reducible repeat (first | refine blk_drewN ?_ _ | refine blk_drew ?_ | refine blk_alloc ?_ _)); exact BK398.out) hb)
            have n2_ := Aside0.mk (blk_below (g := gb410) (o := .cells #[.int .i64 0, .int .i64 0, .int .i64 0, .int .i64 0, .int .i64 0] 71 (0, 0)) (by (with_reducible repeat (first | refine blk_drewN ?_ _ | refine blk_drew ?_ | refine blk_alloc ?_ _)); exact BK410.out) hb)
            have n3_ := Aside0.mk (blk_below (g := gb411) (o := .cells #[.int .i64 0, .int .i64 0, .int .i64 0, .int .i64 0, .int .i64 0] 71 (0, 0)) (by (with_reducible repeat (first | refine blk_drewN ?_ _ | refine blk_drew ?_ | refine blk_alloc ?_ _)); exact BK411.out) hb)
            have n4_ := Aside0.mk (below_step (by repeat (first | (with_reducible first | exact HB.out | apply below_alloc | apply pw_below_drewN | apply below_drew1 | refine below_set ?_ GE398.out | refine below_set ?_ GE410.out | refine below_set ?_ GE411.out) | exact HB.out)) hb)
            clear HO_4
            clear BK398
            clear BK410
            clear BK411
            clear HB
            have HO_4 := n0_
            have BK398 := n1_
            have BK410 := n2_
            have BK411 := n3_
            have HB := n4_
            clear n0_ n1_ n2_ n3_ n4_
            (try clear hb)
            (try clear hb2)
            (try clear hk)
            (try clear hi)
            refine hK.out _ _ ⟨(blk_cell BK398.out 0).trans rfl, (blk_cell BK398.out 1).trans rfl, (blk_cell BK398.out 2).trans rfl, (blk_cell BK398.out 3).trans rfl, (blk_cell BK398.out 4).trans rfl, (blk_cell BK398.out 5).trans rfl, ((HB.out.cell (World.block_lt_of_cell? w _ hw404_0)).trans hw404_0), ((HB.out.cell (World.block_lt_of_cell? w _ hw404_1)).trans hw404_1), ((HB.out.cell (World.block_lt_of_cell? w _ hw404_2)).trans hw404_2), ((HB.out.cell (World.block_lt_of_cell? w _ hw404_3)).trans hw404_3), ((HB.out.cell (World.block_lt_of_cell? w _ hw404_4)).trans hw404_4), ((HB.out.cell (World.block_lt_of_cell? w _ hw404_5)).trans hw404_5)⟩ (fun hHeld => ?_)
            clear hK K
            refine norm_ (a' := ?_) ?_ ?_
            rotate_left
            ·show Act.put _ (some 37) _ = _
             simp only [Act.put, List.setIfInBounds_toArray, List.set_cons_zero, List.set_cons_succ, i64_w, i32_w]
             rfl
            exact norm_ (by first | (simp only [putAll, Act.put, List.setIfInBounds_toArray, List.set_cons_zero, List.set_cons_succ]; done) | (simp only [putAll, Act.put, List.setIfInBounds_toArray, List.set_cons_zero, List.set_cons_succ]; rfl)) (hJ3_10_11_12 (gb410, gb411) _ ⟨hHeld, (by (with_reducible repeat (first | apply Kd.R_alloc | apply Kd.R_drewN | apply Kd.R_drew)); exact HO_4.out), (by (with_reducible repeat (first | refine blk_drewN ?_ _ | refine blk_drew ?_ | refine blk_alloc ?_ _)); exact BK398.out), (by (with_reducible repeat (first | refine blk_drewN ?_ _ | refine blk_drew ?_ | refine blk_alloc ?_ _)); exact BK410.out), (by (with_reducible repeat (first | refine blk_drewN ?_ _ | refine blk_drew ?_ | refine blk_alloc ?_ _)); exact BK411.out), GW410.out, GE410.out, NB398_410.out, NB410_398.out, NB411_410.out, NB410_411.out, GW411.out, GE411.out, NB398_411.out, NB411_398.out, (by repeat (first | (with_reducible first | exact HB.out | apply below_alloc | apply pw_below_drewN | apply below_drew1 | refine below_set ?_ GE398.out | refine below_set ?_ GE410.out | refine below_set ?_ GE411.out) | exact HB.out))⟩)
          ·skip
           rintro gb411 w25 ⟨hS_, h0_, h1_, h2_, h3_, h4_, h5_, h6_, h7_⟩
           have n0_ : Aside0 (Kd.R (Kd.int .i64) 3 w25 w.heap.size (fun _ => True) u4 x4_1) := ⟨h0_⟩
           have n1_ : Aside0 (w25.heap[gb398]? = some (.cells #[.int .i64 ((rd_T75 l0 t396).f0), .int .i64 ((rd_T75 l0 t396).f1), .int .i64 ((rd_T75 l0 t396).f2), .int .i64 ((rd_T75 l0 t396).f3), .int .i64 ((rd_T75 l0 t396).f4), .bool ((rd_T75 l0 t396).f5)] 75 (0, 0))) := ⟨h1_⟩
           have n2_ : Aside0 (w25.heap[gb411]? = some (.cells #[.int .i64 0, .int .i64 0, .int .i64 0, .int .i64 0, .int .i64 0] 71 (0, 0))) := ⟨h2_⟩
           have n3_ : Aside0 (w.heap.size ≤ gb411) := ⟨h3_⟩
           have n4_ : Aside0 (w.heap.size ≤ gb411) := ⟨h4_⟩
           have n5_ : Aside0 (gb398 ≠ gb411) := ⟨h5_⟩
           have n6_ : Aside0 (gb411 ≠ gb398) := ⟨h6_⟩
           have n7_ : Aside0 (Below w.heap.size w w25) := ⟨h7_⟩
           clear HO_4
           clear BK398
           clear HB
           clear h0_ h1_ h2_ h3_ h4_ h5_ h6_ h7_
           have HO_4 := n0_
           have BK398 := n1_
           have BK411 := n2_
           have GW411 := n3_
           have GE411 := n4_
           have NB398_411 := n5_
           have NB411_398 := n6_
           have HB := n7_
           clear n0_ n1_ n2_ n3_ n4_ n5_ n6_ n7_
           have hHeld : w25.cell? ⟨gb398, 0, none⟩ = some (.int .i64 ((rd_T75 l0 t396).f0)) ∧ w25.cell? ⟨gb398, 1, none⟩ = some (.int .i64 ((rd_T75 l0 t396).f1)) ∧ w25.cell? ⟨gb398, 2, none⟩ = some (.int .i64 ((rd_T75 l0 t396).f2)) ∧ w25.cell? ⟨gb398, 3, none⟩ = some (.int .i64 ((rd_T75 l0 t396).f3)) ∧ w25.cell? ⟨gb398, 4, none⟩ = some (.int .i64 ((rd_T75 l0 t396).f4)) ∧ w25.cell? ⟨gb398, 5, none⟩ = some (.bool ((rd_T75 l0 t396).f5)) ∧ w25.cell? (ad397.add ((x5_1).toNat * 6)) = some (.int .i64 ((rd_T75 l0 x5_1).f0)) ∧ w25.cell? ⟨(ad397.add ((x5_1).toNat * 6)).block, (ad397.add ((x5_1).toNat * 6)).off + 1, none⟩ = some (.int .i64 ((rd_T75 l0 x5_1).f1)) ∧ w25.cell? ⟨(ad397.add ((x5_1).toNat * 6)).block, (ad397.add ((x5_1).toNat * 6)).off + 2, none⟩ = some (.int .i64 ((rd_T75 l0 x5_1).f2)) ∧ w25.cell? ⟨(ad397.add ((x5_1).toNat * 6)).block, (ad397.add ((x5_1).toNat * 6)).off + 3, none⟩ = some (.int .i64 ((rd_T75 l0 x5_1).f3)) ∧ w25.cell? ⟨(ad397.add ((x5_1).toNat * 6)).block, (ad397.add ((x5_1).toNat * 6)).off + 4, none⟩ = some (.int .i64 ((rd_T75 l0 x5_1).f4)) ∧ w25.cell? ⟨(ad397.add ((x5_1).toNat * 6)).block, (ad397.add ((x5_1).toNat * 6)).off + 5, none⟩ = some (.bool ((rd_T75 l0 x5_1).f5)) := hS_
           refine norm_ (a' := ?_) ?_ ?_
           rotate_left
           ·simp only [putAll, Act.put, List.setIfInBounds_toArray, List.set_cons_zero, List.set_cons_succ]
            rfl
           refine one_ (i := 11) (N := some 7) #[true, true, true, true, true, true, true, true, true, true, true, true, true, false, false] rfl rfl (one_of HT_.out (by kernel_rfl)) (by decide) (fun K hK => ?_)
           refine box_step ?hg (N := 7) ?hd (cs := #[.int .i64 0, .int .i64 0, .int .i64 0, .int .i64 0, .int .i64 0]) (t := 71) ?hr ?_; (case hd => rfl); (case hg => rfl); (case hr => first | (go_simp; done) | (go_simp; rfl))
           intro gb410 hg w26 hbox hb
           have n0_ := Aside0.mk (Kd.R_below (by (with_reducible repeat (first | apply Kd.R_alloc | apply Kd.R_drewN | apply Kd.R_drew)); exact HO_4.out) hb)
           have n1_ := Aside0.mk (blk_below (g := gb398) (o := .cells #[.int .i64 ((rd_T75 l0 t396).f0), .int .i64 ((rd_T75 l0 t396).f1), .int .i64 ((rd_T75 l0 t396).f2), .int .i64 ((rd_T75 l0 t396).f3), .int .i64 ((rd_T75 l0 t396).f4), .bool ((rd_T75 l0 t396).f5)] 75 (0, 0)) (by (with_reducible repeat (first | refine blk_drewN ?_ _ | refine blk_drew ?_ | refine blk_alloc ?_ _)); exact BK398.out) hb)
           have n2_ := Aside0.mk (blk_below (g := gb411) (o := .cells #[.int .i64 0, .int .i64 0, .int .i64 0, .int .i64 0, .int .i64 0] 71 (0, 0)) (by (with_reducible repeat (first | refine blk_drewN ?_ _ | refine blk_drew ?_ | refine blk_alloc ?_ _)); exact BK411.out) hb)
           have n3_ := Aside0.mk (below_step (by repeat (first | (with_reducible first | exact HB.out | apply below_alloc | apply pw_below_drewN | apply below_drew1 | refine below_set ?_ GE398.out | refine below_set ?_ GE411.out) | exact HB.out)) hb)
           have n4_ := Aside0.mk (hbox)
           have n5_ := Aside0.mk ((by rw [hg]; exact (below_size (by repeat (first | (with_reducible first | exact HB.out | apply below_alloc | apply pw_below_drewN | apply below_drew1 | refine below_set ?_ GE398.out | refine below_set ?_ GE411.out) | exact HB.out))) : w.heap.size ≤ gb410))
           have n6_ := Aside0.mk ((by rw [hg]; exact (below_size (by repeat (first | (with_reducible first | exact HB.out | apply below_alloc | apply pw_below_drewN | apply below_drew1 | refine below_set ?_ GE398.out | refine below_set ?_ GE411.out) | exact HB.out))) : w.heap.size ≤ gb410))
           have n7_ := Aside0.mk ((by rw [hg]; exact Nat.ne_of_lt (blk_lt (g := gb398) (o := .cells #[.int .i64 ((rd_T75 l0 t396).f0), .int .i64 ((rd_T75 l0 t396).f1), .int .i64 ((rd_T75 l0 t396).f2), .int .i64 ((rd_T75 l0 t396).f3), .int .i64 ((rd_T75 l0 t396).f4), .bool ((rd_T75 l0 t396).f5)] 75 (0, 0)) (by (with_reducible repeat (first | refine blk_drewN ?_ _ | refine blk_drew ?_ | refine blk_alloc ?_ _)); exact BK398.out)) : gb398 ≠ gb410))
           have n8_ := Aside0.mk ((by rw [hg]; exact Nat.ne_of_gt (blk_lt (g := gb398) (o := .cells #[.int .i64 ((rd_T75 l0 t396).f0), .int .i64 ((rd_T75 l0 t396).f1), .int .i64 ((rd_T75 l0 t396).f2), .int .i64 ((rd_T75 l0 t396).f3), .int .i64 ((rd_T75 l0 t396).f4), .bool ((rd_T75 l0 t396).f5)] 75 (0, 0)) (by (with_reducible repeat (first | refine blk_drewN ?_ _ | refine blk_drew ?_ | refine blk_alloc ?_ _)); exact BK398.out)) : gb410 ≠ gb398))
           have n9_ := Aside0.mk ((by rw [hg]; exact Nat.ne_of_lt (blk_lt (g := gb411) (o := .cells #[.int .i64 0, .int .i64 0, .int .i64 0, .int .i64 0, .int .i64 0] 71 (0, 0)) (by (with_reducible repeat (first | refine blk_drewN ?_ _ | refine blk_drew ?_ | refine blk_alloc ?_ _)); exact BK411.out)) : gb411 ≠ gb410))
           have n10_ := Aside0.mk ((by rw [hg]; exact Nat.ne_of_gt (blk_lt (g := gb411) (o := .cells #[.int .i64 0, .int .i64 0, .int .i64 0, .int .i64 0, .int .i64 0] 71 (0, 0)) (by (with_reducible repeat (first | refine blk_drewN ?_ _ | refine blk_drew ?_ | refine blk_alloc ?_ _)); exact BK411.out)) : gb410 ≠ gb411))
           clear HO_4
           clear BK398
           clear BK411
           clear HB
           have HO_4 := n0_
           have BK398 := n1_
           have BK411 := n2_
           have HB := n3_
           have BK410 := n4_
           have GW410 := n5_
           have GE410 := n6_
           have NB398_410 := n7_
           have NB410_398 := n8_
           have NB411_410 := n9_
           have NB410_411 := n10_
           clear n0_ n1_ n2_ n3_ n4_ n5_ n6_ n7_ n8_ n9_ n10_
           clear hb hbox hg
           refine hK.out _ _ ⟨(blk_cell BK398.out 0).trans rfl, (blk_cell BK398.out 1).trans rfl, (blk_cell BK398.out 2).trans rfl, (blk_cell BK398.out 3).trans rfl, (blk_cell BK398.out 4).trans rfl, (blk_cell BK398.out 5).trans rfl, ((HB.out.cell (World.block_lt_of_cell? w _ hw404_0)).trans hw404_0), ((HB.out.cell (World.block_lt_of_cell? w _ hw404_1)).trans hw404_1), ((HB.out.cell (World.block_lt_of_cell? w _ hw404_2)).trans hw404_2), ((HB.out.cell (World.block_lt_of_cell? w _ hw404_3)).trans hw404_3), ((HB.out.cell (World.block_lt_of_cell? w _ hw404_4)).trans hw404_4), ((HB.out.cell (World.block_lt_of_cell? w _ hw404_5)).trans hw404_5)⟩ (fun hHeld => ?_)
           clear hK K
           refine norm_ (a' := ?_) ?_ ?_
           rotate_left
           ·show Act.put _ (some 7) _ = _
            simp only [Act.put, List.setIfInBounds_toArray, List.set_cons_zero, List.set_cons_succ, i64_w, i32_w]
            rfl
           exact norm_ (by first | (simp only [putAll, Act.put, List.setIfInBounds_toArray, List.set_cons_zero, List.set_cons_succ]; done) | (simp only [putAll, Act.put, List.setIfInBounds_toArray, List.set_cons_zero, List.set_cons_succ]; rfl)) (hJ3_10_11_12 (gb410, gb411) _ ⟨hHeld, (by (with_reducible repeat (first | apply Kd.R_alloc | apply Kd.R_drewN | apply Kd.R_drew)); exact HO_4.out), (by (with_reducible repeat (first | refine blk_drewN ?_ _ | refine blk_drew ?_ | refine blk_alloc ?_ _)); exact BK398.out), (by (with_reducible repeat (first | refine blk_drewN ?_ _ | refine blk_drew ?_ | refine blk_alloc ?_ _)); exact BK410.out), (by (with_reducible repeat (first | refine blk_drewN ?_ _ | refine blk_drew ?_ | refine blk_alloc ?_ _)); exact BK411.out), GW410.out, GE410.out, NB398_410.out, NB410_398.out, NB411_410.out, NB410_411.out, GW411.out, GE411.out, NB398_411.out, NB411_398.out, (by repeat (first | (with_reducible first | exact HB.out | apply below_alloc | apply pw_below_drewN | apply below_drew1 | refine below_set ?_ GE398.out | refine below_set ?_ GE411.out | refine below_set ?_ GE410.out) | exact HB.out))⟩)
         ·skip
          rintro gb410 w25 ⟨hS_, h0_, h1_, h2_, h3_, h4_, h5_, h6_, h7_⟩
          have n0_ : Aside0 (Kd.R (Kd.int .i64) 3 w25 w.heap.size (fun _ => True) u4 x4_1) := ⟨h0_⟩
          have n1_ : Aside0 (w25.heap[gb398]? = some (.cells #[.int .i64 ((rd_T75 l0 t396).f0), .int .i64 ((rd_T75 l0 t396).f1), .int .i64 ((rd_T75 l0 t396).f2), .int .i64 ((rd_T75 l0 t396).f3), .int .i64 ((rd_T75 l0 t396).f4), .bool ((rd_T75 l0 t396).f5)] 75 (0, 0))) := ⟨h1_⟩
          have n2_ : Aside0 (w25.heap[gb410]? = some (.cells #[.int .i64 0, .int .i64 0, .int .i64 0, .int .i64 0, .int .i64 0] 71 (0, 0))) := ⟨h2_⟩
          have n3_ : Aside0 (w.heap.size ≤ gb410) := ⟨h3_⟩
          have n4_ : Aside0 (w.heap.size ≤ gb410) := ⟨h4_⟩
          have n5_ : Aside0 (gb398 ≠ gb410) := ⟨h5_⟩
          have n6_ : Aside0 (gb410 ≠ gb398) := ⟨h6_⟩
          have n7_ : Aside0 (Below w.heap.size w w25) := ⟨h7_⟩
          clear HO_4
          clear BK398
          clear HB
          clear h0_ h1_ h2_ h3_ h4_ h5_ h6_ h7_
          have HO_4 := n0_
          have BK398 := n1_
          have BK410 := n2_
          have GW410 := n3_
          have GE410 := n4_
          have NB398_410 := n5_
          have NB410_398 := n6_
          have HB := n7_
          clear n0_ n1_ n2_ n3_ n4_ n5_ n6_ n7_
          have hHeld : w25.cell? ⟨gb398, 0, none⟩ = some (.int .i64 ((rd_T75 l0 t396).f0)) ∧ w25.cell? ⟨gb398, 1, none⟩ = some (.int .i64 ((rd_T75 l0 t396).f1)) ∧ w25.cell? ⟨gb398, 2, none⟩ = some (.int .i64 ((rd_T75 l0 t396).f2)) ∧ w25.cell? ⟨gb398, 3, none⟩ = some (.int .i64 ((rd_T75 l0 t396).f3)) ∧ w25.cell? ⟨gb398, 4, none⟩ = some (.int .i64 ((rd_T75 l0 t396).f4)) ∧ w25.cell? ⟨gb398, 5, none⟩ = some (.bool ((rd_T75 l0 t396).f5)) ∧ w25.cell? (ad397.add ((x5_1).toNat * 6)) = some (.int .i64 ((rd_T75 l0 x5_1).f0)) ∧ w25.cell? ⟨(ad397.add ((x5_1).toNat * 6)).block, (ad397.add ((x5_1).toNat * 6)).off + 1, none⟩ = some (.int .i64 ((rd_T75 l0 x5_1).f1)) ∧ w25.cell? ⟨(ad397.add ((x5_1).toNat * 6)).block, (ad397.add ((x5_1).toNat * 6)).off + 2, none⟩ = some (.int .i64 ((rd_T75 l0 x5_1).f2)) ∧ w25.cell? ⟨(ad397.add ((x5_1).toNat * 6)).block, (ad397.add ((x5_1).toNat * 6)).off + 3, none⟩ = some (.int .i64 ((rd_T75 l0 x5_1).f3)) ∧ w25.cell? ⟨(ad397.add ((x5_1).toNat * 6)).block, (ad397.add ((x5_1).toNat * 6)).off + 4, none⟩ = some (.int .i64 ((rd_T75 l0 x5_1).f4)) ∧ w25.cell? ⟨(ad397.add ((x5_1).toNat * 6)).block, (ad397.add ((x5_1).toNat * 6)).off + 5, none⟩ = some (.bool ((rd_T75 l0 x5_1).f5)) := hS_
          refine norm_ (a' := ?_) ?_ ?_
          rotate_left
          ·simp only [putAll, Act.put, List.setIfInBounds_toArray, List.set_cons_zero, List.set_cons_succ]
           rfl
          refine one_ (i := 12) (N := some 8) #[true, true, true, true, true, true, true, true, true, true, true, true, true, false, false] rfl rfl (one_of HT_.out (by kernel_rfl)) (by decide) (fun K hK => ?_)
          refine box_step ?hg (N := 8) ?hd (cs := #[.int .i64 0, .int .i64 0, .int .i64 0, .int .i64 0, .int .i64 0]) (t := 71) ?hr ?_; (case hd => rfl); (case hg => rfl); (case hr => first | (go_simp; done) | (go_simp; rfl))
          intro gb411 hg w26 hbox hb
          have n0_ := Aside0.mk (Kd.R_below (by (with_reducible repeat (first | apply Kd.R_alloc | apply Kd.R_drewN | apply Kd.R_drew)); exact HO_4.out) hb)
          have n1_ := Aside0.mk (blk_below (g := gb398) (o := .cells #[.int .i64 ((rd_T75 l0 t396).f0), .int .i64 ((rd_T75 l0 t396).f1), .int .i64 ((rd_T75 l0 t396).f2), .int .i64 ((rd_T75 l0 t396).f3), .int .i64 ((rd_T75 l0 t396).f4), .bool ((rd_T75 l0 t396).f5)] 75 (0, 0)) (by (with_reducible repeat (first | refine blk_drewN ?_ _ | refine blk_drew ?_ | refine blk_alloc ?_ _)); exact BK398.out) hb)
          have n2_ := Aside0.mk (blk_below (g := gb410) (o := .cells #[.int .i64 0, .int .i64 0, .int .i64 0, .int .i64 0, .int .i64 0] 71 (0, 0)) (by (with_reducible repeat (first | refine blk_drewN ?_ _ | refine blk_drew ?_ | refine blk_alloc ?_ _)); exact BK410.out) hb)
          have n3_ := Aside0.mk (below_step (by repeat (first | (with_reducible first | exact HB.out | apply below_alloc | apply pw_below_drewN | apply below_drew1 | refine below_set ?_ GE398.out | refine below_set ?_ GE410.out) | exact HB.out)) hb)
          have n4_ := Aside0.mk (hbox)
          have n5_ := Aside0.mk ((by rw [hg]; exact (below_size (by repeat (first | (with_reducible first | exact HB.out | apply below_alloc | apply pw_below_drewN | apply below_drew1 | refine below_set ?_ GE398.out | refine below_set ?_ GE410.out) | exact HB.out))) : w.heap.size ≤ gb411))
          have n6_ := Aside0.mk ((by rw [hg]; exact (below_size (by repeat (first | (with_reducible first | exact HB.out | apply below_alloc | apply pw_below_drewN | apply below_drew1 | refine below_set ?_ GE398.out | refine below_set ?_ GE410.out) | exact HB.out))) : w.heap.size ≤ gb411))
          have n7_ := Aside0.mk ((by rw [hg]; exact Nat.ne_of_lt (blk_lt (g := gb398) (o := .cells #[.int .i64 ((rd_T75 l0 t396).f0), .int .i64 ((rd_T75 l0 t396).f1), .int .i64 ((rd_T75 l0 t396).f2), .int .i64 ((rd_T75 l0 t396).f3), .int .i64 ((rd_T75 l0 t396).f4), .bool ((rd_T75 l0 t396).f5)] 75 (0, 0)) (by (with_reducible repeat (first | refine blk_drewN ?_ _ | refine blk_drew ?_ | refine blk_alloc ?_ _)); exact BK398.out)) : gb398 ≠ gb411))
          have n8_ := Aside0.mk ((by rw [hg]; exact Nat.ne_of_gt (blk_lt (g := gb398) (o := .cells #[.int .i64 ((rd_T75 l0 t396).f0), .int .i64 ((rd_T75 l0 t396).f1), .int .i64 ((rd_T75 l0 t396).f2), .int .i64 ((rd_T75 l0 t396).f3), .int .i64 ((rd_T75 l0 t396).f4), .bool ((rd_T75 l0 t396).f5)] 75 (0, 0)) (by (with_reducible repeat (first | refine blk_drewN ?_ _ | refine blk_drew ?_ | refine blk_alloc ?_ _)); exact BK398.out)) : gb411 ≠ gb398))
          have n9_ := Aside0.mk ((by rw [hg]; exact Nat.ne_of_lt (blk_lt (g := gb410) (o := .cells #[.int .i64 0, .int .i64 0, .int .i64 0, .int .i64 0, .int .i64 0] 71 (0, 0)) (by (with_reducible repeat (first | refine blk_drewN ?_ _ | refine blk_drew ?_ | refine blk_alloc ?_ _)); exact BK410.out)) : gb410 ≠ gb411))
          have n10_ := Aside0.mk ((by rw [hg]; exact Nat.ne_of_gt (blk_lt (g := gb410) (o := .cells #[.int .i64 0, .int .i64 0, .int .i64 0, .int .i64 0, .int .i64 0] 71 (0, 0)) (by (with_reducible repeat (first | refine blk_drewN ?_ _ | refine blk_drew ?_ | refine blk_alloc ?_ _)); exact BK410.out)) : gb411 ≠ gb410))
          clear HO_4
          clear BK398
          clear BK410
          clear HB
          have HO_4 := n0_
          have BK398 := n1_
          have BK410 := n2_
          have HB := n3_
          have BK411 := n4_
          have GW411 := n5_
          have GE411 := n6_
          have NB398_411 := n7_
          have NB411_398 := n8_
          have NB410_411 := n9_
          have NB411_410 := n10_
          clear n0_ n1_ n2_ n3_ n4_ n5_ n6_ n7_ n8_ n9_ n10_
          clear hb hbox hg
          refine hK.out _ _ ⟨(blk_cell BK398.out 0).trans rfl, (blk_cell BK398.out 1).trans rfl, (blk_cell BK398.out 2).trans rfl, (blk_cell BK398.out 3).trans rfl, (blk_cell BK398.out 4).trans rfl, (blk_cell BK398.out 5).trans rfl, ((HB.out.cell (World.block_lt_of_cell? w _ hw404_0)).trans hw404_0), ((HB.out.cell (World.block_lt_of_cell? w _ hw404_1)).trans hw404_1), ((HB.out.cell (World.block_lt_of_cell? w _ hw404_2)).trans hw404_2), ((HB.out.cell (World.block_lt_of_cell? w _ hw404_3)).trans hw404_3), ((HB.out.cell (World.block_lt_of_cell? w _ hw404_4)).trans hw404_4), ((HB.out.cell (World.block_lt_of_cell? w _ hw404_5)).trans hw404_5)⟩ (fun hHeld => ?_)
          clear hK K
          refine norm_ (a' := ?_) ?_ ?_
          rotate_left
          ·show Act.put _ (some 8) _ = _
           simp only [Act.put, List.setIfInBounds_toArray, List.set_cons_zero, List.set_cons_succ, i64_w, i32_w]
           rfl
          exact norm_ (by first | (simp only [putAll, Act.put, List.setIfInBounds_toArray, List.set_cons_zero, List.set_cons_succ]; done) | (simp only [putAll, Act.put, List.setIfInBounds_toArray, List.set_cons_zero, List.set_cons_succ]; rfl)) (hJ3_10_11_12 (gb410, gb411) _ ⟨hHeld, (by (with_reducible repeat (first | apply Kd.R_alloc | apply Kd.R_drewN | apply Kd.R_drew)); exact HO_4.out), (by (with_reducible repeat (first | refine blk_drewN ?_ _ | refine blk_drew ?_ | refine blk_alloc ?_ _)); exact BK398.out), (by (with_reducible repeat (first | refine blk_drewN ?_ _ | refine blk_drew ?_ | refine blk_alloc ?_ _)); exact BK410.out), (by (with_reducible repeat (first | refine blk_drewN ?_ _ | refine blk_drew ?_ | refine blk_alloc ?_ _)); exact BK411.out), GW410.out, GE410.out, NB398_410.out, NB410_398.out, NB411_410.out, NB410_411.out, GW411.out, GE411.out, NB398_411.out, NB411_398.out, (by repeat (first | (with_reducible first | exact HB.out | apply below_alloc | apply pw_below_drewN | apply below_drew1 | refine below_set ?_ GE398.out | refine below_set ?_ GE410.out | refine below_set ?_ GE411.out) | exact HB.out))⟩)
        rintro ⟨gb410, gb411⟩ w26 ⟨hS_, h0_, h1_, h2_, h3_, h4_, h5_, h6_, h7_, h8_, h9_, h10_, h11_, h12_, h13_, h14_⟩
        have n0_ : Aside0 (Kd.R (Kd.int .i64) 3 w26 w.heap.size (fun _ => True) u4 x4_1) := ⟨h0_⟩
        have n1_ : Aside0 (w26.heap[gb398]? = some (.cells #[.int .i64 ((rd_T75 l0 t396).f0), .int .i64 ((rd_T75 l0 t396).f1), .int .i64 ((rd_T75 l0 t396).f2), .int .i64 ((rd_T75 l0 t396).f3), .int .i64 ((rd_T75 l0 t396).f4), .bool ((rd_T75 l0 t396).f5)] 75 (0, 0))) := ⟨h1_⟩
        have n2_ : Aside0 (w26.heap[gb410]? = some (.cells #[.int .i64 0, .int .i64 0, .int .i64 0, .int .i64 0, .int .i64 0] 71 (0, 0))) := ⟨h2_⟩
        have n3_ : Aside0 (w26.heap[gb411]? = some (.cells #[.int .i64 0, .int .i64 0, .int .i64 0, .int .i64 0, .int .i64 0] 71 (0, 0))) := ⟨h3_⟩
        have n4_ : Aside0 (w.heap.size ≤ gb410) := ⟨h4_⟩
        have n5_ : Aside0 (w.heap.size ≤ gb410) := ⟨h5_⟩
        have n6_ : Aside0 (gb398 ≠ gb410) := ⟨h6_⟩
        have n7_ : Aside0 (gb410 ≠ gb398) := ⟨h7_⟩
        have n8_ : Aside0 (gb411 ≠ gb410) := ⟨h8_⟩
        have n9_ : Aside0 (gb410 ≠ gb411) := ⟨h9_⟩
        have n10_ : Aside0 (w.heap.size ≤ gb411) := ⟨h10_⟩
        have n11_ : Aside0 (w.heap.size ≤ gb411) := ⟨h11_⟩
        have n12_ : Aside0 (gb398 ≠ gb411) := ⟨h12_⟩
        have n13_ : Aside0 (gb411 ≠ gb398) := ⟨h13_⟩
        have n14_ : Aside0 (Below w.heap.size w w26) := ⟨h14_⟩
        clear HO_4
        clear BK398
        clear HB
        clear h0_ h1_ h2_ h3_ h4_ h5_ h6_ h7_ h8_ h9_ h10_ h11_ h12_ h13_ h14_
        have HO_4 := n0_
        have BK398 := n1_
        have BK410 := n2_
        have BK411 := n3_
        have GW410 := n4_
        have GE410 := n5_
        have NB398_410 := n6_
        have NB410_398 := n7_
        have NB411_410 := n8_
        have NB410_411 := n9_
        have GW411 := n10_
        have GE411 := n11_
        have NB398_411 := n12_
        have NB411_398 := n13_
        have HB := n14_
        clear n0_ n1_ n2_ n3_ n4_ n5_ n6_ n7_ n8_ n9_ n10_ n11_ n12_ n13_ n14_
        have hHeld : w26.cell? ⟨gb398, 0, none⟩ = some (.int .i64 ((rd_T75 l0 t396).f0)) ∧ w26.cell? ⟨gb398, 1, none⟩ = some (.int .i64 ((rd_T75 l0 t396).f1)) ∧ w26.cell? ⟨gb398, 2, none⟩ = some (.int .i64 ((rd_T75 l0 t396).f2)) ∧ w26.cell? ⟨gb398, 3, none⟩ = some (.int .i64 ((rd_T75 l0 t396).f3)) ∧ w26.cell? ⟨gb398, 4, none⟩ = some (.int .i64 ((rd_T75 l0 t396).f4)) ∧ w26.cell? ⟨gb398, 5, none⟩ = some (.bool ((rd_T75 l0 t396).f5)) ∧ w26.cell? (ad397.add ((x5_1).toNat * 6)) = some (.int .i64 ((rd_T75 l0 x5_1).f0)) ∧ w26.cell? ⟨(ad397.add ((x5_1).toNat * 6)).block, (ad397.add ((x5_1).toNat * 6)).off + 1, none⟩ = some (.int .i64 ((rd_T75 l0 x5_1).f1)) ∧ w26.cell? ⟨(ad397.add ((x5_1).toNat * 6)).block, (ad397.add ((x5_1).toNat * 6)).off + 2, none⟩ = some (.int .i64 ((rd_T75 l0 x5_1).f2)) ∧ w26.cell? ⟨(ad397.add ((x5_1).toNat * 6)).block, (ad397.add ((x5_1).toNat * 6)).off + 3, none⟩ = some (.int .i64 ((rd_T75 l0 x5_1).f3)) ∧ w26.cell? ⟨(ad397.add ((x5_1).toNat * 6)).block, (ad397.add ((x5_1).toNat * 6)).off + 4, none⟩ = some (.int .i64 ((rd_T75 l0 x5_1).f4)) ∧ w26.cell? ⟨(ad397.add ((x5_1).toNat * 6)).block, (ad397.add ((x5_1).toNat * 6)).off + 5, none⟩ = some (.bool ((rd_T75 l0 x5_1).f5)) := hS_
        refine norm_ (a' := ?_) ?_ ?_
        rotate_left
        ·simp only [putAll, Act.put, List.setIfInBounds_toArray, List.set_cons_zero, List.set_cons_succ]
         rfl
        refine one_ (i := 13) (N := none) #[true, true, true, true, true, true, true, true, true, true, true, true, true, true, false] rfl rfl (one_of HT_.out (by kernel_rfl)) (by decide) (fun K hK => ?_)
        have hs27 : w26.cell? ⟨gb410, 0, none⟩ = some (.int .i64 0) := (blk_cell BK410.out 0).trans rfl
        have hfs27 := blk_frozen BK410.out 0
        have hns27_0 := NB398_410.out
        have hns27_2 := NB411_410.out
        have hms27_0 := NB410_398.out
        have hms27_2 := NB410_411.out
        have hs28 : w26.cell? ⟨gb410, 1, none⟩ = some (.int .i64 0) := (blk_cell BK410.out 1).trans rfl
        have hfs28 := blk_frozen BK410.out 1
        have hns28_0 := NB398_410.out
        have hns28_2 := NB411_410.out
        have hms28_0 := NB410_398.out
        have hms28_2 := NB410_411.out
        have hs29 : w26.cell? ⟨gb410, 2, none⟩ = some (.int .i64 0) := (blk_cell BK410.out 2).trans rfl
        have hfs29 := blk_frozen BK410.out 2
        have hns29_0 := NB398_410.out
        have hns29_2 := NB411_410.out
        have hms29_0 := NB410_398.out
        have hms29_2 := NB410_411.out
        have hs30 : w26.cell? ⟨gb410, 3, none⟩ = some (.int .i64 0) := (blk_cell BK410.out 3).trans rfl
        have hfs30 := blk_frozen BK410.out 3
        have hns30_0 := NB398_410.out
        have hns30_2 := NB411_410.out
        have hms30_0 := NB410_398.out
        have hms30_2 := NB410_411.out
        have hs31 : w26.cell? ⟨gb410, 4, none⟩ = some (.int .i64 0) := (blk_cell BK410.out 4).trans rfl
        have hfs31 := blk_frozen BK410.out 4
        have hns31_0 := NB398_410.out
        have hns31_2 := NB411_410.out
        have hms31_0 := NB410_398.out
        have hms31_2 := NB410_411.out
        refine skip_ (w1 := ?_) (by rfl) rfl ?_ ?_
        rotate_left
        ·go_simp
         rfl
        refine hK.out _ _ ⟨((cell_far (p := ⟨gb410, _, none⟩) NB398_410.out _).trans (((cell_far (p := ⟨gb410, _, none⟩) NB398_410.out _).trans (((cell_far (p := ⟨gb410, _, none⟩) NB398_410.out _).trans (((cell_far (p := ⟨gb410, _, none⟩) NB398_410.out _).trans (((cell_far (p := ⟨gb410, _, none⟩) NB398_410.out _).trans (hHeld.1)))))))))), ((cell_far (p := ⟨gb410, _, none⟩) NB398_410.out _).trans (((cell_far (p := ⟨gb410, _, none⟩) NB398_410.out _).trans (((cell_far (p := ⟨gb410, _, none⟩) NB398_410.out _).trans (((cell_far (p := ⟨gb410, _, none⟩) NB398_410.out _).trans (((cell_far (p := ⟨gb410, _, none⟩) NB398_410.out _).trans (hHeld.2.1)))))))))), ((cell_far (p := ⟨gb410, _, none⟩) NB398_410.out _).trans (((cell_far (p := ⟨gb410, _, none⟩) NB398_410.out _).trans (((cell_far (p := ⟨gb410, _, none⟩) NB398_410.out _).trans (((cell_far (p := ⟨gb410, _, none⟩) NB398_410.out _).trans (((cell_far (p := ⟨gb410, _, none⟩) NB398_410.out _).trans (hHeld.2.2.1)))))))))), ((cell_far (p := ⟨gb410, _, none⟩) NB398_410.out _).trans (((cell_far (p := ⟨gb410, _, none⟩) NB398_410.out _).trans (((cell_far (p := ⟨gb410, _, none⟩) NB398_410.out _).trans (((cell_far (p := ⟨gb410, _, none⟩) NB398_410.out _).trans (((cell_far (p := ⟨gb410, _, none⟩) NB398_410.out _).trans (hHeld.2.2.2.1)))))))))), ((cell_far (p := ⟨gb410, _, none⟩) NB398_410.out _).trans (((cell_far (p := ⟨gb410, _, none⟩) NB398_410.out _).trans (((cell_far (p := ⟨gb410, _, none⟩) NB398_410.out _).trans (((cell_far (p := ⟨gb410, _, none⟩) NB398_410.out _).trans (((cell_far (p := ⟨gb410, _, none⟩) NB398_410.out _).trans (hHeld.2.2.2.2.1)))))))))), ((cell_far (p := ⟨gb410, _, none⟩) NB398_410.out _).trans (((cell_far (p := ⟨gb410, _, none⟩) NB398_410.out _).trans (((cell_far (p := ⟨gb410, _, none⟩) NB398_410.out _).trans (((cell_far (p := ⟨gb410, _, none⟩) NB398_410.out _).trans (((cell_far (p := ⟨gb410, _, none⟩) NB398_410.out _).trans (hHeld.2.2.2.2.2.1)))))))))), ((cell_far (p := ⟨gb410, _, none⟩) (by first | exact Nat.ne_of_lt (Nat.lt_of_lt_of_le (by have := World.block_lt_of_cell? _ _ hw404_0; first | rwa [add_block] at this | exact this) GW410.out) | (rw [add_block]; exact Nat.ne_of_lt (Nat.lt_of_lt_of_le (by have := World.block_lt_of_cell? _ _ hw404_0; first | rwa [add_block] at this | exact this) GW410.out)) | (show (Addr.add _ _).block ≠ _; rw [add_block]; exact Nat.ne_of_lt (Nat.lt_of_lt_of_le (by have := World.block_lt_of_cell? _ _ hw404_0; first | rwa [add_block] at this | exact this) GW410.out)) | (dsimp only; exact Nat.ne_of_lt (Nat.lt_of_lt_of_le (by have := World.block_lt_of_cell? _ _ hw404_0; first | rwa [add_block] at this | exact this) GW410.out))) _).trans (((cell_far (p := ⟨gb410, _, none⟩) (by first | exact Nat.ne_of_lt (Nat.lt_of_lt_of_le (by have := World.block_lt_of_cell? _ _ hw404_0; first | rwa [add_block] at this | exact this) GW410.out) | (rw [add_block]; exact Nat.ne_of_lt (Nat.lt_of_lt_of_le (by have := World.block_lt_of_cell? _ _ hw404_0; first | rwa [add_block] at this | exact this) GW410.out)) | (show (Addr.add _ _).block ≠ _; rw [add_block]; exact Nat.ne_of_lt (Nat.lt_of_lt_of_le (by have := World.block_lt_of_cell? _ _ hw404_0; first | rwa [add_block] at this | exact this) GW410.out)) | (dsimp only; exact Nat.ne_of_lt (Nat.lt_of_lt_of_le (by have := World.block_lt_of_cell? _ _ hw404_0; first | rwa [add_block] at this | exact this) GW410.out))) _).trans (((cell_far (p := ⟨gb410, _, none⟩) (by first | exact Nat.ne_of_lt (Nat.lt_of_lt_of_le (by have := World.block_lt_of_cell? _ _ hw404_0; first | rwa [add_block] at this | exact this) GW410.out) | (rw [add_block]; exact Nat.ne_of_lt (Nat.lt_of_lt_of_le (by have := World.block_lt_of_cell? _ _ hw404_0; first | rwa [add_block] at this | exact this) GW410.out)) | (show (Addr.add _ _).block ≠ _; rw [add_block]; exact Nat.ne_of_lt (Nat.lt_of_lt_of_le (by have := World.block_lt_of_cell? _ _ hw404_0; first | rwa [add_block] at this | exact this) GW410.out)) | (dsimp only; exact Nat.ne_of_lt (Nat.lt_of_lt_of_le (by have := World.block_lt_of_cell? _ _ hw404_0; first | rwa [add_block] at this | exact this) GW410.out))) _).trans (((cell_far (p := ⟨gb410, _, none⟩) (by first | exact Nat.ne_of_lt (Nat.lt_of_lt_of_le (by have := World.block_lt_of_cell? _ _ hw404_0; first | rwa [add_block] at this | exact this) GW410.out) | (rw [add_block]; exact Nat.ne_of_lt (Nat.lt_of_lt_of_le (by have := World.block_lt_of_cell? _ _ hw404_0; first | rwa [add_block] at this | exact this) GW410.out)) | (show (Addr.add _ _).block ≠ _; rw [add_block]; exact Nat.ne_of_lt (Nat.lt_of_lt_of_le (by have := World.block_lt_of_cell? _ _ hw404_0; first | rwa [add_block] at this | exact this) GW410.out)) | (dsimp only; exact Nat.ne_of_lt (Nat.lt_of_lt_of_le (by have := World.block_lt_of_cell? _ _ hw404_0; first | rwa [add_block] at this | exact this) GW410.out))) _).trans (((cell_far (p := ⟨gb410, _, none⟩) (by first | exact Nat.ne_of_lt (Nat.lt_of_lt_of_le (by have := World.block_lt_of_cell? _ _ hw404_0; first | rwa [add_block] at this | exact this) GW410.out) | (rw [add_block]; exact Nat.ne_of_lt (Nat.lt_of_lt_of_le (by have := World.block_lt_of_cell? _ _ hw404_0; first | rwa [add_block] at this | exact this) GW410.out)) | (show (Addr.add _ _).block ≠ _; rw [add_block]; exact Nat.ne_of_lt (Nat.lt_of_lt_of_le (by have := World.block_lt_of_cell? _ _ hw404_0; first | rwa [add_block] at this | exact this) GW410.out)) | (dsimp only; exact Nat.ne_of_lt (Nat.lt_of_lt_of_le (by have := World.block_lt_of_cell? _ _ hw404_0; first | rwa [add_block] at this | exact this) GW410.out))) _).trans (hHeld.2.2.2.2.2.2.1)))))))))), ((cell_far (p := ⟨gb410, _, none⟩) (by first | exact Nat.ne_of_lt (Nat.lt_of_lt_of_le (by have := World.block_lt_of_cell? _ _ hw404_1; first | rwa [add_block] at this | exact this) GW410.out) | (rw [add_block]; exact Nat.ne_of_lt (Nat.lt_of_lt_of_le (by have := World.block_lt_of_cell? _ _ hw404_1; first | rwa [add_block] at this | exact this) GW410.out)) | (show (Addr.add _ _).block ≠ _; rw [add_block]; exact Nat.ne_of_lt (Nat.lt_of_lt_of_le (by have := World.block_lt_of_cell? _ _ hw404_1; first | rwa [add_block] at this | exact this) GW410.out)) | (dsimp only; exact Nat.ne_of_lt (Nat.lt_of_lt_of_le (by have := World.block_lt_of_cell? _ _ hw404_1; first | rwa [add_block] at this | exact this) GW410.out))) _).trans (((cell_far (p := ⟨gb410, _, none⟩) (by first | exact Nat.ne_of_lt (Nat.lt_of_lt_of_le (by have := World.block_lt_of_cell? _ _ hw404_1; first | rwa [add_block] at this | exact this) GW410.out) | (rw [add_block]; exact Nat.ne_of_lt (Nat.lt_of_lt_of_le (by have := World.block_lt_of_cell? _ _ hw404_1; first | rwa [add_block] at this | exact this) GW410.out)) | (show (Addr.add _ _).block ≠ _; rw [add_block]; exact Nat.ne_of_lt (Nat.lt_of_lt_of_le (by have := World.block_lt_of_cell? _ _ hw404_1; first | rwa [add_block] at this | exact this) GW410.out)) | (dsimp only; exact Nat.ne_of_lt (Nat.lt_of_lt_of_le (by have := World.block_lt_of_cell? _ _ hw404_1; first | rwa [add_block] at this | exact this) GW410.out))) _).trans (((cell_far (p := ⟨gb410, _, none⟩) (by first | exact Nat.ne_of_lt (Nat.lt_of_lt_of_le (by have := World.block_lt_of_cell? _ _ hw404_1; first | rwa [add_block] at this | exact this) GW410.out) | (rw [add_block]; exact Nat.ne_of_lt (Nat.lt_of_lt_of_le (by have := World.block_lt_of_cell? _ _ hw404_1; first | rwa [add_block] at this | exact this) GW410.out)) | (show (Addr.add _ _).block ≠ _; rw [add_block]; exact Nat.ne_of_lt (Nat.lt_of_lt_of_le (by have := World.block_lt_of_cell? _ _ hw404_1; first | rwa [add_block] at this | exact this) GW410.out)) | (dsimp only; exact Nat.ne_of_lt (Nat.lt_of_lt_of_le (by have := World.block_lt_of_cell? _ _ hw404_1; first | rwa [add_block] at this | exact this) GW410.out))) _).trans (((cell_far (p := ⟨gb410, _, none⟩) (by first | exact Nat.ne_of_lt (Nat.lt_of_lt_of_le (by have := World.block_lt_of_cell? _ _ hw404_1; first | rwa [add_block] at this | exact this) GW410.out) | (rw [add_block]; exact Nat.ne_of_lt (Nat.lt_of_lt_of_le (by have := World.block_lt_of_cell? _ _ hw404_1; first | rwa [add_block] at this | exact this) GW410.out)) | (show (Addr.add _ _).block ≠ _; rw [add_block]; exact Nat.ne_of_lt (Nat.lt_of_lt_of_le (by have := World.block_lt_of_cell? _ _ hw404_1; first | rwa [add_block] at this | exact this) GW410.out)) | (dsimp only; exact Nat.ne_of_lt (Nat.lt_of_lt_of_le (by have := World.block_lt_of_cell? _ _ hw404_1; first | rwa [add_block] at this | exact this) GW410.out))) _).trans (((cell_far (p := ⟨gb410, _, none⟩) (by first | exact Nat.ne_of_lt (Nat.lt_of_lt_of_le (by have := World.block_lt_of_cell? _ _ hw404_1; first | rwa [add_block] at this | exact this) GW410.out) | (rw [add_block]; exact Nat.ne_of_lt (Nat.lt_of_lt_of_le (by have := World.block_lt_of_cell? _ _ hw404_1; first | rwa [add_block] at this | exact this) GW410.out)) | (show (Addr.add _ _).block ≠ _; rw [add_block]; exact Nat.ne_of_lt (Nat.lt_of_lt_of_le (by have := World.block_lt_of_cell? _ _ hw404_1; first | rwa [add_block] at this | exact this) GW410.out)) | (dsimp only; exact Nat.ne_of_lt (Nat.lt_of_lt_of_le (by have := World.block_lt_of_cell? _ _ hw404_1; first | rwa [add_block] at this | exact this) GW410.out))) _).trans (hHeld.2.2.2.2.2.2.2.1)))))))))), ((cell_far (p := ⟨gb410, _, none⟩) (by first | exact Nat.ne_of_lt (Nat.lt_of_lt_of_le (by have := World.block_lt_of_cell? _ _ hw404_2; first | rwa [add_block] at this | exact this) GW410.out) | (rw [add_block]; exact Nat.ne_of_lt (Nat.lt_of_lt_of_le (by have := World.block_lt_of_cell? _ _ hw404_2; first | rwa [add_block] at this | exact this) GW410.out)) | (show (Addr.add _ _).block ≠ _; rw [add_block]; exact Nat.ne_of_lt (Nat.lt_of_lt_of_le (by have := World.block_lt_of_cell? _ _ hw404_2; first | rwa [add_block] at this | exact this) GW410.out)) | (dsimp only; exact Nat.ne_of_lt (Nat.lt_of_lt_of_le (by have := World.block_lt_of_cell? _ _ hw404_2; first | rwa [add_block] at this | exact this) GW410.out))) _).trans (((cell_far (p := ⟨gb410, _, none⟩) (by first | exact Nat.ne_of_lt (Nat.lt_of_lt_of_le (by have := World.block_lt_of_cell? _ _ hw404_2; first | rwa [add_block] at this | exact this) GW410.out) | (rw [add_block]; exact Nat.ne_of_lt (Nat.lt_of_lt_of_le (by have := World.block_lt_of_cell? _ _ hw404_2; first | rwa [add_block] at this | exact this) GW410.out)) | (show (Addr.add _ _).block ≠ _; rw [add_block]; exact Nat.ne_of_lt (Nat.lt_of_lt_of_le (by have := World.block_lt_of_cell? _ _ hw404_2; first | rwa [add_block] at this | exact this) GW410.out)) | (dsimp only; exact Nat.ne_of_lt (Nat.lt_of_lt_of_le (by have := World.block_lt_of_cell? _ _ hw404_2; first | rwa [add_block] at this | exact this) GW410.out))) _).trans (((cell_far (p := ⟨gb410, _, none⟩) (by first | exact Nat.ne_of_lt (Nat.lt_of_lt_of_le (by have := World.block_lt_of_cell? _ _ hw404_2; first | rwa [add_block] at this | exact this) GW410.out) | (rw [add_block]; exact Nat.ne_of_lt (Nat.lt_of_lt_of_le (by have := World.block_lt_of_cell? _ _ hw404_2; first | rwa [add_block] at this | exact this) GW410.out)) | (show (Addr.add _ _).block ≠ _; rw [add_block]; exact Nat.ne_of_lt (Nat.lt_of_lt_of_le (by have := World.block_lt_of_cell? _ _ hw404_2; first | rwa [add_block] at this | exact this) GW410.out)) | (dsimp only; exact Nat.ne_of_lt (Nat.lt_of_lt_of_le (by have := World.block_lt_of_cell? _ _ hw404_2; first | rwa [add_block] at this | exact this) GW410.out))) _).trans (((cell_far (p := ⟨gb410, _, none⟩) (by first | exact Nat.ne_of_lt (Nat.lt_of_lt_of_le (by have := World.block_lt_of_cell? _ _ hw404_2; first | rwa [add_block] at this | exact this) GW410.out) | (rw [add_block]; exact Nat.ne_of_lt (Nat.lt_of_lt_of_le (by have := World.block_lt_of_cell? _ _ hw404_2; first | rwa [add_block] at this | exact this) GW410.out)) | (show (Addr.add _ _).block ≠ _; rw [add_block]; exact Nat.ne_of_lt (Nat.lt_of_lt_of_le (by have := World.block_lt_of_cell? _ _ hw404_2; first | rwa [add_block] at this | exact this) GW410.out)) | (dsimp only; exact Nat.ne_of_lt (Nat.lt_of_lt_of_le (by have := World.block_lt_of_cell? _ _ hw404_2; first | rwa [add_block] at this | exact this) GW410.out))) _).trans (((cell_far (p := ⟨gb410, _, none⟩) (by first | exact Nat.ne_of_lt (Nat.lt_of_lt_of_le (by have := World.block_lt_of_cell? _ _ hw404_2; first | rwa [add_block] at this | exact this) GW410.out) | (rw [add_block]; exact Nat.ne_of_lt (Nat.lt_of_lt_of_le (by have := World.block_lt_of_cell? _ _ hw404_2; first | rwa [add_block] at this | exact this) GW410.out)) | (show (Addr.add _ _).block ≠ _; rw [add_block]; exact Nat.ne_of_lt (Nat.lt_of_lt_of_le (by have := World.block_lt_of_cell? _ _ hw404_2; first | rwa [add_block] at this | exact this) GW410.out)) | (dsimp only; exact Nat.ne_of_lt (Nat.lt_of_lt_of_le (by have := World.block_lt_of_cell? _ _ hw404_2; first | rwa [add_block] at this | exact this) GW410.out))) _).trans (hHeld.2.2.2.2.2.2.2.2.1)))))))))), ((cell_far (p := ⟨gb410, _, none⟩) (by first | exact Nat.ne_of_lt (Nat.lt_of_lt_of_le (by have := World.block_lt_of_cell? _ _ hw404_3; first | rwa [add_block] at this | exact this) GW410.out) | (rw [add_block]; exact Nat.ne_of_lt (Nat.lt_of_lt_of_le (by have := World.block_lt_of_cell? _ _ hw404_3; first | rwa [add_block] at this | exact this) GW410.out)) | (show (Addr.add _ _).block ≠ _; rw [add_block]; exact Nat.ne_of_lt (Nat.lt_of_lt_of_le (by have := World.block_lt_of_cell? _ _ hw404_3; first | rwa [add_block] at this | exact this) GW410.out)) | (dsimp only; exact Nat.ne_of_lt (Nat.lt_of_lt_of_le (by have := World.block_lt_of_cell? _ _ hw404_3; first | rwa [add_block] at this | exact this) GW410.out))) _).trans (((cell_far (p := ⟨gb410, _, none⟩) (by first | exact Nat.ne_of_lt (Nat.lt_of_lt_of_le (by have := World.block_lt_of_cell? _ _ hw404_3; first | rwa [add_block] at this | exact this) GW410.out) | (rw [add_block]; exact Nat.ne_of_lt (Nat.lt_of_lt_of_le (by have := World.block_lt_of_cell? _ _ hw404_3; first | rwa [add_block] at this | exact this) GW410.out)) | (show (Addr.add _ _).block ≠ _; rw [add_block]; exact Nat.ne_of_lt (Nat.lt_of_lt_of_le (by have := World.block_lt_of_cell? _ _ hw404_3; first | rwa [add_block] at this | exact this) GW410.out)) | (dsimp only; exact Nat.ne_of_lt (Nat.lt_of_lt_of_le (by have := World.block_lt_of_cell? _ _ hw404_3; first | rwa [add_block] at this | exact this) GW410.out))) _).trans (((cell_far (p := ⟨gb410, _, none⟩) (by first | exact Nat.ne_of_lt (Nat.lt_of_lt_of_le (by have := World.block_lt_of_cell? _ _ hw404_3; first | rwa [add_block] at this | exact this) GW410.out) | (rw [add_block]; exact Nat.ne_of_lt (Nat.lt_of_lt_of_le (by have := World.block_lt_of_cell? _ _ hw404_3; first | rwa [add_block] at this | exact this) GW410.out)) | (show (Addr.add _ _).block ≠ _; rw [add_block]; exact Nat.ne_of_lt (Nat.lt_of_lt_of_le (by have := World.block_lt_of_cell? _ _ hw404_3; first | rwa [add_block] at this | exact this) GW410.out)) | (dsimp only; exact Nat.ne_of_lt (Nat.lt_of_lt_of_le (by have := World.block_lt_of_cell? _ _ hw404_3; first | rwa [add_block] at this | exact this) GW410.out))) _).trans (((cell_far (p := ⟨gb410, _, none⟩) (by first | exact Nat.ne_of_lt (Nat.lt_of_lt_of_le (by have := World.block_lt_of_cell? _ _ hw404_3; first | rwa [add_block] at this | exact this) GW410.out) | (rw [add_block]; exact Nat.ne_of_lt (Nat.lt_of_lt_of_le (by have := World.block_lt_of_cell? _ _ hw404_3; first | rwa [add_block] at this | exact this) GW410.out)) | (show (Addr.add _ _).block ≠ _; rw [add_block]; exact Nat.ne_of_lt (Nat.lt_of_lt_of_le (by have := World.block_lt_of_cell? _ _ hw404_3; first | rwa [add_block] at this | exact this) GW410.out)) | (dsimp only; exact Nat.ne_of_lt (Nat.lt_of_lt_of_le (by have := World.block_lt_of_cell? _ _ hw404_3; first | rwa [add_block] at this | exact this) GW410.out))) _).trans (((cell_far (p := ⟨gb410, _, none⟩) (by first | exact Nat.ne_of_lt (Nat.lt_of_lt_of_le (by have := World.block_lt_of_cell? _ _ hw404_3; first | rwa [add_block] at this | exact this) GW410.out) | (rw [add_block]; exact Nat.ne_of_lt (Nat.lt_of_lt_of_le (by have := World.block_lt_of_cell? _ _ hw404_3; first | rwa [add_block] at this | exact this) GW410.out)) | (show (Addr.add _ _).block ≠ _; rw [add_block]; exact Nat.ne_of_lt (Nat.lt_of_lt_of_le (by have := World.block_lt_of_cell? _ _ hw404_3; first | rwa [add_block] at this | exact this) GW410.out)) | (dsimp only; exact Nat.ne_of_lt (Nat.lt_of_lt_of_le (by have := World.block_lt_of_cell? _ _ hw404_3; first | rwa [add_block] at this | exact this) GW410.out))) _).trans (hHeld.2.2.2.2.2.2.2.2.2.1)))))))))), ((cell_far (p := ⟨gb410, _, none⟩) (by first | exact Nat.ne_of_lt (Nat.lt_of_lt_of_le (by have := World.block_lt_of_cell? _ _ hw404_4; first | rwa [add_block] at this | exact this) GW410.out) | (rw [add_block]; exact Nat.ne_of_lt (Nat.lt_of_lt_of_le (by have := World.block_lt_of_cell? _ _ hw404_4; first | rwa [add_block] at this | exact this) GW410.out)) | (show (Addr.add _ _).block ≠ _; rw [add_block]; exact Nat.ne_of_lt (Nat.lt_of_lt_of_le (by have := World.block_lt_of_cell? _ _ hw404_4; first | rwa [add_block] at this | exact this) GW410.out)) | (dsimp only; exact Nat.ne_of_lt (Nat.lt_of_lt_of_le (by have := World.block_lt_of_cell? _ _ hw404_4; first | rwa [add_block] at this | exact this) GW410.out))) _).trans (((cell_far (p := ⟨gb410, _, none⟩) (by first | exact Nat.ne_of_lt (Nat.lt_of_lt_of_le (by have := World.block_lt_of_cell? _ _ hw404_4; first | rwa [add_block] at this | exact this) GW410.out) | (rw [add_block]; exact Nat.ne_of_lt (Nat.lt_of_lt_of_le (by have := World.block_lt_of_cell? _ _ hw404_4; first | rwa [add_block] at this | exact this) GW410.out)) | (show (Addr.add _ _).block ≠ _; rw [add_block]; exact Nat.ne_of_lt (Nat.lt_of_lt_of_le (by have := World.block_lt_of_cell? _ _ hw404_4; first | rwa [add_block] at this | exact this) GW410.out)) | (dsimp only; exact Nat.ne_of_lt (Nat.lt_of_lt_of_le (by have := World.block_lt_of_cell? _ _ hw404_4; first | rwa [add_block] at this | exact this) GW410.out))) _).trans (((cell_far (p := ⟨gb410, _, none⟩) (by first | exact Nat.ne_of_lt (Nat.lt_of_lt_of_le (by have := World.block_lt_of_cell? _ _ hw404_4; first | rwa [add_block] at this | exact this) GW410.out) | (rw [add_block]; exact Nat.ne_of_lt (Nat.lt_of_lt_of_le (by have := World.block_lt_of_cell? _ _ hw404_4; first | rwa [add_block] at this | exact this) GW410.out)) | (show (Addr.add _ _).block ≠ _; rw [add_block]; exact Nat.ne_of_lt (Nat.lt_of_lt_of_le (by have := World.block_lt_of_cell? _ _ hw404_4; first | rwa [add_block] at this | exact this) GW410.out)) | (dsimp only; exact Nat.ne_of_lt (Nat.lt_of_lt_of_le (by have := World.block_lt_of_cell? _ _ hw404_4; first | rwa [add_block] at this | exact this) GW410.out))) _).trans (((cell_far (p := ⟨gb410, _, none⟩) (by first | exact Nat.ne_of_lt (Nat.lt_of_lt_of_le (by have := World.block_lt_of_cell? _ _ hw404_4; first | rwa [add_block] at this | exact this) GW410.out) | (rw [add_block]; exact Nat.ne_of_lt (Nat.lt_of_lt_of_le (by have := World.block_lt_of_cell? _ _ hw404_4; first | rwa [add_block] at this | exact this) GW410.out)) | (show (Addr.add _ _).block ≠ _; rw [add_block]; exact Nat.ne_of_lt (Nat.lt_of_lt_of_le (by have := World.block_lt_of_cell? _ _ hw404_4; first | rwa [add_block] at this | exact this) GW410.out)) | (dsimp only; exact Nat.ne_of_lt (Nat.lt_of_lt_of_le (by have := World.block_lt_of_cell? _ _ hw404_4; first | rwa [add_block] at this | exact this) GW410.out))) _).trans (((cell_far (p := ⟨gb410, _, none⟩) (by first | exact Nat.ne_of_lt (Nat.lt_of_lt_of_le (by have := World.block_lt_of_cell? _ _ hw404_4; first | rwa [add_block] at this | exact this) GW410.out) | (rw [add_block]; exact Nat.ne_of_lt (Nat.lt_of_lt_of_le (by have := World.block_lt_of_cell? _ _ hw404_4; first | rwa [add_block] at this | exact this) GW410.out)) | (show (Addr.add _ _).block ≠ _; rw [add_block]; exact Nat.ne_of_lt (Nat.lt_of_lt_of_le (by have := World.block_lt_of_cell? _ _ hw404_4; first | rwa [add_block] at this | exact this) GW410.out)) | (dsimp only; exact Nat.ne_of_lt (Nat.lt_of_lt_of_le (by have := World.block_lt_of_cell? _ _ hw404_4; first | rwa [add_block] at this | exact this) GW410.out))) _).trans (hHeld.2.2.2.2.2.2.2.2.2.2.1)))))))))), ((cell_far (p := ⟨gb410, _, none⟩) (by first | exact Nat.ne_of_lt (Nat.lt_of_lt_of_le (by have := World.block_lt_of_cell? _ _ hw404_5; first | rwa [add_block] at this | exact this) GW410.out) | (rw [add_block]; exact Nat.ne_of_lt (Nat.lt_of_lt_of_le (by have := World.block_lt_of_cell? _ _ hw404_5; first | rwa [add_block] at this | exact this) GW410.out)) | (show (Addr.add _ _).block ≠ _; rw [add_block]; exact Nat.ne_of_lt (Nat.lt_of_lt_of_le (by have := World.block_lt_of_cell? _ _ hw404_5; first | rwa [add_block] at this | exact this) GW410.out)) | (dsimp only; exact Nat.ne_of_lt (Nat.lt_of_lt_of_le (by have := World.block_lt_of_cell? _ _ hw404_5; first | rwa [add_block] at this | exact this) GW410.out))) _).trans (((cell_far (p := ⟨gb410, _, none⟩) (by first | exact Nat.ne_of_lt (Nat.lt_of_lt_of_le (by have := World.block_lt_of_cell? _ _ hw404_5; first | rwa [add_block] at this | exact this) GW410.out) | (rw [add_block]; exact Nat.ne_of_lt (Nat.lt_of_lt_of_le (by have := World.block_lt_of_cell? _ _ hw404_5; first | rwa [add_block] at this | exact this) GW410.out)) | (show (Addr.add _ _).block ≠ _; rw [add_block]; exact Nat.ne_of_lt (Nat.lt_of_lt_of_le (by have := World.block_lt_of_cell? _ _ hw404_5; first | rwa [add_block] at this | exact this) GW410.out)) | (dsimp only; exact Nat.ne_of_lt (Nat.lt_of_lt_of_le (by have := World.block_lt_of_cell? _ _ hw404_5; first | rwa [add_block] at this | exact this) GW410.out))) _).trans (((cell_far (p := ⟨gb410, _, none⟩) (by first | exact Nat.ne_of_lt (Nat.lt_of_lt_of_le (by have := World.block_lt_of_cell? _ _ hw404_5; first | rwa [add_block] at this | exact this) GW410.out) | (rw [add_block]; exact Nat.ne_of_lt (Nat.lt_of_lt_of_le (by have := World.block_lt_of_cell? _ _ hw404_5; first | rwa [add_block] at this | exact this) GW410.out)) | (show (Addr.add _ _).block ≠ _; rw [add_block]; exact Nat.ne_of_lt (Nat.lt_of_lt_of_le (by have := World.block_lt_of_cell? _ _ hw404_5; first | rwa [add_block] at this | exact this) GW410.out)) | (dsimp only; exact Nat.ne_of_lt (Nat.lt_of_lt_of_le (by have := World.block_lt_of_cell? _ _ hw404_5; first | rwa [add_block] at this | exact this) GW410.out))) _).trans (((cell_far (p := ⟨gb410, _, none⟩) (by first | exact Nat.ne_of_lt (Nat.lt_of_lt_of_le (by have := World.block_lt_of_cell? _ _ hw404_5; first | rwa [add_block] at this | exact this) GW410.out) | (rw [add_block]; exact Nat.ne_of_lt (Nat.lt_of_lt_of_le (by have := World.block_lt_of_cell? _ _ hw404_5; first | rwa [add_block] at this | exact this) GW410.out)) | (show (Addr.add _ _).block ≠ _; rw [add_block]; exact Nat.ne_of_lt (Nat.lt_of_lt_of_le (by have := World.block_lt_of_cell? _ _ hw404_5; first | rwa [add_block] at this | exact this) GW410.out)) | (dsimp only; exact Nat.ne_of_lt (Nat.lt_of_lt_of_le (by have := World.block_lt_of_cell? _ _ hw404_5; first | rwa [add_block] at this | exact this) GW410.out))) _).trans (((cell_far (p := ⟨gb410, _, none⟩) (by first | exact Nat.ne_of_lt (Nat.lt_of_lt_of_le (by have := World.block_lt_of_cell? _ _ hw404_5; first | rwa [add_block] at this | exact this) GW410.out) | (rw [add_block]; exact Nat.ne_of_lt (Nat.lt_of_lt_of_le (by have := World.block_lt_of_cell? _ _ hw404_5; first | rwa [add_block] at this | exact this) GW410.out)) | (show (Addr.add _ _).block ≠ _; rw [add_block]; exact Nat.ne_of_lt (Nat.lt_of_lt_of_le (by have := World.block_lt_of_cell? _ _ hw404_5; first | rwa [add_block] at this | exact this) GW410.out)) | (dsimp only; exact Nat.ne_of_lt (Nat.lt_of_lt_of_le (by have := World.block_lt_of_cell? _ _ hw404_5; first | rwa [add_block] at this | exact this) GW410.out))) _).trans (hHeld.2.2.2.2.2.2.2.2.2.2.2))))))))))⟩ (fun hHeld => ?_)
        clear hK K
        refine one_ (i := 14) (N := none) #[true, true, true, true, true, true, true, true, true, true, true, true, true, true, true] rfl rfl (one_of HT_.out (by kernel_rfl)) (by decide) (fun K hK => ?_)
        have hs32 : w26.cell? ⟨gb411, 0, none⟩ = some (.int .i64 0) := (blk_cell BK411.out 0).trans rfl
        have hfs32 := blk_frozen BK411.out 0
        have hns32_0 := NB398_411.out
        have hns32_1 := NB410_411.out
        have hms32_0 := NB411_398.out
        have hms32_1 := NB411_410.out
        have hs33 : w26.cell? ⟨gb411, 1, none⟩ = some (.int .i64 0) := (blk_cell BK411.out 1).trans rfl
        have hfs33 := blk_frozen BK411.out 1
        have hns33_0 := NB398_411.out
        have hns33_1 := NB410_411.out
        have hms33_0 := NB411_398.out
        have hms33_1 := NB411_410.out
        have hs34 : w26.cell? ⟨gb411, 2, none⟩ = some (.int .i64 0) := (blk_cell BK411.out 2).trans rfl
        have hfs34 := blk_frozen BK411.out 2
        have hns34_0 := NB398_411.out
        have hns34_1 := NB410_411.out
        have hms34_0 := NB411_398.out
        have hms34_1 := NB411_410.out
        have hs35 : w26.cell? ⟨gb411, 3, none⟩ = some (.int .i64 0) := (blk_cell BK411.out 3).trans rfl
        have hfs35 := blk_frozen BK411.out 3
        have hns35_0 := NB398_411.out
        have hns35_1 := NB410_411.out
        have hms35_0 := NB411_398.out
        have hms35_1 := NB411_410.out
        have hs36 : w26.cell? ⟨gb411, 4, none⟩ = some (.int .i64 0) := (blk_cell BK411.out 4).trans rfl
        have hfs36 := blk_frozen BK411.out 4
        have hns36_0 := NB398_411.out
        have hns36_1 := NB410_411.out
        have hms36_0 := NB411_398.out
        have hms36_1 := NB411_410.out
        refine skip_ (w1 := ?_) (by rfl) rfl ?_ ?_
        rotate_left
        ·go_simp
         rfl
        refine hK.out _ _ ⟨((cell_far (p := ⟨gb411, _, none⟩) NB398_411.out _).trans (((cell_far (p := ⟨gb411, _, none⟩) NB398_411.out _).trans (((cell_far (p := ⟨gb411, _, none⟩) NB398_411.out _).trans (((cell_far (p := ⟨gb411, _, none⟩) NB398_411.out _).trans (((cell_far (p := ⟨gb411, _, none⟩) NB398_411.out _).trans (hHeld.1)))))))))), ((cell_far (p := ⟨gb411, _, none⟩) NB398_411.out _).trans (((cell_far (p := ⟨gb411, _, none⟩) NB398_411.out _).trans (((cell_far (p := ⟨gb411, _, none⟩) NB398_411.out _).trans (((cell_far (p := ⟨gb411, _, none⟩) NB398_411.out _).trans (((cell_far (p := ⟨gb411, _, none⟩) NB398_411.out _).trans (hHeld.2.1)))))))))), ((cell_far (p := ⟨gb411, _, none⟩) NB398_411.out _).trans (((cell_far (p := ⟨gb411, _, none⟩) NB398_411.out _).trans (((cell_far (p := ⟨gb411, _, none⟩) NB398_411.out _).trans (((cell_far (p := ⟨gb411, _, none⟩) NB398_411.out _).trans (((cell_far (p := ⟨gb411, _, none⟩) NB398_411.out _).trans (hHeld.2.2.1)))))))))), ((cell_far (p := ⟨gb411, _, none⟩) NB398_411.out _).trans (((cell_far (p := ⟨gb411, _, none⟩) NB398_411.out _).trans (((cell_far (p := ⟨gb411, _, none⟩) NB398_411.out _).trans (((cell_far (p := ⟨gb411, _, none⟩) NB398_411.out _).trans (((cell_far (p := ⟨gb411, _, none⟩) NB398_411.out _).trans (hHeld.2.2.2.1)))))))))), ((cell_far (p := ⟨gb411, _, none⟩) NB398_411.out _).trans (((cell_far (p := ⟨gb411, _, none⟩) NB398_411.out _).trans (((cell_far (p := ⟨gb411, _, none⟩) NB398_411.out _).trans (((cell_far (p := ⟨gb411, _, none⟩) NB398_411.out _).trans (((cell_far (p := ⟨gb411, _, none⟩) NB398_411.out _).trans (hHeld.2.2.2.2.1)))))))))), ((cell_far (p := ⟨gb411, _, none⟩) NB398_411.out _).trans (((cell_far (p := ⟨gb411, _, none⟩) NB398_411.out _).trans (((cell_far (p := ⟨gb411, _, none⟩) NB398_411.out _).trans (((cell_far (p := ⟨gb411, _, none⟩) NB398_411.out _).trans (((cell_far (p := ⟨gb411, _, none⟩) NB398_411.out _).trans (hHeld.2.2.2.2.2.1)))))))))), ((cell_far (p := ⟨gb411, _, none⟩) (by first | exact Nat.ne_of_lt (Nat.lt_of_lt_of_le (by have := World.block_lt_of_cell? _ _ hw404_0; first | rwa [add_block] at this | exact this) GW411.out) | (rw [add_block]; exact Nat.ne_of_lt (Nat.lt_of_lt_of_le (by have := World.block_lt_of_cell? _ _ hw404_0; first | rwa [add_block] at this | exact this) GW411.out)) | (show (Addr.add _ _).block ≠ _; rw [add_block]; exact Nat.ne_of_lt (Nat.lt_of_lt_of_le (by have := World.block_lt_of_cell? _ _ hw404_0; first | rwa [add_block] at this | exact this) GW411.out)) | (dsimp only; exact Nat.ne_of_lt (Nat.lt_of_lt_of_le (by have := World.block_lt_of_cell? _ _ hw404_0; first | rwa [add_block] at this | exact this) GW411.out))) _).trans (((cell_far (p := ⟨gb411, _, none⟩) (by first | exact Nat.ne_of_lt (Nat.lt_of_lt_of_le (by have := World.block_lt_of_cell? _ _ hw404_0; first | rwa [add_block] at this | exact this) GW411.out) | (rw [add_block]; exact Nat.ne_of_lt (Nat.lt_of_lt_of_le (by have := World.block_lt_of_cell? _ _ hw404_0; first | rwa [add_block] at this | exact this) GW411.out)) | (show (Addr.add _ _).block ≠ _; rw [add_block]; exact Nat.ne_of_lt (Nat.lt_of_lt_of_le (by have := World.block_lt_of_cell? _ _ hw404_0; first | rwa [add_block] at this | exact this) GW411.out)) | (dsimp only; exact Nat.ne_of_lt (Nat.lt_of_lt_of_le (by have := World.block_lt_of_cell? _ _ hw404_0; first | rwa [add_block] at this | exact this) GW411.out))) _).trans (((cell_far (p := ⟨gb411, _, none⟩) (by first | exact Nat.ne_of_lt (Nat.lt_of_lt_of_le (by have := World.block_lt_of_cell? _ _ hw404_0; first | rwa [add_block] at this | exact this) GW411.out) | (rw [add_block]; exact Nat.ne_of_lt (Nat.lt_of_lt_of_le (by have := World.block_lt_of_cell? _ _ hw404_0; first | rwa [add_block] at this | exact this) GW411.out)) | (show (Addr.add _ _).block ≠ _; rw [add_block]; exact Nat.ne_of_lt (Nat.lt_of_lt_of_le (by have := World.block_lt_of_cell? _ _ hw404_0; first | rwa [add_block] at this | exact this) GW411.out)) | (dsimp only; exact Nat.ne_of_lt (Nat.lt_of_lt_of_le (by have := World.block_lt_of_cell? _ _ hw404_0; first | rwa [add_block] at this | exact this) GW411.out))) _).trans (((cell_far (p := ⟨gb411, _, none⟩) (by first | exact Nat.ne_of_lt (Nat.lt_of_lt_of_le (by have := World.block_lt_of_cell? _ _ hw404_0; first | rwa [add_block] at this | exact this) GW411.out) | (rw [add_block]; exact Nat.ne_of_lt (Nat.lt_of_lt_of_le (by have := World.block_lt_of_cell? _ _ hw404_0; first | rwa [add_block] at this | exact this) GW411.out)) | (show (Addr.add _ _).block ≠ _; rw [add_block]; exact Nat.ne_of_lt (Nat.lt_of_lt_of_le (by have := World.block_lt_of_cell? _ _ hw404_0; first | rwa [add_block] at this | exact this) GW411.out)) | (dsimp only; exact Nat.ne_of_lt (Nat.lt_of_lt_of_le (by have := World.block_lt_of_cell? _ _ hw404_0; first | rwa [add_block] at this | exact this) GW411.out))) _).trans (((cell_far (p := ⟨gb411, _, none⟩) (by first | exact Nat.ne_of_lt (Nat.lt_of_lt_of_le (by have := World.block_lt_of_cell? _ _ hw404_0; first | rwa [add_block] at this | exact this) GW411.out) | (rw [add_block]; exact Nat.ne_of_lt (Nat.lt_of_lt_of_le (by have := World.block_lt_of_cell? _ _ hw404_0; first | rwa [add_block] at this | exact this) GW411.out)) | (show (Addr.add _ _).block ≠ _; rw [add_block]; exact Nat.ne_of_lt (Nat.lt_of_lt_of_le (by have := World.block_lt_of_cell? _ _ hw404_0; first | rwa [add_block] at this | exact this) GW411.out)) | (dsimp only; exact Nat.ne_of_lt (Nat.lt_of_lt_of_le (by have := World.block_lt_of_cell? _ _ hw404_0; first | rwa [add_block] at this | exact this) GW411.out))) _).trans (hHeld.2.2.2.2.2.2.1)))))))))), ((cell_far (p := ⟨gb411, _, none⟩) (by first | exact Nat.ne_of_lt (Nat.lt_of_lt_of_le (by have := World.block_lt_of_cell? _ _ hw404_1; first | rwa [add_block] at this | exact this) GW411.out) | (rw [add_block]; exact Nat.ne_of_lt (Nat.lt_of_lt_of_le (by have := World.block_lt_of_cell? _ _ hw404_1; first | rwa [add_block] at this | exact this) GW411.out)) | (show (Addr.add _ _).block ≠ _; rw [add_block]; exact Nat.ne_of_lt (Nat.lt_of_lt_of_le (by have := World.block_lt_of_cell? _ _ hw404_1; first | rwa [add_block] at this | exact this) GW411.out)) | (dsimp only; exact Nat.ne_of_lt (Nat.lt_of_lt_of_le (by have := World.block_lt_of_cell? _ _ hw404_1; first | rwa [add_block] at this | exact this) GW411.out))) _).trans (((cell_far (p := ⟨gb411, _, none⟩) (by first | exact Nat.ne_of_lt (Nat.lt_of_lt_of_le (by have := World.block_lt_of_cell? _ _ hw404_1; first | rwa [add_block] at this | exact this) GW411.out) | (rw [add_block]; exact Nat.ne_of_lt (Nat.lt_of_lt_of_le (by have := World.block_lt_of_cell? _ _ hw404_1; first | rwa [add_block] at this | exact this) GW411.out)) | (show (Addr.add _ _).block ≠ _; rw [add_block]; exact Nat.ne_of_lt (Nat.lt_of_lt_of_le (by have := World.block_lt_of_cell? _ _ hw404_1; first | rwa [add_block] at this | exact this) GW411.out)) | (dsimp only; exact Nat.ne_of_lt (Nat.lt_of_lt_of_le (by have := World.block_lt_of_cell? _ _ hw404_1; first | rwa [add_block] at this | exact this) GW411.out))) _).trans (((cell_far (p := ⟨gb411, _, none⟩) (by first | exact Nat.ne_of_lt (Nat.lt_of_lt_of_le (by have := World.block_lt_of_cell? _ _ hw404_1; first | rwa [add_block] at this | exact this) GW411.out) | (rw [add_block]; exact Nat.ne_of_lt (Nat.lt_of_lt_of_le (by have := World.block_lt_of_cell? _ _ hw404_1; first | rwa [add_block] at this | exact this) GW411.out)) | (show (Addr.add _ _).block ≠ _; rw [add_block]; exact Nat.ne_of_lt (Nat.lt_of_lt_of_le (by have := World.block_lt_of_cell? _ _ hw404_1; first | rwa [add_block] at this | exact this) GW411.out)) | (dsimp only; exact Nat.ne_of_lt (Nat.lt_of_lt_of_le (by have := World.block_lt_of_cell? _ _ hw404_1; first | rwa [add_block] at this | exact this) GW411.out))) _).trans (((cell_far (p := ⟨gb411, _, none⟩) (by first | exact Nat.ne_of_lt (Nat.lt_of_lt_of_le (by have := World.block_lt_of_cell? _ _ hw404_1; first | rwa [add_block] at this | exact this) GW411.out) | (rw [add_block]; exact Nat.ne_of_lt (Nat.lt_of_lt_of_le (by have := World.block_lt_of_cell? _ _ hw404_1; first | rwa [add_block] at this | exact this) GW411.out)) | (show (Addr.add _ _).block ≠ _; rw [add_block]; exact Nat.ne_of_lt (Nat.lt_of_lt_of_le (by have := World.block_lt_of_cell? _ _ hw404_1; first | rwa [add_block] at this | exact this) GW411.out)) | (dsimp only; exact Nat.ne_of_lt (Nat.lt_of_lt_of_le (by have := World.block_lt_of_cell? _ _ hw404_1; first | rwa [add_block] at this | exact this) GW411.out))) _).trans (((cell_far (p := ⟨gb411, _, none⟩) (by first | exact Nat.ne_of_lt (Nat.lt_of_lt_of_le (by have := World.block_lt_of_cell? _ _ hw404_1; first | rwa [add_block] at this | exact this) GW411.out) | (rw [add_block]; exact Nat.ne_of_lt (Nat.lt_of_lt_of_le (by have := World.block_lt_of_cell? _ _ hw404_1; first | rwa [add_block] at this | exact this) GW411.out)) | (show (Addr.add _ _).block ≠ _; rw [add_block]; exact Nat.ne_of_lt (Nat.lt_of_lt_of_le (by have := World.block_lt_of_cell? _ _ hw404_1; first | rwa [add_block] at this | exact this) GW411.out)) | (dsimp only; exact Nat.ne_of_lt (Nat.lt_of_lt_of_le (by have := World.block_lt_of_cell? _ _ hw404_1; first | rwa [add_block] at this | exact this) GW411.out))) _).trans (hHeld.2.2.2.2.2.2.2.1)))))))))), ((cell_far (p := ⟨gb411, _, none⟩) (by first | exact Nat.ne_of_lt (Nat.lt_of_lt_of_le (by have := World.block_lt_of_cell? _ _ hw404_2; first | rwa [add_block] at this | exact this) GW411.out) | (rw [add_block]; exact Nat.ne_of_lt (Nat.lt_of_lt_of_le (by have := World.block_lt_of_cell? _ _ hw404_2; first | rwa [add_block] at this | exact this) GW411.out)) | (show (Addr.add _ _).block ≠ _; rw [add_block]; exact Nat.ne_of_lt (Nat.lt_of_lt_of_le (by have := World.block_lt_of_cell? _ _ hw404_2; first | rwa [add_block] at this | exact this) GW411.out)) | (dsimp only; exact Nat.ne_of_lt (Nat.lt_of_lt_of_le (by have := World.block_lt_of_cell? _ _ hw404_2; first | rwa [add_block] at this | exact this) GW411.out))) _).trans (((cell_far (p := ⟨gb411, _, none⟩) (by first | exact Nat.ne_of_lt (Nat.lt_of_lt_of_le (by have := World.block_lt_of_cell? _ _ hw404_2; first | rwa [add_block] at this | exact this) GW411.out) | (rw [add_block]; exact Nat.ne_of_lt (Nat.lt_of_lt_of_le (by have := World.block_lt_of_cell? _ _ hw404_2; first | rwa [add_block] at this | exact this) GW411.out)) | (show (Addr.add _ _).block ≠ _; rw [add_block]; exact Nat.ne_of_lt (Nat.lt_of_lt_of_le (by have := World.block_lt_of_cell? _ _ hw404_2; first | rwa [add_block] at this | exact this) GW411.out)) | (dsimp only; exact Nat.ne_of_lt (Nat.lt_of_lt_of_le (by have := World.block_lt_of_cell? _ _ hw404_2; first | rwa [add_block] at this | exact this) GW411.out))) _).trans (((cell_far (p := ⟨gb411, _, none⟩) (by first | exact Nat.ne_of_lt (Nat.lt_of_lt_of_le (by have := World.block_lt_of_cell? _ _ hw404_2; first | rwa [add_block] at this | exact this) GW411.out) | (rw [add_block]; exact Nat.ne_of_lt (Nat.lt_of_lt_of_le (by have := World.block_lt_of_cell? _ _ hw404_2; first | rwa [add_block] at this | exact this) GW411.out)) | (show (Addr.add _ _).block ≠ _; rw [add_block]; exact Nat.ne_of_lt (Nat.lt_of_lt_of_le (by have := World.block_lt_of_cell? _ _ hw404_2; first | rwa [add_block] at this | exact this) GW411.out)) | (dsimp only; exact Nat.ne_of_lt (Nat.lt_of_lt_of_le (by have := World.block_lt_of_cell? _ _ hw404_2; first | rwa [add_block] at this | exact this) GW411.out))) _).trans (((cell_far (p := ⟨gb411, _, none⟩) (by first | exact Nat.ne_of_lt (Nat.lt_of_lt_of_le (by have := World.block_lt_of_cell? _ _ hw404_2; first | rwa [add_block] at this | exact this) GW411.out) | (rw [add_block]; exact Nat.ne_of_lt (Nat.lt_of_lt_of_le (by have := World.block_lt_of_cell? _ _ hw404_2; first | rwa [add_block] at this | exact this) GW411.out)) | (show (Addr.add _ _).block ≠ _; rw [add_block]; exact Nat.ne_of_lt (Nat.lt_of_lt_of_le (by have := World.block_lt_of_cell? _ _ hw404_2; first | rwa [add_block] at this | exact this) GW411.out)) | (dsimp only; exact Nat.ne_of_lt (Nat.lt_of_lt_of_le (by have := World.block_lt_of_cell? _ _ hw404_2; first | rwa [add_block] at this | exact this) GW411.out))) _).trans (((cell_far (p := ⟨gb411, _, none⟩) (by first | exact Nat.ne_of_lt (Nat.lt_of_lt_of_le (by have := World.block_lt_of_cell? _ _ hw404_2; first | rwa [add_block] at this | exact this) GW411.out) | (rw [add_block]; exact Nat.ne_of_lt (Nat.lt_of_lt_of_le (by have := World.block_lt_of_cell? _ _ hw404_2; first | rwa [add_block] at this | exact this) GW411.out)) | (show (Addr.add _ _).block ≠ _; rw [add_block]; exact Nat.ne_of_lt (Nat.lt_of_lt_of_le (by have := World.block_lt_of_cell? _ _ hw404_2; first | rwa [add_block] at this | exact this) GW411.out)) | (dsimp only; exact Nat.ne_of_lt (Nat.lt_of_lt_of_le (by have := World.block_lt_of_cell? _ _ hw404_2; first | rwa [add_block] at this | exact this) GW411.out))) _).trans (hHeld.2.2.2.2.2.2.2.2.1)))))))))), ((cell_far (p := ⟨gb411, _, none⟩) (by first | exact Nat.ne_of_lt (Nat.lt_of_lt_of_le (by have := World.block_lt_of_cell? _ _ hw404_3; first | rwa [add_block] at this | exact this) GW411.out) | (rw [add_block]; exact Nat.ne_of_lt (Nat.lt_of_lt_of_le (by have := World.block_lt_of_cell? _ _ hw404_3; first | rwa [add_block] at this | exact this) GW411.out)) | (show (Addr.add _ _).block ≠ _; rw [add_block]; exact Nat.ne_of_lt (Nat.lt_of_lt_of_le (by have := World.block_lt_of_cell? _ _ hw404_3; first | rwa [add_block] at this | exact this) GW411.out)) | (dsimp only; exact Nat.ne_of_lt (Nat.lt_of_lt_of_le (by have := World.block_lt_of_cell? _ _ hw404_3; first | rwa [add_block] at this | exact this) GW411.out))) _).trans (((cell_far (p := ⟨gb411, _, none⟩) (by first | exact Nat.ne_of_lt (Nat.lt_of_lt_of_le (by have := World.block_lt_of_cell? _ _ hw404_3; first | rwa [add_block] at this | exact this) GW411.out) | (rw [add_block]; exact Nat.ne_of_lt (Nat.lt_of_lt_of_le (by have := World.block_lt_of_cell? _ _ hw404_3; first | rwa [add_block] at this | exact this) GW411.out)) | (show (Addr.add _ _).block ≠ _; rw [add_block]; exact Nat.ne_of_lt (Nat.lt_of_lt_of_le (by have := World.block_lt_of_cell? _ _ hw404_3; first | rwa [add_block] at this | exact this) GW411.out)) | (dsimp only; exact Nat.ne_of_lt (Nat.lt_of_lt_of_le (by have := World.block_lt_of_cell? _ _ hw404_3; first | rwa [add_block] at this | exact this) GW411.out))) _).trans (((cell_far (p := ⟨gb411, _, none⟩) (by first | exact Nat.ne_of_lt (Nat.lt_of_lt_of_le (by have := World.block_lt_of_cell? _ _ hw404_3; first | rwa [add_block] at this | exact this) GW411.out) | (rw [add_block]; exact Nat.ne_of_lt (Nat.lt_of_lt_of_le (by have := World.block_lt_of_cell? _ _ hw404_3; first | rwa [add_block] at this | exact this) GW411.out)) | (show (Addr.add _ _).block ≠ _; rw [add_block]; exact Nat.ne_of_lt (Nat.lt_of_lt_of_le (by have := World.block_lt_of_cell? _ _ hw404_3; first | rwa [add_block] at this | exact this) GW411.out)) | (dsimp only; exact Nat.ne_of_lt (Nat.lt_of_lt_of_le (by have := World.block_lt_of_cell? _ _ hw404_3; first | rwa [add_block] at this | exact this) GW411.out))) _).trans (((cell_far (p := ⟨gb411, _, none⟩) (by first | exact Nat.ne_of_lt (Nat.lt_of_lt_of_le (by have := World.block_lt_of_cell? _ _ hw404_3; first | rwa [add_block] at this | exact this) GW411.out) | (rw [add_block]; exact Nat.ne_of_lt (Nat.lt_of_lt_of_le (by have := World.block_lt_of_cell? _ _ hw404_3; first | rwa [add_block] at this | exact this) GW411.out)) | (show (Addr.add _ _).block ≠ _; rw [add_block]; exact Nat.ne_of_lt (Nat.lt_of_lt_of_le (by have := World.block_lt_of_cell? _ _ hw404_3; first | rwa [add_block] at this | exact this) GW411.out)) | (dsimp only; exact Nat.ne_of_lt (Nat.lt_of_lt_of_le (by have := World.block_lt_of_cell? _ _ hw404_3; first | rwa [add_block] at this | exact this) GW411.out))) _).trans (((cell_far (p := ⟨gb411, _, none⟩) (by first | exact Nat.ne_of_lt (Nat.lt_of_lt_of_le (by have := World.block_lt_of_cell? _ _ hw404_3; first | rwa [add_block] at this | exact this) GW411.out) | (rw [add_block]; exact Nat.ne_of_lt (Nat.lt_of_lt_of_le (by have := World.block_lt_of_cell? _ _ hw404_3; first | rwa [add_block] at this | exact this) GW411.out)) | (show (Addr.add _ _).block ≠ _; rw [add_block]; exact Nat.ne_of_lt (Nat.lt_of_lt_of_le (by have := World.block_lt_of_cell? _ _ hw404_3; first | rwa [add_block] at this | exact this) GW411.out)) | (dsimp only; exact Nat.ne_of_lt (Nat.lt_of_lt_of_le (by have := World.block_lt_of_cell? _ _ hw404_3; first | rwa [add_block] at this | exact this) GW411.out))) _).trans (hHeld.2.2.2.2.2.2.2.2.2.1)))))))))), ((cell_far (p := ⟨gb411, _, none⟩) (by first | exact Nat.ne_of_lt (Nat.lt_of_lt_of_le (by have := World.block_lt_of_cell? _ _ hw404_4; first | rwa [add_block] at this | exact this) GW411.out) | (rw [add_block]; exact Nat.ne_of_lt (Nat.lt_of_lt_of_le (by have := World.block_lt_of_cell? _ _ hw404_4; first | rwa [add_block] at this | exact this) GW411.out)) | (show (Addr.add _ _).block ≠ _; rw [add_block]; exact Nat.ne_of_lt (Nat.lt_of_lt_of_le (by have := World.block_lt_of_cell? _ _ hw404_4; first | rwa [add_block] at this | exact this) GW411.out)) | (dsimp only; exact Nat.ne_of_lt (Nat.lt_of_lt_of_le (by have := World.block_lt_of_cell? _ _ hw404_4; first | rwa [add_block] at this | exact this) GW411.out))) _).trans (((cell_far (p := ⟨gb411, _, none⟩) (by first | exact Nat.ne_of_lt (Nat.lt_of_lt_of_le (by have := World.block_lt_of_cell? _ _ hw404_4; first | rwa [add_block] at this | exact this) GW411.out) | (rw [add_block]; exact Nat.ne_of_lt (Nat.lt_of_lt_of_le (by have := World.block_lt_of_cell? _ _ hw404_4; first | rwa [add_block] at this | exact this) GW411.out)) | (show (Addr.add _ _).block ≠ _; rw [add_block]; exact Nat.ne_of_lt (Nat.lt_of_lt_of_le (by have := World.block_lt_of_cell? _ _ hw404_4; first | rwa [add_block] at this | exact this) GW411.out)) | (dsimp only; exact Nat.ne_of_lt (Nat.lt_of_lt_of_le (by have := World.block_lt_of_cell? _ _ hw404_4; first | rwa [add_block] at this | exact this) GW411.out))) _).trans (((cell_far (p := ⟨gb411, _, none⟩) (by first | exact Nat.ne_of_lt (Nat.lt_of_lt_of_le (by have := World.block_lt_of_cell? _ _ hw404_4; first | rwa [add_block] at this | exact this) GW411.out) | (rw [add_block]; exact Nat.ne_of_lt (Nat.lt_of_lt_of_le (by have := World.block_lt_of_cell? _ _ hw404_4; first | rwa [add_block] at this | exact this) GW411.out)) | (show (Addr.add _ _).block ≠ _; rw [add_block]; exact Nat.ne_of_lt (Nat.lt_of_lt_of_le (by have := World.block_lt_of_cell? _ _ hw404_4; first | rwa [add_block] at this | exact this) GW411.out)) | (dsimp only; exact Nat.ne_of_lt (Nat.lt_of_lt_of_le (by have := World.block_lt_of_cell? _ _ hw404_4; first | rwa [add_block] at this | exact this) GW411.out))) _).trans (((cell_far (p := ⟨gb411, _, none⟩) (by first | exact Nat.ne_of_lt (Nat.lt_of_lt_of_le (by have := World.block_lt_of_cell? _ _ hw404_4; first | rwa [add_block] at this | exact this) GW411.out) | (rw [add_block]; exact Nat.ne_of_lt (Nat.lt_of_lt_of_le (by have := World.block_lt_of_cell? _ _ hw404_4; first | rwa [add_block] at this | exact this) GW411.out)) | (show (Addr.add _ _).block ≠ _; rw [add_block]; exact Nat.ne_of_lt (Nat.lt_of_lt_of_le (by have := World.block_lt_of_cell? _ _ hw404_4; first | rwa [add_block] at this | exact this) GW411.out)) | (dsimp only; exact Nat.ne_of_lt (Nat.lt_of_lt_of_le (by have := World.block_lt_of_cell? _ _ hw404_4; first | rwa [add_block] at this | exact this) GW411.out))) _).trans (((cell_far (p := ⟨gb411, _, none⟩) (by first | exact Nat.ne_of_lt (Nat.lt_of_lt_of_le (by have := World.block_lt_of_cell? _ _ hw404_4; first | rwa [add_block] at this | exact this) GW411.out) | (rw [add_block]; exact Nat.ne_of_lt (Nat.lt_of_lt_of_le (by have := World.block_lt_of_cell? _ _ hw404_4; first | rwa [add_block] at this | exact this) GW411.out)) | (show (Addr.add _ _).block ≠ _; rw [add_block]; exact Nat.ne_of_lt (Nat.lt_of_lt_of_le (by have := World.block_lt_of_cell? _ _ hw404_4; first | rwa [add_block] at this | exact this) GW411.out)) | (dsimp only; exact Nat.ne_of_lt (Nat.lt_of_lt_of_le (by have := World.block_lt_of_cell? _ _ hw404_4; first | rwa [add_block] at this | exact this) GW411.out))) _).trans (hHeld.2.2.2.2.2.2.2.2.2.2.1)))))))))), ((cell_far (p := ⟨gb411, _, none⟩) (by first | exact Nat.ne_of_lt (Nat.lt_of_lt_of_le (by have := World.block_lt_of_cell? _ _ hw404_5; first | rwa [add_block] at this | exact this) GW411.out) | (rw [add_block]; exact Nat.ne_of_lt (Nat.lt_of_lt_of_le (by have := World.block_lt_of_cell? _ _ hw404_5; first | rwa [add_block] at this | exact this) GW411.out)) | (show (Addr.add _ _).block ≠ _; rw [add_block]; exact Nat.ne_of_lt (Nat.lt_of_lt_of_le (by have := World.block_lt_of_cell? _ _ hw404_5; first | rwa [add_block] at this | exact this) GW411.out)) | (dsimp only; exact Nat.ne_of_lt (Nat.lt_of_lt_of_le (by have := World.block_lt_of_cell? _ _ hw404_5; first | rwa [add_block] at this | exact this) GW411.out))) _).trans (((cell_far (p := ⟨gb411, _, none⟩) (by first | exact Nat.ne_of_lt (Nat.lt_of_lt_of_le (by have := World.block_lt_of_cell? _ _ hw404_5; first | rwa [add_block] at this | exact this) GW411.out) | (rw [add_block]; exact Nat.ne_of_lt (Nat.lt_of_lt_of_le (by have := World.block_lt_of_cell? _ _ hw404_5; first | rwa [add_block] at this | exact this) GW411.out)) | (show (Addr.add _ _).block ≠ _; rw [add_block]; exact Nat.ne_of_lt (Nat.lt_of_lt_of_le (by have := World.block_lt_of_cell? _ _ hw404_5; first | rwa [add_block] at this | exact this) GW411.out)) | (dsimp only; exact Nat.ne_of_lt (Nat.lt_of_lt_of_le (by have := World.block_lt_of_cell? _ _ hw404_5; first | rwa [add_block] at this | exact this) GW411.out))) _).trans (((cell_far (p := ⟨gb411, _, none⟩) (by first | exact Nat.ne_of_lt (Nat.lt_of_lt_of_le (by have := World.block_lt_of_cell? _ _ hw404_5; first | rwa [add_block] at this | exact this) GW411.out) | (rw [add_block]; exact Nat.ne_of_lt (Nat.lt_of_lt_of_le (by have := World.block_lt_of_cell? _ _ hw404_5; first | rwa [add_block] at this | exact this) GW411.out)) | (show (Addr.add _ _).block ≠ _; rw [add_block]; exact Nat.ne_of_lt (Nat.lt_of_lt_of_le (by have := World.block_lt_of_cell? _ _ hw404_5; first | rwa [add_block] at this | exact this) GW411.out)) | (dsimp only; exact Nat.ne_of_lt (Nat.lt_of_lt_of_le (by have := World.block_lt_of_cell? _ _ hw404_5; first | rwa [add_block] at this | exact this) GW411.out))) _).trans (((cell_far (p := ⟨gb411, _, none⟩) (by first | exact Nat.ne_of_lt (Nat.lt_of_lt_of_le (by have := World.block_lt_of_cell? _ _ hw404_5; first | rwa [add_block] at this | exact this) GW411.out) | (rw [add_block]; exact Nat.ne_of_lt (Nat.lt_of_lt_of_le (by have := World.block_lt_of_cell? _ _ hw404_5; first | rwa [add_block] at this | exact this) GW411.out)) | (show (Addr.add _ _).block ≠ _; rw [add_block]; exact Nat.ne_of_lt (Nat.lt_of_lt_of_le (by have := World.block_lt_of_cell? _ _ hw404_5; first | rwa [add_block] at this | exact this) GW411.out)) | (dsimp only; exact Nat.ne_of_lt (Nat.lt_of_lt_of_le (by have := World.block_lt_of_cell? _ _ hw404_5; first | rwa [add_block] at this | exact this) GW411.out))) _).trans (((cell_far (p := ⟨gb411, _, none⟩) (by first | exact Nat.ne_of_lt (Nat.lt_of_lt_of_le (by have := World.block_lt_of_cell? _ _ hw404_5; first | rwa [add_block] at this | exact this) GW411.out) | (rw [add_block]; exact Nat.ne_of_lt (Nat.lt_of_lt_of_le (by have := World.block_lt_of_cell? _ _ hw404_5; first | rwa [add_block] at this | exact this) GW411.out)) | (show (Addr.add _ _).block ≠ _; rw [add_block]; exact Nat.ne_of_lt (Nat.lt_of_lt_of_le (by have := World.block_lt_of_cell? _ _ hw404_5; first | rwa [add_block] at this | exact this) GW411.out)) | (dsimp only; exact Nat.ne_of_lt (Nat.lt_of_lt_of_le (by have := World.block_lt_of_cell? _ _ hw404_5; first | rwa [add_block] at this | exact this) GW411.out))) _).trans (hHeld.2.2.2.2.2.2.2.2.2.2.2))))))))))⟩ (fun hHeld => ?_)
        clear hK K
        refine done_ (done_of HT_.out (by kernel_rfl)) ?_
        have hnb37 := NB410_398.out
        have hnc37 := NB398_410.out
        have hnb38 := NB410_411.out
        have hnc38 := NB411_410.out
        have hcz39_0 : w26.cell? ⟨gb410, 0, none⟩ = some (.int .i64 0) := (blk_cell BK410.out 0).trans rfl
        have hcz39_1 : w26.cell? ⟨gb410, 1, none⟩ = some (.int .i64 0) := (blk_cell BK410.out 1).trans rfl
        have hcz39_2 : w26.cell? ⟨gb410, 2, none⟩ = some (.int .i64 0) := (blk_cell BK410.out 2).trans rfl
        have hcz39_3 : w26.cell? ⟨gb410, 3, none⟩ = some (.int .i64 0) := (blk_cell BK410.out 3).trans rfl
        have hcz39_4 : w26.cell? ⟨gb410, 4, none⟩ = some (.int .i64 0) := (blk_cell BK410.out 4).trans rfl
        have hfz39_0 := blk_frozen BK410.out 0
        have hfz39_1 := blk_frozen BK410.out 1
        have hfz39_2 := blk_frozen BK410.out 2
        have hfz39_3 := blk_frozen BK410.out 3
        have hfz39_4 := blk_frozen BK410.out 4
        have hnb40 := NB411_398.out
        have hnc40 := NB398_411.out
        have hcz41_0 : w26.cell? ⟨gb411, 0, none⟩ = some (.int .i64 0) := (blk_cell BK411.out 0).trans rfl
        have hcz41_1 : w26.cell? ⟨gb411, 1, none⟩ = some (.int .i64 0) := (blk_cell BK411.out 1).trans rfl
        have hcz41_2 : w26.cell? ⟨gb411, 2, none⟩ = some (.int .i64 0) := (blk_cell BK411.out 2).trans rfl
        have hcz41_3 : w26.cell? ⟨gb411, 3, none⟩ = some (.int .i64 0) := (blk_cell BK411.out 3).trans rfl
        have hcz41_4 : w26.cell? ⟨gb411, 4, none⟩ = some (.int .i64 0) := (blk_cell BK411.out 4).trans rfl
        have hfz41_0 := blk_frozen BK411.out 0
        have hfz41_1 := blk_frozen BK411.out 1
        have hfz41_2 := blk_frozen BK411.out 2
        have hfz41_3 := blk_frozen BK411.out 3
        have hfz41_4 := blk_frozen BK411.out 4
        have H := HZ_.out
        clear HZ_
        by_cases c16 : t413 > 2
        ·rw [if_pos c16] at H
         have c16b0 : decide (2 < t413) = true := decide_eq_true c16
         clear c16
         by_cases c17 : x4_1.length < 17592186044416
         ·rw [if_pos c17] at H
          have LMc17 := Aside0.mk c17
          clear c17
          obtain ⟨y414, hy414⟩ : ∃ y_ : List Int, y_ = (x4_1 ++ [x5_1]) := ⟨_, rfl⟩
          replace H : (spec_PairErrors.l0 k1 l0 y414 (wrap64 (x5_1 + 1))) = some (r1, r2) := by first | (rw [hy414]; with_reducible exact H) | (have H2_ := (Option.bind_some _ _).symm.trans H; rw [hy414]; with_reducible exact H2_) | (have H2_ := (Option.bind_some _ _).symm.trans H; with_reducible exact H2_) | with_reducible exact H | (rw [hy414]; exact H) | exact H
          have Ny414 := Aside0.mk hy414
          clear hy414
          have H' := Aside0.mk H
          clear H
          try go_wp2_with (first | ((with_reducible refine gate_callee (f := 82) rfl ?_); refine goesL_ (some 42) rfl rfl Try.func82 (by kernel_rfl) rfl #[.int .i64 t402, .int .i64 t408] rfl (by (try simp only [List.map_toArray, List.map_cons, List.map_nil]); first | done | rfl | (simp only [List.length_drop, List.length_take]; rfl)) ?_; (with_reducible refine (spec_l7Apart.calls t402 t408 t412 _ A14.out).mono ?_); rintro e w' ⟨rfl, ⟨nd, rfl⟩⟩; refine ⟨_, rfl, ?_⟩) | ((with_reducible refine gate_callee (f := 82) rfl ?_); refine goesL_ (some 47) rfl rfl Try.func82 (by kernel_rfl) rfl #[.int .i64 t401, .int .i64 t407] rfl (by (try simp only [List.map_toArray, List.map_cons, List.map_nil]); first | done | rfl | (simp only [List.length_drop, List.length_take]; rfl)) ?_; (with_reducible refine (spec_l7Apart.calls t401 t407 t413 _ A15.out).mono ?_); rintro e w' ⟨rfl, ⟨nd, rfl⟩⟩; refine ⟨_, rfl, ?_⟩) | ((with_reducible refine gate_builtin (b := .append) (xs := #[.tmp 64, .tmp 66]) rfl ?_); at_builtin; refine Kd.R_append (Kd.int .i64) (w0 := w) w.heap.size rfl (.tmp 64) (.tmp 66) 32 3 (.int .i64 0) 8 rfl Try.underlying32 info3 rfl (by decide) (by omega) u4 x4_1 x5_1 [.int .i64 x5_1] (fun _ => True) (fun _ => False) rfl (by first | (go_simp; done) | (go_simp; rfl)) ?aP (fun _ hk => hk.elim) ?aF ?aO ?aB ?aS ?aL ?_; (case aP => exact rfl); (case aB => exact (by repeat (first | (with_reducible first | exact HB.out | apply below_alloc | apply pw_below_drewN | apply below_drew1 | refine below_set ?_ GE398.out | refine below_set ?_ GE410.out | refine below_set ?_ GE411.out) | exact HB.out))); (case aF => exact (fun _ _ => trivial)); (case aO => exact (by (with_reducible repeat (first | apply Kd.R_alloc | apply Kd.R_drewN | apply Kd.R_drew)); exact Kd.R_mono (Kd.R_far (p := ⟨gb411, 4, none⟩) (Kd.R_far (p := ⟨gb411, 3, none⟩) (Kd.R_far (p := ⟨gb411, 2, none⟩) (Kd.R_far (p := ⟨gb411, 1, none⟩) (Kd.R_far (p := ⟨gb411, 0, none⟩) (Kd.R_far (p := ⟨gb410, 4, none⟩) (Kd.R_far (p := ⟨gb410, 3, none⟩) (Kd.R_far (p := ⟨gb410, 2, none⟩) (Kd.R_far (p := ⟨gb410, 1, none⟩) (Kd.R_far (p := ⟨gb410, 0, none⟩) (Kd.R_types (Kd.R_types HO_4.out BK410.out (by decide)) BK411.out (by decide)) (fun _ hk => hk.1.2) (.int .i64 t399)) (fun _ hk => hk.1.2) (.int .i64 t400)) (fun _ hk => hk.1.2) (.int .i64 t401)) (fun _ hk => hk.1.2) (.int .i64 t402)) (fun _ hk => hk.1.2) (.int .i64 t403)) (fun _ hk => hk.2) (.int .i64 t405)) (fun _ hk => hk.2) (.int .i64 t406)) (fun _ hk => hk.2) (.int .i64 t407)) (fun _ hk => hk.2) (.int .i64 t408)) (fun _ hk => hk.2) (.int .i64 t409)) (fun _ hk => trivial))); (case aS => exact (below_size (by repeat (first | (with_reducible first | exact HB.out | apply below_alloc | apply pw_below_drewN | apply below_drew1 | refine below_set ?_ GE398.out | refine below_set ?_ GE410.out | refine below_set ?_ GE411.out) | exact HB.out)))); (case aL => have := LMc17.out; omega); intro v415 w42 ho hb hg hat; rw [← Ny414.out] at ho; have n0_ := Aside0.mk (blk_grown (g := gb398) (o := .cells #[.int .i64 ((rd_T75 l0 t396).f0), .int .i64 ((rd_T75 l0 t396).f1), .int .i64 ((rd_T75 l0 t396).f2), .int .i64 ((rd_T75 l0 t396).f3), .int .i64 ((rd_T75 l0 t396).f4), .bool ((rd_T75 l0 t396).f5)] 75 (0, 0)) (by (with_reducible repeat (first | refine blk_drewN ?_ _ | refine blk_drew ?_ | refine blk_alloc ?_ _)); refine blk_far ?_ NB398_411.out _; (with_reducible repeat (first | refine blk_drewN ?_ _ | refine blk_drew ?_ | refine blk_alloc ?_ _)); refine blk_far ?_ NB398_411.out _; (with_reducible repeat (first | refine blk_drewN ?_ _ | refine blk_drew ?_ | refine blk_alloc ?_ _)); refine blk_far ?_ NB398_411.out _; (with_reducible repeat (first | refine blk_drewN ?_ _ | refine blk_drew ?_ | refine blk_alloc ?_ _)); refine blk_far ?_ NB398_411.out _; (with_reducible repeat (first | refine blk_drewN ?_ _ | refine blk_drew ?_ | refine blk_alloc ?_ _)); refine blk_far ?_ NB398_411.out _; (with_reducible repeat (first | refine blk_drewN ?_ _ | refine blk_drew ?_ | refine blk_alloc ?_ _)); refine blk_far ?_ NB398_410.out _; (with_reducible repeat (first | refine blk_drewN ?_ _ | refine blk_drew ?_ | refine blk_alloc ?_ _)); refine blk_far ?_ NB398_410.out _; (with_reducible repeat (first | refine blk_drewN ?_ _ | refine blk_drew ?_ | refine blk_alloc ?_ _)); refine blk_far ?_ NB398_410.out _; (with_reducible repeat (first | refine blk_drewN ?_ _ | refine blk_drew ?_ | refine blk_alloc ?_ _)); refine blk_far ?_ NB398_410.out _; (with_reducible repeat (first | refine blk_drewN ?_ _ | refine blk_drew ?_ | refine blk_alloc ?_ _)); refine blk_far ?_ NB398_410.out _; (with_reducible repeat (first | refine blk_drewN ?_ _ | refine blk_drew ?_ | refine blk_alloc ?_ _)); exact BK398.out) hg (Kd.R_ne HO_4.out BK398.out (by decide))); have n1_ := Aside0.mk (blk_grown (g := gb410) (o := .cells #[.int .i64 t399, .int .i64 t400, .int .i64 t401, .int .i64 t402, .int .i64 t403] 71 (0, 0)) (by (with_reducible repeat (first | refine blk_drewN ?_ _ | refine blk_drew ?_ | refine blk_alloc ?_ _)); refine blk_far ?_ NB410_411.out _; (with_reducible repeat (first | refine blk_drewN ?_ _ | refine blk_drew ?_ | refine blk_alloc ?_ _)); refine blk_far ?_ NB410_411.out _; (with_reducible repeat (first | refine blk_drewN ?_ _ | refine blk_drew ?_ | refine blk_alloc ?_ _)); refine blk_far ?_ NB410_411.out _; (with_reducible repeat (first | refine blk_drewN ?_ _ | refine blk_drew ?_ | refine blk_alloc ?_ _)); refine blk_far ?_ NB410_411.out _; (with_reducible repeat (first | refine blk_drewN ?_ _ | refine blk_drew ?_ | refine blk_alloc ?_ _)); refine blk_far ?_ NB410_411.out _; (with_reducible repeat (first | refine blk_drewN ?_ _ | refine blk_drew ?_ | refine blk_alloc ?_ _)); refine blk_put (cs := #[.int .i64 t399, .int .i64 t400, .int .i64 t401, .int .i64 t402, .int .i64 0]) ?_ 4 _ rfl; (with_reducible repeat (first | refine blk_drewN ?_ _ | refine blk_drew ?_ | refine blk_alloc ?_ _)); refine blk_put (cs := #[.int .i64 t399, .int .i64 t400, .int .i64 t401, .int .i64 0, .int .i64 0]) ?_ 3 _ rfl; (with_reducible repeat (first | refine blk_drewN ?_ _ | refine blk_drew ?_ | refine blk_alloc ?_ _)); refine blk_put (cs := #[.int .i64 t399, .int .i64 t400, .int .i64 0, .int .i64 0, .int .i64 0]) ?_ 2 _ rfl; (with_reducible repeat (first | refine blk_drewN ?_ _ | refine blk_drew ?_ | refine blk_alloc ?_ _)); refine blk_put (cs := #[.int .i64 t399, .int .i64 0, .int .i64 0, .int .i64 0, .int .i64 0]) ?_ 1 _ rfl; (with_reducible repeat (first | refine blk_drewN ?_ _ | refine blk_drew ?_ | refine blk_alloc ?_ _)); refine blk_put (cs := #[.int .i64 0, .int .i64 0, .int .i64 0, .int .i64 0, .int .i64 0]) ?_ 0 _ rfl; (with_reducible repeat (first | refine blk_drewN ?_ _ | refine blk_drew ?_ | refine blk_alloc ?_ _)); exact BK410.out) hg (Kd.R_ne HO_4.out BK410.out (by decide))); have n2_ := Aside0.mk (blk_grown (g := gb411) (o := .cells #[.int .i64 t405, .int .i64 t406, .int .i64 t407, .int .i64 t408, .int .i64 t409] 71 (0, 0)) (by (with_reducible repeat (first | refine blk_drewN ?_ _ | refine blk_drew ?_ | refine blk_alloc ?_ _)); refine blk_put (cs := #[.int .i64 t405, .int .i64 t406, .int .i64 t407, .int .i64 t408, .int .i64 0]) ?_ 4 _ rfl; (with_reducible repeat (first | refine blk_drewN ?_ _ | refine blk_drew ?_ | refine blk_alloc ?_ _)); refine blk_put (cs := #[.int .i64 t405, .int .i64 t406, .int .i64 t407, .int .i64 0, .int .i64 0]) ?_ 3 _ rfl; (with_reducible repeat (first | refine blk_drewN ?_ _ | refine blk_drew ?_ | refine blk_alloc ?_ _)); refine blk_put (cs := #[.int .i64 t405, .int .i64 t406, .int .i64 0, .int .i64 0, .int .i64 0]) ?_ 2 _ rfl; (with_reducible repeat (first | refine blk_drewN ?_ _ | refine blk_drew ?_ | refine blk_alloc ?_ _)); refine blk_put (cs := #[.int .i64 t405, .int .i64 0, .int .i64 0, .int .i64 0, .int .i64 0]) ?_ 1 _ rfl; (with_reducible repeat (first | refine blk_drewN ?_ _ | refine blk_drew ?_ | refine blk_alloc ?_ _)); refine blk_put (cs := #[.int .i64 0, .int .i64 0, .int .i64 0, .int .i64 0, .int .i64 0]) ?_ 0 _ rfl; (with_reducible repeat (first | refine blk_drewN ?_ _ | refine blk_drew ?_ | refine blk_alloc ?_ _)); refine blk_far ?_ NB411_410.out _; (with_reducible repeat (first | refine blk_drewN ?_ _ | refine blk_drew ?_ | refine blk_alloc ?_ _)); refine blk_far ?_ NB411_410.out _; (with_reducible repeat (first | refine blk_drewN ?_ _ | refine blk_drew ?_ | refine blk_alloc ?_ _)); refine blk_far ?_ NB411_410.out _; (with_reducible repeat (first | refine blk_drewN ?_ _ | refine blk_drew ?_ | refine blk_alloc ?_ _)); refine blk_far ?_ NB411_410.out _; (with_reducible repeat (first | refine blk_drewN ?_ _ | refine blk_drew ?_ | refine blk_alloc ?_ _)); refine blk_far ?_ NB411_410.out _; (with_reducible repeat (first | refine blk_drewN ?_ _ | refine blk_drew ?_ | refine blk_alloc ?_ _)); exact BK411.out) hg (Kd.R_ne HO_4.out BK411.out (by decide))); have n3_ := Aside0.mk (hb); have n4_ := Aside0.mk (ho); clear BK398; clear BK410; clear BK411; clear HB; clear HO_4; have BK398 := n0_; have BK410 := n1_; have BK411 := n2_; have HB := n3_; have HO416 := n4_; clear n0_ n1_ n2_ n3_ n4_; clear ho hb hg hat))
          go_roundg k1
          case measure => have := HK1.out; omega
          case rel => exact ⟨(y414), (wrap64 (x5_1 + 1)), (by first | rfl | (simp; done) | (simp [*]; done)), H', ⟨by have := HK1.out; omega⟩, ⟨by (with_reducible repeat (first | apply Kd.R_alloc | apply Kd.R_drewN | apply Kd.R_drew)); exact HO416.out⟩, ⟨by repeat (first | (with_reducible first | exact HB.out | apply below_alloc | apply pw_below_drewN | apply below_drew1 | refine below_set ?_ GE398.out | refine below_set ?_ GE410.out | refine below_set ?_ GE411.out) | exact HB.out)⟩⟩
         ·rw [if_neg c17] at H
          exact absurd H (by simp)
        ·rw [if_neg c16] at H
         have c16b0 : decide (2 < t413) = false := decide_eq_false c16
         clear c16
         replace H := Option.bind_eq_some_iff.mp H
         obtain ⟨t417, A430, H⟩ := H
         replace H : (if t417 > 2 then (if x4_1.length < 17592186044416 then (spec_PairErrors.l0 k1 l0 (x4_1 ++ [x5_1]) (wrap64 (x5_1 + 1))) else (none)) else ((spec_l7Apart.f t403 t409).bind fun t421 => (if t421 > 2 then (if x4_1.length < 17592186044416 then (spec_PairErrors.l0 k1 l0 (x4_1 ++ [x5_1]) (wrap64 (x5_1 + 1))) else (none)) else (spec_PairErrors.l0 k1 l0 x4_1 (wrap64 (x5_1 + 1)))))) = some (r1, r2) := H
         have A43 := Aside0.mk A430
         clear A430
         by_cases c44 : t417 > 2
         ·rw [if_pos c44] at H
          have c44b0 : decide (2 < t417) = true := decide_eq_true c44
          clear c44
          by_cases c45 : x4_1.length < 17592186044416
          ·rw [if_pos c45] at H
           have LMc45 := Aside0.mk c45
           clear c45
           obtain ⟨y418, hy418⟩ : ∃ y_ : List Int, y_ = (x4_1 ++ [x5_1]) := ⟨_, rfl⟩
           replace H : (spec_PairErrors.l0 k1 l0 y418 (wrap64 (x5_1 + 1))) = some (r1, r2) := by first | (rw [hy418]; with_reducible exact H) | (have H2_ := (Option.bind_some _ _).symm.trans H; rw [hy418]; with_reducible exact H2_) | (have H2_ := (Option.bind_some _ _).symm.trans H; with_reducible exact H2_) | with_reducible exact H | (rw [hy418]; exact H) | exact H
           have Ny418 := Aside0.mk hy418
           clear hy418
           have H' := Aside0.mk H
           clear H
           try go_wp2_with (first | ((with_reducible refine gate_callee (f := 82) rfl ?_); refine goesL_ (some 42) rfl rfl Try.func82 (by kernel_rfl) rfl #[.int .i64 t402, .int .i64 t408] rfl (by (try simp only [List.map_toArray, List.map_cons, List.map_nil]); first | done | rfl | (simp only [List.length_drop, List.length_take]; rfl)) ?_; (with_reducible refine (spec_l7Apart.calls t402 t408 t412 _ A14.out).mono ?_); rintro e w' ⟨rfl, ⟨nd, rfl⟩⟩; refine ⟨_, rfl, ?_⟩) | ((with_reducible refine gate_callee (f := 82) rfl ?_); refine goesL_ (some 47) rfl rfl Try.func82 (by kernel_rfl) rfl #[.int .i64 t401, .int .i64 t407] rfl (by (try simp only [List.map_toArray, List.map_cons, List.map_nil]); first | done | rfl | (simp only [List.length_drop, List.length_take]; rfl)) ?_; (with_reducible refine (spec_l7Apart.calls t401 t407 t413 _ A15.out).mono ?_); rintro e w' ⟨rfl, ⟨nd, rfl⟩⟩; refine ⟨_, rfl, ?_⟩) | (go_at_call 83; (with_reducible refine (spec_l1Least.calls t412 (wrap64 (360 - t412)) t417 _ A43.out).mono ?_); rintro e w' ⟨rfl, ⟨nd, rfl⟩⟩) | ((with_reducible refine gate_builtin (b := .append) (xs := #[.tmp 64, .tmp 66]) rfl ?_); at_builtin; refine Kd.R_append (Kd.int .i64) (w0 := w) w.heap.size rfl (.tmp 64) (.tmp 66) 32 3 (.int .i64 0) 8 rfl Try.underlying32 info3 rfl (by decide) (by omega) u4 x4_1 x5_1 [.int .i64 x5_1] (fun _ => True) (fun _ => False) rfl (by first | (go_simp; done) | (go_simp; rfl)) ?aP (fun _ hk => hk.elim) ?aF ?aO ?aB ?aS ?aL ?_; (case aP => exact rfl); (case aB => exact (by repeat (first | (with_reducible first | exact HB.out | apply below_alloc | apply pw_below_drewN | apply below_drew1 | refine below_set ?_ GE398.out | refine below_set ?_ GE410.out | refine below_set ?_ GE411.out) | exact HB.out))); (case aF => exact (fun _ _ => trivial)); (case aO => exact (by (with_reducible repeat (first | apply Kd.R_alloc | apply Kd.R_drewN | apply Kd.R_drew)); exact Kd.R_mono (Kd.R_far (p := ⟨gb411, 4, none⟩) (Kd.R_far (p := ⟨gb411, 3, none⟩) (Kd.R_far (p := ⟨gb411, 2, none⟩) (Kd.R_far (p := ⟨gb411, 1, none⟩) (Kd.R_far (p := ⟨gb411, 0, none⟩) (Kd.R_far (p := ⟨gb410, 4, none⟩) (Kd.R_far (p := ⟨gb410, 3, none⟩) (Kd.R_far (p := ⟨gb410, 2, none⟩) (Kd.R_far (p := ⟨gb410, 1, none⟩) (Kd.R_far (p := ⟨gb410, 0, none⟩) (Kd.R_types (Kd.R_types HO_4.out BK410.out (by decide)) BK411.out (by decide)) (fun _ hk => hk.1.2) (.int .i64 t399)) (fun _ hk => hk.1.2) (.int .i64 t400)) (fun _ hk => hk.1.2) (.int .i64 t401)) (fun _ hk => hk.1.2) (.int .i64 t402)) (fun _ hk => hk.1.2) (.int .i64 t403)) (fun _ hk => hk.2) (.int .i64 t405)) (fun _ hk => hk.2) (.int .i64 t406)) (fun _ hk => hk.2) (.int .i64 t407)) (fun _ hk => hk.2) (.int .i64 t408)) (fun _ hk => hk.2) (.int .i64 t409)) (fun _ hk => trivial))); (case aS => exact (below_size (by repeat (first | (with_reducible first | exact HB.out | apply below_alloc | apply pw_below_drewN | apply below_drew1 | refine below_set ?_ GE398.out | refine below_set ?_ GE410.out | refine below_set ?_ GE411.out) | exact HB.out)))); (case aL => have := LMc45.out; omega); intro v419 w70 ho hb hg hat; rw [← Ny418.out] at ho; have n0_ := Aside0.mk (blk_grown (g := gb398) (o := .cells #[.int .i64 ((rd_T75 l0 t396).f0), .int .i64 ((rd_T75 l0 t396).f1), .int .i64 ((rd_T75 l0 t396).f2), .int .i64 ((rd_T75 l0 t396).f3), .int .i64 ((rd_T75 l0 t396).f4), .bool ((rd_T75 l0 t396).f5)] 75 (0, 0)) (by (with_reducible repeat (first | refine blk_drewN ?_ _ | refine blk_drew ?_ | refine blk_alloc ?_ _)); refine blk_far ?_ NB398_411.out _; (with_reducible repeat (first | refine blk_drewN ?_ _ | refine blk_drew ?_ | refine blk_alloc ?_ _)); refine blk_far ?_ NB398_411.out _; (with_reducible repeat (first | refine blk_drewN ?_ _ | refine blk_drew ?_ | refine blk_alloc ?_ _)); refine blk_far ?_ NB398_411.out _; (with_reducible repeat (first | refine blk_drewN ?_ _ | refine blk_drew ?_ | refine blk_alloc ?_ _)); refine blk_far ?_ NB398_411.out _; (with_reducible repeat (first | refine blk_drewN ?_ _ | refine blk_drew ?_ | refine blk_alloc ?_ _)); refine blk_far ?_ NB398_411.out _; (with_reducible repeat (first | refine blk_drewN ?_ _ | refine blk_drew ?_ | refine blk_alloc ?_ _)); refine blk_far ?_ NB398_410.out _; (with_reducible repeat (first | refine blk_drewN ?_ _ | refine blk_drew ?_ | refine blk_alloc ?_ _)); refine blk_far ?_ NB398_410.out _; (with_reducible repeat (first | refine blk_drewN ?_ _ | refine blk_drew ?_ | refine blk_alloc ?_ _)); refine blk_far ?_ NB398_410.out _; (with_reducible repeat (first | refine blk_drewN ?_ _ | refine blk_drew ?_ | refine blk_alloc ?_ _)); refine blk_far ?_ NB398_410.out _; (with_reducible repeat (first | refine blk_drewN ?_ _ | refine blk_drew ?_ | refine blk_alloc ?_ _)); refine blk_far ?_ NB398_410.out _; (with_reducible repeat (first | refine blk_drewN ?_ _ | refine blk_drew ?_ | refine blk_alloc ?_ _)); exact BK398.out) hg (Kd.R_ne HO_4.out BK398.out (by decide))); have n1_ := Aside0.mk (blk_grown (g := gb410) (o := .cells #[.int .i64 t399, .int .i64 t400, .int .i64 t401, .int .i64 t402, .int .i64 t403] 71 (0, 0)) (by (with_reducible repeat (first | refine blk_drewN ?_ _ | refine blk_drew ?_ | refine blk_alloc ?_ _)); refine blk_far ?_ NB410_411.out _; (with_reducible repeat (first | refine blk_drewN ?_ _ | refine blk_drew ?_ | refine blk_alloc ?_ _)); refine blk_far ?_ NB410_411.out _; (with_reducible repeat (first | refine blk_drewN ?_ _ | refine blk_drew ?_ | refine blk_alloc ?_ _)); refine blk_far ?_ NB410_411.out _; (with_reducible repeat (first | refine blk_drewN ?_ _ | refine blk_drew ?_ | refine blk_alloc ?_ _)); refine blk_far ?_ NB410_411.out _; (with_reducible repeat (first | refine blk_drewN ?_ _ | refine blk_drew ?_ | refine blk_alloc ?_ _)); refine blk_far ?_ NB410_411.out _; (with_reducible repeat (first | refine blk_drewN ?_ _ | refine blk_drew ?_ | refine blk_alloc ?_ _)); refine blk_put (cs := #[.int .i64 t399, .int .i64 t400, .int .i64 t401, .int .i64 t402, .int .i64 0]) ?_ 4 _ rfl; (with_reducible repeat (first | refine blk_drewN ?_ _ | refine blk_drew ?_ | refine blk_alloc ?_ _)); refine blk_put (cs := #[.int .i64 t399, .int .i64 t400, .int .i64 t401, .int .i64 0, .int .i64 0]) ?_ 3 _ rfl; (with_reducible repeat (first | refine blk_drewN ?_ _ | refine blk_drew ?_ | refine blk_alloc ?_ _)); refine blk_put (cs := #[.int .i64 t399, .int .i64 t400, .int .i64 0, .int .i64 0, .int .i64 0]) ?_ 2 _ rfl; (with_reducible repeat (first | refine blk_drewN ?_ _ | refine blk_drew ?_ | refine blk_alloc ?_ _)); refine blk_put (cs := #[.int .i64 t399, .int .i64 0, .int .i64 0, .int .i64 0, .int .i64 0]) ?_ 1 _ rfl; (with_reducible repeat (first | refine blk_drewN ?_ _ | refine blk_drew ?_ | refine blk_alloc ?_ _)); refine blk_put (cs := #[.int .i64 0, .int .i64 0, .int .i64 0, .int .i64 0, .int .i64 0]) ?_ 0 _ rfl; (with_reducible repeat (first | refine blk_drewN ?_ _ | refine blk_drew ?_ | refine blk_alloc ?_ _)); exact BK410.out) hg (Kd.R_ne HO_4.out BK410.out (by decide))); have n2_ := Aside0.mk (blk_grown (g := gb411) (o := .cells #[.int .i64 t405, .int .i64 t406, .int .i64 t407, .int .i64 t408, .int .i64 t409] 71 (0, 0)) (by (with_reducible repeat (first | refine blk_drewN ?_ _ | refine blk_drew ?_ | refine blk_alloc ?_ _)); refine blk_put (cs := #[.int .i64 t405, .int .i64 t406, .int .i64 t407, .int .i64 t408, .int .i64 0]) ?_ 4 _ rfl; (with_reducible repeat (first | refine blk_drewN ?_ _ | refine blk_drew ?_ | refine blk_alloc ?_ _)); refine blk_put (cs := #[.int .i64 t405, .int .i64 t406, .int .i64 t407, .int .i64 0, .int .i64 0]) ?_ 3 _ rfl; (with_reducible repeat (first | refine blk_drewN ?_ _ | refine blk_drew ?_ | refine blk_alloc ?_ _)); refine blk_put (cs := #[.int .i64 t405, .int .i64 t406, .int .i64 0, .int .i64 0, .int .i64 0]) ?_ 2 _ rfl; (with_reducible repeat (first | refine blk_drewN ?_ _ | refine blk_drew ?_ | refine blk_alloc ?_ _)); refine blk_put (cs := #[.int .i64 t405, .int .i64 0, .int .i64 0, .int .i64 0, .int .i64 0]) ?_ 1 _ rfl; (with_reducible repeat (first | refine blk_drewN ?_ _ | refine blk_drew ?_ | refine blk_alloc ?_ _)); refine blk_put (cs := #[.int .i64 0, .int .i64 0, .int .i64 0, .int .i64 0, .int .i64 0]) ?_ 0 _ rfl; (with_reducible repeat (first | refine blk_drewN ?_ _ | refine blk_drew ?_ | refine blk_alloc ?_ _)); refine blk_far ?_ NB411_410.out _; (with_reducible repeat (first | refine blk_drewN ?_ _ | refine blk_drew ?_ | refine blk_alloc ?_ _)); refine blk_far ?_ NB411_410.out _; (with_reducible repeat (first | refine blk_drewN ?_ _ | refine blk_drew ?_ | refine blk_alloc ?_ _)); refine blk_far ?_ NB411_410.out _; (with_reducible repeat (first | refine blk_drewN ?_ _ | refine blk_drew ?_ | refine blk_alloc ?_ _)); refine blk_far ?_ NB411_410.out _; (with_reducible repeat (first | refine blk_drewN ?_ _ | refine blk_drew ?_ | refine blk_alloc ?_ _)); refine blk_far ?_ NB411_410.out _; (with_reducible repeat (first | refine blk_drewN ?_ _ | refine blk_drew ?_ | refine blk_alloc ?_ _)); exact BK411.out) hg (Kd.R_ne HO_4.out BK411.out (by decide))); have n3_ := Aside0.mk (hb); have n4_ := Aside0.mk (ho); clear BK398; clear BK410; clear BK411; clear HB; clear HO_4; have BK398 := n0_; have BK410 := n1_; have BK411 := n2_; have HB := n3_; have HO420 := n4_; clear n0_ n1_ n2_ n3_ n4_; clear ho hb hg hat))
           go_roundg k1
           case measure => have := HK1.out; omega
           case rel => exact ⟨(y418), (wrap64 (x5_1 + 1)), (by first | rfl | (simp; done) | (simp [*]; done)), H', ⟨by have := HK1.out; omega⟩, ⟨by (with_reducible repeat (first | apply Kd.R_alloc | apply Kd.R_drewN | apply Kd.R_drew)); exact HO420.out⟩, ⟨by repeat (first | (with_reducible first | exact HB.out | apply below_alloc | apply pw_below_drewN | apply below_drew1 | refine below_set ?_ GE398.out | refine below_set ?_ GE410.out | refine below_set ?_ GE411.out) | exact HB.out)⟩⟩
          ·rw [if_neg c45] at H
           exact absurd H (by simp)
         ·rw [if_neg c44] at H
          have c44b0 : decide (2 < t417) = false := decide_eq_false c44
          clear c44
          replace H := Option.bind_eq_some_iff.mp H
          obtain ⟨t421, A710, H⟩ := H
          replace H : (if t421 > 2 then (if x4_1.length < 17592186044416 then (spec_PairErrors.l0 k1 l0 (x4_1 ++ [x5_1]) (wrap64 (x5_1 + 1))) else (none)) else (spec_PairErrors.l0 k1 l0 x4_1 (wrap64 (x5_1 + 1)))) = some (r1, r2) := H
          have A71 := Aside0.mk A710
          clear A710
          by_cases c72 : t421 > 2
          ·rw [if_pos c72] at H
           have c72b0 : decide (2 < t421) = true := decide_eq_true c72
           clear c72
           by_cases c73 : x4_1.length < 17592186044416
           ·rw [if_pos c73] at H
            have LMc73 := Aside0.mk c73
            clear c73
            obtain ⟨y422, hy422⟩ : ∃ y_ : List Int, y_ = (x4_1 ++ [x5_1]) := ⟨_, rfl⟩
            replace H : (spec_PairErrors.l0 k1 l0 y422 (wrap64 (x5_1 + 1))) = some (r1, r2) := by first | (rw [hy422]; with_reducible exact H) | (have H2_ := (Option.bind_some _ _).symm.trans H; rw [hy422]; with_reducible exact H2_) | (have H2_ := (Option.bind_some _ _).symm.trans H; with_reducible exact H2_) | with_reducible exact H | (rw [hy422]; exact H) | exact H
            have Ny422 := Aside0.mk hy422
            clear hy422
            have H' := Aside0.mk H
            clear H
            try go_wp2_with (first | ((with_reducible refine gate_callee (f := 82) rfl ?_); refine goesL_ (some 42) rfl rfl Try.func82 (by kernel_rfl) rfl #[.int .i64 t402, .int .i64 t408] rfl (by (try simp only [List.map_toArray, List.map_cons, List.map_nil]); first | done | rfl | (simp only [List.length_drop, List.length_take]; rfl)) ?_; (with_reducible refine (spec_l7Apart.calls t402 t408 t412 _ A14.out).mono ?_); rintro e w' ⟨rfl, ⟨nd, rfl⟩⟩; refine ⟨_, rfl, ?_⟩) | ((with_reducible refine gate_callee (f := 82) rfl ?_); refine goesL_ (some 47) rfl rfl Try.func82 (by kernel_rfl) rfl #[.int .i64 t401, .int .i64 t407] rfl (by (try simp only [List.map_toArray, List.map_cons, List.map_nil]); first | done | rfl | (simp only [List.length_drop, List.length_take]; rfl)) ?_; (with_reducible refine (spec_l7Apart.calls t401 t407 t413 _ A15.out).mono ?_); rintro e w' ⟨rfl, ⟨nd, rfl⟩⟩; refine ⟨_, rfl, ?_⟩) | (go_at_call 83; (with_reducible refine (spec_l1Least.calls t412 (wrap64 (360 - t412)) t417 _ A43.out).mono ?_); rintro e w' ⟨rfl, ⟨nd, rfl⟩⟩) | (go_at_call 82; (with_reducible refine (spec_l7Apart.calls t403 t409 t421 _ A71.out).mono ?_); rintro e w' ⟨rfl, ⟨nd, rfl⟩⟩) | ((with_reducible refine gate_builtin (b := .append) (xs := #[.tmp 64, .tmp 66]) rfl ?_); at_builtin; refine Kd.R_append (Kd.int .i64) (w0 := w) w.heap.size rfl (.tmp 64) (.tmp 66) 32 3 (.int .i64 0) 8 rfl Try.underlying32 info3 rfl (by decide) (by omega) u4 x4_1 x5_1 [.int .i64 x5_1] (fun _ => True) (fun _ => False) rfl (by first | (go_simp; done) | (go_simp; rfl)) ?aP (fun _ hk => hk.elim) ?aF ?aO ?aB ?aS ?aL ?_; (case aP => exact rfl); (case aB => exact (by repeat (first | (with_reducible first | exact HB.out | apply below_alloc | apply pw_below_drewN | apply below_drew1 | refine below_set ?_ GE398.out | refine below_set ?_ GE410.out | refine below_set ?_ GE411.out) | exact HB.out))); (case aF => exact (fun _ _ => trivial)); (case aO => exact (by (with_reducible repeat (first | apply Kd.R_alloc | apply Kd.R_drewN | apply Kd.R_drew)); exact Kd.R_mono (Kd.R_far (p := ⟨gb411, 4, none⟩) (Kd.R_far (p := ⟨gb411, 3, none⟩) (Kd.R_far (p := ⟨gb411, 2, none⟩) (Kd.R_far (p := ⟨gb411, 1, none⟩) (Kd.R_far (p := ⟨gb411, 0, none⟩) (Kd.R_far (p := ⟨gb410, 4, none⟩) (Kd.R_far (p := ⟨gb410, 3, none⟩) (Kd.R_far (p := ⟨gb410, 2, none⟩) (Kd.R_far (p := ⟨gb410, 1, none⟩) (Kd.R_far (p := ⟨gb410, 0, none⟩) (Kd.R_types (Kd.R_types HO_4.out BK410.out (by decide)) BK411.out (by decide)) (fun _ hk => hk.1.2) (.int .i64 t399)) (fun _ hk => hk.1.2) (.int .i64 t400)) (fun _ hk => hk.1.2) (.int .i64 t401)) (fun _ hk => hk.1.2) (.int .i64 t402)) (fun _ hk => hk.1.2) (.int .i64 t403)) (fun _ hk => hk.2) (.int .i64 t405)) (fun _ hk => hk.2) (.int .i64 t406)) (fun _ hk => hk.2) (.int .i64 t407)) (fun _ hk => hk.2) (.int .i64 t408)) (fun _ hk => hk.2) (.int .i64 t409)) (fun _ hk => trivial))); (case aS => exact (below_size (by repeat (first | (with_reducible first | exact HB.out | apply below_alloc | apply pw_below_drewN | apply below_drew1 | refine below_set ?_ GE398.out | refine below_set ?_ GE410.out | refine below_set ?_ GE411.out) | exact HB.out)))); (case aL => have := LMc73.out; omega); intro v423 w98 ho hb hg hat; rw [← Ny422.out] at ho; have n0_ := Aside0.mk (blk_grown (g := gb398) (o := .cells #[.int .i64 ((rd_T75 l0 t396).f0), .int .i64 ((rd_T75 l0 t396).f1), .int .i64 ((rd_T75 l0 t396).f2), .int .i64 ((rd_T75 l0 t396).f3), .int .i64 ((rd_T75 l0 t396).f4), .bool ((rd_T75 l0 t396).f5)] 75 (0, 0)) (by (with_reducible repeat (first | refine blk_drewN ?_ _ | refine blk_drew ?_ | refine blk_alloc ?_ _)); refine blk_far ?_ NB398_411.out _; (with_reducible repeat (first | refine blk_drewN ?_ _ | refine blk_drew ?_ | refine blk_alloc ?_ _)); refine blk_far ?_ NB398_411.out _; (with_reducible repeat (first | refine blk_drewN ?_ _ | refine blk_drew ?_ | refine blk_alloc ?_ _)); refine blk_far ?_ NB398_411.out _; (with_reducible repeat (first | refine blk_drewN ?_ _ | refine blk_drew ?_ | refine blk_alloc ?_ _)); refine blk_far ?_ NB398_411.out _; (with_reducible repeat (first | refine blk_drewN ?_ _ | refine blk_drew ?_ | refine blk_alloc ?_ _)); refine blk_far ?_ NB398_411.out _; (with_reducible repeat (first | refine blk_drewN ?_ _ | refine blk_drew ?_ | refine blk_alloc ?_ _)); refine blk_far ?_ NB398_410.out _; (with_reducible repeat (first | refine blk_drewN ?_ _ | refine blk_drew ?_ | refine blk_alloc ?_ _)); refine blk_far ?_ NB398_410.out _; (with_reducible repeat (first | refine blk_drewN ?_ _ | refine blk_drew ?_ | refine blk_alloc ?_ _)); refine blk_far ?_ NB398_410.out _; (with_reducible repeat (first | refine blk_drewN ?_ _ | refine blk_drew ?_ | refine blk_alloc ?_ _)); refine blk_far ?_ NB398_410.out _; (with_reducible repeat (first | refine blk_drewN ?_ _ | refine blk_drew ?_ | refine blk_alloc ?_ _)); refine blk_far ?_ NB398_410.out _; (with_reducible repeat (first | refine blk_drewN ?_ _ | refine blk_drew ?_ | refine blk_alloc ?_ _)); exact BK398.out) hg (Kd.R_ne HO_4.out BK398.out (by decide))); have n1_ := Aside0.mk (blk_grown (g := gb410) (o := .cells #[.int .i64 t399, .int .i64 t400, .int .i64 t401, .int .i64 t402, .int .i64 t403] 71 (0, 0)) (by (with_reducible repeat (first | refine blk_drewN ?_ _ | refine blk_drew ?_ | refine blk_alloc ?_ _)); refine blk_far ?_ NB410_411.out _; (with_reducible repeat (first | refine blk_drewN ?_ _ | refine blk_drew ?_ | refine blk_alloc ?_ _)); refine blk_far ?_ NB410_411.out _; (with_reducible repeat (first | refine blk_drewN ?_ _ | refine blk_drew ?_ | refine blk_alloc ?_ _)); refine blk_far ?_ NB410_411.out _; (with_reducible repeat (first | refine blk_drewN ?_ _ | refine blk_drew ?_ | refine blk_alloc ?_ _)); refine blk_far ?_ NB410_411.out _; (with_reducible repeat (first | refine blk_drewN ?_ _ | refine blk_drew ?_ | refine blk_alloc ?_ _)); refine blk_far ?_ NB410_411.out _; (with_reducible repeat (first | refine blk_drewN ?_ _ | refine blk_drew ?_ | refine blk_alloc ?_ _)); refine blk_put (cs := #[.int .i64 t399, .int .i64 t400, .int .i64 t401, .int .i64 t402, .int .i64 0]) ?_ 4 _ rfl; (with_reducible repeat (first | refine blk_drewN ?_ _ | refine blk_drew ?_ | refine blk_alloc ?_ _)); refine blk_put (cs := #[.int .i64 t399, .int .i64 t400, .int .i64 t401, .int .i64 0, .int .i64 0]) ?_ 3 _ rfl; (with_reducible repeat (first | refine blk_drewN ?_ _ | refine blk_drew ?_ | refine blk_alloc ?_ _)); refine blk_put (cs := #[.int .i64 t399, .int .i64 t400, .int .i64 0, .int .i64 0, .int .i64 0]) ?_ 2 _ rfl; (with_reducible repeat (first | refine blk_drewN ?_ _ | refine blk_drew ?_ | refine blk_alloc ?_ _)); refine blk_put (cs := #[.int .i64 t399, .int .i64 0, .int .i64 0, .int .i64 0, .int .i64 0]) ?_ 1 _ rfl; (with_reducible repeat (first | refine blk_drewN ?_ _ | refine blk_drew ?_ | refine blk_alloc ?_ _)); refine blk_put (cs := #[.int .i64 0, .int .i64 0, .int .i64 0, .int .i64 0, .int .i64 0]) ?_ 0 _ rfl; (with_reducible repeat (first | refine blk_drewN ?_ _ | refine blk_drew ?_ | refine blk_alloc ?_ _)); exact BK410.out) hg (Kd.R_ne HO_4.out BK410.out (by decide))); have n2_ := Aside0.mk (blk_grown (g := gb411) (o := .cells #[.int .i64 t405, .int .i64 t406, .int .i64 t407, .int .i64 t408, .int .i64 t409] 71 (0, 0)) (by (with_reducible repeat (first | refine blk_drewN ?_ _ | refine blk_drew ?_ | refine blk_alloc ?_ _)); refine blk_put (cs := #[.int .i64 t405, .int .i64 t406, .int .i64 t407, .int .i64 t408, .int .i64 0]) ?_ 4 _ rfl; (with_reducible repeat (first | refine blk_drewN ?_ _ | refine blk_drew ?_ | refine blk_alloc ?_ _)); refine blk_put (cs := #[.int .i64 t405, .int .i64 t406, .int .i64 t407, .int .i64 0, .int .i64 0]) ?_ 3 _ rfl; (with_reducible repeat (first | refine blk_drewN ?_ _ | refine blk_drew ?_ | refine blk_alloc ?_ _)); refine blk_put (cs := #[.int .i64 t405, .int .i64 t406, .int .i64 0, .int .i64 0, .int .i64 0]) ?_ 2 _ rfl; (with_reducible repeat (first | refine blk_drewN ?_ _ | refine blk_drew ?_ | refine blk_alloc ?_ _)); refine blk_put (cs := #[.int .i64 t405, .int .i64 0, .int .i64 0, .int .i64 0, .int .i64 0]) ?_ 1 _ rfl; (with_reducible repeat (first | refine blk_drewN ?_ _ | refine blk_drew ?_ | refine blk_alloc ?_ _)); refine blk_put (cs := #[.int .i64 0, .int .i64 0, .int .i64 0, .int .i64 0, .int .i64 0]) ?_ 0 _ rfl; (with_reducible repeat (first | refine blk_drewN ?_ _ | refine blk_drew ?_ | refine blk_alloc ?_ _)); refine blk_far ?_ NB411_410.out _; (with_reducible repeat (first | refine blk_drewN ?_ _ | refine blk_drew ?_ | refine blk_alloc ?_ _)); refine blk_far ?_ NB411_410.out _; (with_reducible repeat (first | refine blk_drewN ?_ _ | refine blk_drew ?_ | refine blk_alloc ?_ _)); refine blk_far ?_ NB411_410.out _; (with_reducible repeat (first | refine blk_drewN ?_ _ | refine blk_drew ?_ | refine blk_alloc ?_ _)); refine blk_far ?_ NB411_410.out _; (with_reducible repeat (first | refine blk_drewN ?_ _ | refine blk_drew ?_ | refine blk_alloc ?_ _)); refine blk_far ?_ NB411_410.out _; (with_reducible repeat (first | refine blk_drewN ?_ _ | refine blk_drew ?_ | refine blk_alloc ?_ _)); exact BK411.out) hg (Kd.R_ne HO_4.out BK411.out (by decide))); have n3_ := Aside0.mk (hb); have n4_ := Aside0.mk (ho); clear BK398; clear BK410; clear BK411; clear HB; clear HO_4; have BK398 := n0_; have BK410 := n1_; have BK411 := n2_; have HB := n3_; have HO424 := n4_; clear n0_ n1_ n2_ n3_ n4_; clear ho hb hg hat))
            go_roundg k1
            case measure => have := HK1.out; omega
            case rel => exact ⟨(y422), (wrap64 (x5_1 + 1)), (by first | rfl | (simp; done) | (simp [*]; done)), H', ⟨by have := HK1.out; omega⟩, ⟨by (with_reducible repeat (first | apply Kd.R_alloc | apply Kd.R_drewN | apply Kd.R_drew)); exact HO424.out⟩, ⟨by repeat (first | (with_reducible first | exact HB.out | apply below_alloc | apply pw_below_drewN | apply below_drew1 | refine below_set ?_ GE398.out | refine below_set ?_ GE410.out | refine below_set ?_ GE411.out) | exact HB.out)⟩⟩
           ·rw [if_neg c73] at H
            exact absurd H (by simp)
          ·rw [if_neg c72] at H
           have c72b0 : decide (2 < t421) = false := decide_eq_false c72
           clear c72
           have H' := Aside0.mk H
           clear H
           try go_wp2_with (first | ((with_reducible refine gate_callee (f := 82) rfl ?_); refine goesL_ (some 42) rfl rfl Try.func82 (by kernel_rfl) rfl #[.int .i64 t402, .int .i64 t408] rfl (by (try simp only [List.map_toArray, List.map_cons, List.map_nil]); first | done | rfl | (simp only [List.length_drop, List.length_take]; rfl)) ?_; (with_reducible refine (spec_l7Apart.calls t402 t408 t412 _ A14.out).mono ?_); rintro e w' ⟨rfl, ⟨nd, rfl⟩⟩; refine ⟨_, rfl, ?_⟩) | ((with_reducible refine gate_callee (f := 82) rfl ?_); refine goesL_ (some 47) rfl rfl Try.func82 (by kernel_rfl) rfl #[.int .i64 t401, .int .i64 t407] rfl (by (try simp only [List.map_toArray, List.map_cons, List.map_nil]); first | done | rfl | (simp only [List.length_drop, List.length_take]; rfl)) ?_; (with_reducible refine (spec_l7Apart.calls t401 t407 t413 _ A15.out).mono ?_); rintro e w' ⟨rfl, ⟨nd, rfl⟩⟩; refine ⟨_, rfl, ?_⟩) | (go_at_call 83; (with_reducible refine (spec_l1Least.calls t412 (wrap64 (360 - t412)) t417 _ A43.out).mono ?_); rintro e w' ⟨rfl, ⟨nd, rfl⟩⟩) | (go_at_call 82; (with_reducible refine (spec_l7Apart.calls t403 t409 t421 _ A71.out).mono ?_); rintro e w' ⟨rfl, ⟨nd, rfl⟩⟩))
           go_roundg k1
           case measure => have := HK1.out; omega
           case rel => exact ⟨(x4_1), (wrap64 (x5_1 + 1)), (by first | rfl | (simp; done) | (simp [*]; done)), H', ⟨by have := HK1.out; omega⟩, ⟨by (with_reducible repeat (first | apply Kd.R_alloc | apply Kd.R_drewN | apply Kd.R_drew)); exact Kd.R_mono (Kd.R_far (p := ⟨gb411, 4, none⟩) (Kd.R_far (p := ⟨gb411, 3, none⟩) (Kd.R_far (p := ⟨gb411, 2, none⟩) (Kd.R_far (p := ⟨gb411, 1, none⟩) (Kd.R_far (p := ⟨gb411, 0, none⟩) (Kd.R_far (p := ⟨gb410, 4, none⟩) (Kd.R_far (p := ⟨gb410, 3, none⟩) (Kd.R_far (p := ⟨gb410, 2, none⟩) (Kd.R_far (p := ⟨gb410, 1, none⟩) (Kd.R_far (p := ⟨gb410, 0, none⟩) (Kd.R_types (Kd.R_types HO_4.out BK410.out (by decide)) BK411.out (by decide)) (fun _ hk => hk.1.2) (.int .i64 t399)) (fun _ hk => hk.1.2) (.int .i64 t400)) (fun _ hk => hk.1.2) (.int .i64 t401)) (fun _ hk => hk.1.2) (.int .i64 t402)) (fun _ hk => hk.1.2) (.int .i64 t403)) (fun _ hk => hk.2) (.int .i64 t405)) (fun _ hk => hk.2) (.int .i64 t406)) (fun _ hk => hk.2) (.int .i64 t407)) (fun _ hk => hk.2) (.int .i64 t408)) (fun _ hk => hk.2) (.int .i64 t409)) (fun _ hk => trivial)⟩, ⟨by repeat (first | (with_reducible first | exact HB.out | apply below_alloc | apply pw_below_drewN | apply below_drew1 | refine below_set ?_ GE398.out | refine below_set ?_ GE410.out | refine below_set ?_ GE411.out) | exact HB.out)⟩⟩
       ·rw [if_neg c12] at H
        exact absurd H (by simp)
      ·rw [if_neg c10] at H
       exact absurd H (by simp)
     ·rw [if_neg c9] at H
      exact absurd H (by simp)
    ·rw [if_neg c7] at H
     have c7b0 : decide (x5_1 < (l0.length : Int)) = false := decide_eq_false c7
     clear c7
     simp only [Option.some.injEq, Prod.mk.injEq] at H
     obtain ⟨rfl, rfl⟩ := H
     go_wp2
     go_ret2
     exact ⟨_, by first | rfl | (simp [errW_none, errW_some] <;> rfl) | (simp [*, errW_none, errW_some] <;> rfl), by (with_reducible repeat (first | apply Kd.R_alloc | apply Kd.R_drewN | apply Kd.R_drew)); exact HO_4.out, by repeat (first | (with_reducible first | exact HB.out | apply below_alloc | apply pw_below_drewN | apply below_drew1) | exact HB.out)⟩
 ·replace c3 := Bool.eq_false_iff.mpr c3
  subst c3
  have H1 : (some (y392, false)) = some (r1, r2) := by rw [if_neg (show ¬ (false = true) by decide)] at H; exact H
  clear H
  have H := H1
  clear H1
  simp only [Option.some.injEq, Prod.mk.injEq] at H
  obtain ⟨rfl, rfl⟩ := H
  go_enter Try.func33, Try.ntmps33
  go_wp2_with (first | ((with_reducible refine gate_dst (N := 10) rfl ?_); refine Kd.R_lit (Kd.int .i64) _ 3 ?hg (N := 10) ?hd (xs := ([] : List Int)) (inner := []) (ok := fun _ => True) (okp := fun _ => True) ?hr ?hp (fun _ hk => hk) trivial (Below.refl _ _) (Nat.le_refl _) (by simp) ?_; (case hd => rfl); (case hg => rfl); (case hr => first | (go_simp; done) | (go_simp; rfl)); (case hp => exact (Reps.none _ _)); intro v393 w123 ho124 hb hg_ hnew_; clear hg_ hnew_; (first | rw [← Ny392.out] at ho124 | (simp only [Int.reduceToNat] at ho124; rw [← Ny392.out] at ho124)); have n0_ := Aside0.mk (Kd.R_lower ho124 (below_size (by repeat (first | (with_reducible first | exact HB.out | apply below_alloc | apply pw_below_drewN | apply below_drew1) | exact HB.out)))); have n1_ := Aside0.mk (below_step (by repeat (first | (with_reducible first | exact HB.out | apply below_alloc | apply pw_below_drewN | apply below_drew1) | exact HB.out)) hb); clear HB; have HO394 := n0_; have HB := n1_; clear n0_ n1_; clear hb ho124) | ((with_reducible refine gate_callee (f := 68) rfl ?_); refine goesL_ (some 12) rfl rfl Try.func68 (by kernel_rfl) rfl #[.slice A0 l0.length c0] rfl (by (try simp only [List.map_toArray, List.map_cons, List.map_nil]); first | done | rfl | (simp only [List.length_drop, List.length_take]; rfl)) ?_; (with_reducible refine (spec_l7Book.calls k _ _ l0 false _ ?side1 ?side2 A2.out).mono ?_); (case side1 => repeat (first | exact (Kd.C_below HR0.out HB.out) | (with_reducible refine Kd.C_alloc ?_ _) | (with_reducible refine Kd.C_drewN ?_ _) | (with_reducible refine Kd.C_drew ?_))); (case side2 => exact HC0.out); rintro e w125 ⟨rfl, hb⟩; refine ⟨_, rfl, ?_⟩; have n0_ := Aside0.mk (Kd.R_below (by (with_reducible repeat (first | apply Kd.R_alloc | apply Kd.R_drewN | apply Kd.R_drew)); exact HO394.out) hb); have n1_ := Aside0.mk (below_step (by repeat (first | (with_reducible first | exact HB.out | apply below_alloc | apply pw_below_drewN | apply below_drew1) | exact HB.out)) hb); clear HO394; clear HB; have HO394 := n0_; have HB := n1_; clear n0_ n1_; (try clear hb); (try clear hb2); (try clear hk); (try clear hi)))
  go_ret2
  exact ⟨_, by first | rfl | (simp [errW_none, errW_some] <;> rfl) | (simp [*, errW_none, errW_some] <;> rfl), by (with_reducible repeat (first | apply Kd.R_alloc | apply Kd.R_drewN | apply Kd.R_drew)); exact HO394.out, by repeat (first | (with_reducible first | exact HB.out | apply below_alloc | apply pw_below_drewN | apply below_drew1) | exact HB.out)⟩

end Go.Proofs.Ytkiehapaofkmiaa.A
