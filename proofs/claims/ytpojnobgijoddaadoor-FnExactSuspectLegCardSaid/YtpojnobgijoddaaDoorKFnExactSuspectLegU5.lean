/- Determinants by expansion along the last row, and what fraction-free elimination needs of them. Plain mathematics: no program stands here. No conditions. -/
import Derived.Test.YtpojnobgijoddaaDoorKFnExactSuspectLegU4
set_option maxHeartbeats 8000000
set_option maxRecDepth 100000
set_option linter.unusedSimpArgs false
set_option linter.unusedVariables false
namespace Go.Proofs.YtpojnobgijoddaaDoor.A
open Go.Proofs.YtpojnobgijoddaaDoor Go.RowKit YtpojnobgijoddaaDoorW.PrintWords YtpojnobgijoddaaDoorW.PrintLast YtpojnobgijoddaaDoorW.PrintMore
attribute [local go_sem] max2_int min2_int max_two min_two max_three min_three max_four min_four
def spec_l9Squares.l0 : Nat → List (S45) → Int → List Int → Int → Int → List Int → Int → Option (Int × Int)
 | 0, _, _, _, _, _, _, _ => none
 | k + 1, x0, x1, x6, x7, x8, x9, x10 => if x10 < (x9.length : Int) then (if 0 ≤ x10 then (if 0 ≤ (rd x9 x10) then (if (rd x9 x10) < (x0.length : Int) then ((spec_l9Rest.f ((rd_T45 x0 (rd x9 x10)).f0) ((rd_T45 x0 (rd x9 x10)).f1) ((rd_T45 x0 (rd x9 x10)).f2) ((rd_T45 x0 (rd x9 x10)).f3) ((rd_T45 x0 (rd x9 x10)).f4) x1 x6 x7).bind fun t247 => (spec_l9Squares.l0 k x0 x1 x6 x7 (wrap64 (x8 + (wrap64 (t247 * t247)))) x9 (wrap64 (x10 + 1)))) else (none)) else (none)) else (none)) else ((spec_l9Reduce.f k x8 (wrap64 (x7 * x7))).bind fun bt248 => (some (bt248.1, bt248.2)))
def spec_l9Squares.f (k : Nat) (l0 : List (S45)) (a1 : Int) : Option (Int × Int) := (spec_l9Adjust.f l0 a1).bind fun t238 => ((spec_l9Trees.f l0).bind fun t241 => ((spec_l9Legs.f k l0).bind fun t242 => (spec_l9Squares.l0 k l0 a1 t238 t241 0 t242 0)))
theorem spec_l9Squares.mono_l : ∀ k, (∀ y0 y1 y2 y3 y4 y5 y6, LeO (spec_l9Squares.l0 k y0 y1 y2 y3 y4 y5 y6) (spec_l9Squares.l0 (k + 1) y0 y1 y2 y3 y4 y5 y6))
 | 0 => fun _ _ _ _ _ _ _ r h => by simp [spec_l9Squares.l0] at h
 | k + 1 => by
  have ih0 := spec_l9Squares.mono_l k
  ·
   intro y0 y1 y2 y3 y4 y5 y6
   unfold spec_l9Squares.l0
   repeat' first
   | (with_reducible exact ih0 _ _ _ _ _ _ _)
   | (with_reducible exact spec_l9Legs.mono _ _)
   | (with_reducible exact spec_l9Reduce.mono _ _ _)
   | (with_reducible exact LeO.refl _)
   | (with_reducible exact LeO.none _)
   | (with_reducible refine LeO.ite ?_ ?_)
   | (with_reducible refine LeO.bind ?_ (fun _ => ?_))
   | exact ih0 _ _ _ _ _ _ _
   | exact spec_l9Legs.mono _ _
   | exact spec_l9Reduce.mono _ _ _
   | exact LeO.none _
   | refine LeO.ite ?_ ?_
   | refine LeO.bind ?_ (fun _ => ?_)
theorem spec_l9Squares.mono : ∀ a0 a1 k, LeO (spec_l9Squares.f k a0 a1) (spec_l9Squares.f (k + 1) a0 a1) := by
 intro a0 a1 k
 have ih0 := spec_l9Squares.mono_l k
 unfold spec_l9Squares.f
 repeat' first
   | (with_reducible exact ih0 _ _ _ _ _ _ _)
   | (with_reducible exact spec_l9Legs.mono _ _)
   | (with_reducible exact spec_l9Reduce.mono _ _ _)
   | (with_reducible exact LeO.refl _)
   | (with_reducible exact LeO.none _)
   | (with_reducible refine LeO.ite ?_ ?_)
   | (with_reducible refine LeO.bind ?_ (fun _ => ?_))
   | exact ih0 _ _ _ _ _ _ _
   | exact spec_l9Legs.mono _ _
   | exact spec_l9Reduce.mono _ _ _
   | exact LeO.none _
   | refine LeO.ite ?_ ?_
   | refine LeO.bind ?_ (fun _ => ?_)
theorem spec_l9Squares.calls (k : Nat) (A0 : Option Addr) (c0 : Nat) (l0 : List (S45)) (a1 : Int) (r1 : Int) (r2 : Int) (w : World) (hr0 : Kd.C k45 w A0 l0.length l0) (hc0 : l0.length ≤ c0) (h : spec_l9Squares.f k l0 a1 = some (r1, r2)) (hL : Net.Sine.Laid w) :
  Calls Tryd.prog 54 #[.slice A0 l0.length c0, .int .i64 a1] w fun e w' => e = .returned (.tuple #[.int .i64 r1, .int .i64 r2]) ∧ Below w.heap.size w w' := by
 have HL := Aside0.mk hL
 clear hL
 have hu45 := Tryd.underlying45
 have HR0 := Aside0.mk hr0
 have HC0 := Aside0.mk hc0
 clear hr0 hc0
 have HB := Aside0.mk (Below.refl w.heap.size w)
 have H : ((spec_l9Adjust.f l0 a1).bind fun t238 => ((spec_l9Trees.f l0).bind fun t241 => ((spec_l9Legs.f k l0).bind fun t242 => (spec_l9Squares.l0 k l0 a1 t238 t241 0 t242 0)))) = some (r1, r2) := h
 clear h
 replace H := Option.bind_eq_some_iff.mp H
 obtain ⟨t238, A30, H⟩ := H
 replace H : ((spec_l9Trees.f l0).bind fun t241 => ((spec_l9Legs.f k l0).bind fun t242 => (spec_l9Squares.l0 k l0 a1 t238 t241 0 t242 0))) = some (r1, r2) := H
 have A3 := Aside0.mk A30
 clear A30
 replace H := Option.bind_eq_some_iff.mp H
 obtain ⟨t241, A40, H⟩ := H
 replace H : ((spec_l9Legs.f k l0).bind fun t242 => (spec_l9Squares.l0 k l0 a1 t238 t241 0 t242 0)) = some (r1, r2) := H
 have A4 := Aside0.mk A40
 clear A40
 replace H := Option.bind_eq_some_iff.mp H
 obtain ⟨t242, A50, H⟩ := H
 replace H : (spec_l9Squares.l0 k l0 a1 t238 t241 0 t242 0) = some (r1, r2) := H
 have A5 := Aside0.mk A50
 clear A50
 have H' := Aside0.mk H
 clear H
 go_enter Tryd.func54, Tryd.ntmps54
 go_wp2_with (first | ((with_reducible refine gate_callee (f := 73) rfl ?_); refine goesL_ (some 16) rfl rfl Tryd.func73 qz5 rfl #[.slice A0 l0.length c0, .int .i64 a1] rfl qz1 ?_; (with_reducible refine (spec_l9Adjust.calls _ _ l0 a1 t238 _ ?side1 ?side2 A3.out ?sideL).mono ?_); (case sideL => exact HL.out.keep qz0); (case side1 => repeat (first | exact HR0.out | (with_reducible refine Kd.C_alloc ?_ _) | (with_reducible refine Kd.C_drewN ?_ _) | (with_reducible refine Kd.C_drew ?_))); (case side2 => exact HC0.out); rintro e w6 ⟨v239, rfl, ho0, hb⟩; refine ⟨_, rfl, ?_⟩; have n0_ := Aside0.mk (Kd.R_lower ho0 (below_size qz0)); have n1_ := Aside0.mk (below_step qz0 hb); clear HB; have HO240 := n0_; have HB := n1_; clear n0_ n1_; (try clear hb); (try clear hb2); (try clear hk); (try clear hi); (try clear ho0)) | ((with_reducible refine gate_callee (f := 74) rfl ?_); refine goesL_ (some 18) rfl rfl Tryd.func74 qz5 rfl #[.slice A0 l0.length c0] rfl qz1 ?_; (with_reducible refine (spec_l9Trees.calls _ _ l0 t241 _ ?side1 ?side2 A4.out ?sideL).mono ?_); (case sideL => exact HL.out.keep qz0); (case side1 => repeat (first | exact (Kd.C_below HR0.out HB.out) | (with_reducible refine Kd.C_alloc ?_ _) | (with_reducible refine Kd.C_drewN ?_ _) | (with_reducible refine Kd.C_drew ?_))); (case side2 => exact HC0.out); rintro e w7 ⟨rfl, hb⟩; refine ⟨_, rfl, ?_⟩; have n0_ := Aside0.mk (Kd.R_below qz48 hb); have n1_ := Aside0.mk (below_step qz0 hb); clear HO240; clear HB; have HO240 := n0_; have HB := n1_; clear n0_ n1_; (try clear hb); (try clear hb2); (try clear hk); (try clear hi)) | ((with_reducible refine gate_callee (f := 48) rfl ?_); refine goesL_ (some 20) rfl rfl Tryd.func48 qz5 rfl #[.slice A0 l0.length c0] rfl qz1 ?_; (with_reducible refine (spec_l9Legs.calls k _ _ l0 t242 _ ?side1 ?side2 A5.out).mono ?_); (case side1 => repeat (first | exact (Kd.C_below HR0.out HB.out) | (with_reducible refine Kd.C_alloc ?_ _) | (with_reducible refine Kd.C_drewN ?_ _) | (with_reducible refine Kd.C_drew ?_))); (case side2 => exact HC0.out); rintro e w8 ⟨v243, rfl, ho0, hb⟩; refine ⟨_, rfl, ?_⟩; have n0_ := Aside0.mk (Kd.R_elder' qz48 (Kd.R_base ho0) hb); have n1_ := Aside0.mk (Kd.R_lower (Kd.R_new' ho0 (Kd.R_lt qz48)) (below_size qz0)); have n2_ := Aside0.mk (below_step qz0 hb); clear HO240; clear HB; have HO240 := n0_; have HO244 := n1_; have HB := n2_; clear n0_ n1_ n2_; (try clear hb); (try clear hb2); (try clear hk); (try clear hi); (try clear ho0)))
 go_loopg [8, 10] k (fun kq v8 v10 w' => ∃ (x8_1 : Int) (x10_1 : Int), v8 = .int .i64 x8_1 ∧ v10 = .int .i64 x10_1 ∧ Aside0 (spec_l9Squares.l0 kq l0 a1 t238 t241 x8_1 t242 x10_1 = some (r1, r2)) ∧ Aside0 (kq ≤ k) ∧ Aside0 (Kd.R (Kd.int .i64) 3 w' w.heap.size (fun k_ => some k_ ≠ (v243 : Value).ownBlock) v239 t238) ∧ Aside0 (Kd.R (Kd.int .i64) 3 w' w.heap.size (fun k_ => some k_ ≠ (v239 : Value).ownBlock) v243 t242) ∧ Aside0 (Below w.heap.size w w'))
 case atStart => exact ⟨(0), (0), qz3, qz3, H', ⟨Nat.le_refl _⟩, ⟨by (with_reducible repeat (first | apply Kd.R_alloc | apply Kd.R_drewN | apply Kd.R_drew)); exact Kd.R_mono HO240.out (fun _ hk => hk.2)⟩, ⟨by (with_reducible repeat (first | apply Kd.R_alloc | apply Kd.R_drewN | apply Kd.R_drew)); exact Kd.R_mono HO244.out (fun _ hk => hk.2)⟩, ⟨by repeat (first | (with_reducible first | exact HB.out | apply below_alloc | apply pw_below_drewN | apply below_drew1) | exact HB.out)⟩⟩
 case round =>
  clear H'
  try clear p2
  try clear c4
  try clear c5
  try clear c7
  obtain ⟨x8_1, x10_1, rfl, rfl, HA, HK1, HO_6, HO_9, HB⟩ := hrel
  cases gk with
  | zero => exact absurd HA.out (by simp [spec_l9Squares.l0])
  | succ k1 =>
   have H := HA.out
   clear HA
   simp only [spec_l9Squares.l0] at H
   by_cases c9 : x10_1 < (t242.length : Int)
   ·
    rw [if_pos c9] at H
    have c9b0 : decide (x10_1 < (t242.length : Int)) = true := decide_eq_true c9
    clear c9
    by_cases c10 : 0 ≤ x10_1
    ·
     rw [if_pos c10] at H
     have c10b0 : decide (0 ≤ x10_1) = true := decide_eq_true c10
     clear c10
     by_cases c11 : 0 ≤ (rd t242 x10_1)
     ·
      rw [if_pos c11] at H
      have c11b0 : decide (0 ≤ (rd t242 x10_1)) = true := decide_eq_true c11
      clear c11
      by_cases c12 : (rd t242 x10_1) < (l0.length : Int)
      ·
       rw [if_pos c12] at H
       have c12b0 : decide ((rd t242 x10_1) < (l0.length : Int)) = true := decide_eq_true c12
       clear c12
       replace H := Option.bind_eq_some_iff.mp H
       obtain ⟨t247, A130, H⟩ := H
       replace H : (spec_l9Squares.l0 k1 l0 a1 t238 t241 (wrap64 (x8_1 + (wrap64 (t247 * t247)))) t242 (wrap64 (x10_1 + 1))) = some (r1, r2) := H
       have A13 := Aside0.mk A130
       clear A130
       have H' := Aside0.mk H
       clear H
       obtain ⟨Ao14, co14, eo14⟩ := Kd.R_slice HO_9.out
       subst eo14
       have p245 : 0 ≤ (x10_1 : Int) := of_decide_eq_true qz2
       have q245 : x10_1 < (t242.length : Int) := of_decide_eq_true qz2
       obtain ⟨ad245, e245, hx245_0⟩ := Kd.at_int (Kd.R_reads' HO_9.out).2.2 x10_1 p245 q245
       cases e245
       replace p245 := eq_true p245
       replace q245 := eq_true q245
       have p246 : 0 ≤ ((rd t242 x10_1) : Int) := of_decide_eq_true qz2
       have q246 : (rd t242 x10_1) < (l0.length : Int) := of_decide_eq_true qz2
       obtain ⟨ad246, e246, hx246_0, hx246_1, hx246_2, hx246_3, hx246_4⟩ := at_T45 HR0.out (rd t242 x10_1) p246 q246
       cases e246
       replace hx246_0 := (HB.out.cell (World.block_lt_of_cell? w _ hx246_0)).trans hx246_0
       replace hx246_1 := (HB.out.cell (World.block_lt_of_cell? w _ hx246_1)).trans hx246_1
       replace hx246_2 := (HB.out.cell (World.block_lt_of_cell? w _ hx246_2)).trans hx246_2
       replace hx246_3 := (HB.out.cell (World.block_lt_of_cell? w _ hx246_3)).trans hx246_3
       replace hx246_4 := (HB.out.cell (World.block_lt_of_cell? w _ hx246_4)).trans hx246_4
       replace p246 := eq_true p246
       replace q246 := eq_true q246
       obtain ⟨Ao15, co15, eo15⟩ := Kd.R_slice HO_6.out
       subst eo15
       go_wp2_with (first | ((with_reducible refine gate_callee (f := 75) rfl ?_); refine goesL_ (some 37) rfl rfl Tryd.func75 qz5 rfl #[.agg #[.int .i64 ((rd_T45 l0 (rd t242 x10_1)).f0), .int .i64 ((rd_T45 l0 (rd t242 x10_1)).f1), .int .i64 ((rd_T45 l0 (rd t242 x10_1)).f2), .int .i64 ((rd_T45 l0 (rd t242 x10_1)).f3), .int .i64 ((rd_T45 l0 (rd t242 x10_1)).f4)], .int .i64 a1, .slice Ao15 t238.length co15, .int .i64 t241] rfl qz1 ?_; (with_reducible refine (spec_l9Rest.calls ((rd_T45 l0 (rd t242 x10_1)).f0) ((rd_T45 l0 (rd t242 x10_1)).f1) ((rd_T45 l0 (rd t242 x10_1)).f2) ((rd_T45 l0 (rd t242 x10_1)).f3) ((rd_T45 l0 (rd t242 x10_1)).f4) a1 _ _ t238 t241 t247 _ ?side1 ?side2 A13.out).mono ?_); (case side1 => repeat (first | exact (Kd.R_reads' HO_6.out).2.2 | (with_reducible refine Kd.C_alloc ?_ _) | (with_reducible refine Kd.C_drewN ?_ _) | (with_reducible refine Kd.C_drew ?_))); (case side2 => exact (Kd.R_reads' HO_6.out).2.1); rintro e w16 ⟨rfl, hb⟩; refine ⟨_, rfl, ?_⟩; have n0_ := Aside0.mk (Kd.R_below qz7 hb); have n1_ := Aside0.mk (Kd.R_below (by (with_reducible repeat (first | apply Kd.R_alloc | apply Kd.R_drewN | apply Kd.R_drew)); exact HO_9.out) hb); have n2_ := Aside0.mk (below_step qz0 hb); clear HO_6; clear HO_9; clear HB; have HO_6 := n0_; have HO_9 := n1_; have HB := n2_; clear n0_ n1_ n2_; (try clear hb); (try clear hb2); (try clear hk); (try clear hi)))
       go_roundg k1
       case measure => have := HK1.out; omega
       case rel => exact ⟨(wrap64 (x8_1 + (wrap64 (t247 * t247)))), (wrap64 (x10_1 + 1)), qz3, qz3, H', ⟨by have := HK1.out; omega⟩, ⟨by (with_reducible repeat (first | apply Kd.R_alloc | apply Kd.R_drewN | apply Kd.R_drew)); exact HO_6.out⟩, ⟨by (with_reducible repeat (first | apply Kd.R_alloc | apply Kd.R_drewN | apply Kd.R_drew)); exact HO_9.out⟩, ⟨by repeat (first | (with_reducible first | exact HB.out | apply below_alloc | apply pw_below_drewN | apply below_drew1) | exact HB.out)⟩⟩
      ·
       rw [if_neg c12] at H
       exact absurd H (by simp)
     ·
      rw [if_neg c11] at H
      exact absurd H (by simp)
    ·
     rw [if_neg c10] at H
     exact absurd H (by simp)
   ·
    rw [if_neg c9] at H
    have c9b0 : decide (x10_1 < (t242.length : Int)) = false := decide_eq_false c9
    clear c9
    replace H := Option.bind_eq_some_iff.mp H
    obtain ⟨⟨t248, t249⟩, A170, H⟩ := H
    replace H : (some (t248, t249)) = some (r1, r2) := H
    have A17 := Aside0.mk A170
    clear A170
    simp only [Option.some.injEq, Prod.mk.injEq] at H
    obtain ⟨rfl, rfl⟩ := H
    obtain ⟨Ao18, co18, eo18⟩ := Kd.R_slice HO_9.out
    subst eo18
    go_wp2_with (first | ((with_reducible refine gate_callee (f := 55) rfl ?_); refine goesL_ (some 48) rfl rfl Tryd.func55 qz5 rfl #[.int .i64 x8_1, .int .i64 (wrap64 (t241 * t241))] rfl qz1 ?_; (with_reducible refine (spec_l9Reduce.calls k1 x8_1 (wrap64 (t241 * t241)) t248 t249 _ A17.out).mono ?_); rintro e w' ⟨rfl, ⟨nd, rfl⟩⟩; refine ⟨_, rfl, ?_⟩))
    go_ret2
    exact ⟨by first | rfl | (simp [errW_none, errW_some] <;> rfl) | (simp [*, errW_none, errW_some] <;> rfl), by repeat (first | (with_reducible first | exact HB.out | apply below_alloc | apply pw_below_drewN | apply below_drew1) | exact HB.out)⟩
end Go.Proofs.YtpojnobgijoddaaDoor.A
namespace Go.Proofs.YtpojnobgijoddaaDoor.A
open Go.Proofs.YtpojnobgijoddaaDoor Go.RowKit YtpojnobgijoddaaDoorW.PrintWords YtpojnobgijoddaaDoorW.PrintLast YtpojnobgijoddaaDoorW.PrintMore
attribute [local go_sem] max2_int min2_int max_two min_two max_three min_three max_four min_four
def spec_l10Strain.l0 : Nat → List (S45) → Int → Int → Int → Option (Int × Int)
 | 0, _, _, _, _ => none
 | k + 1, x0, x4, x5, x6 => if x6 < 3 then ((spec_l9Squares.f k x0 x6).bind fun bt250 => ((spec_l10Common.f k x5 bt250.2).bind fun t252 => (if t252 = 0 then (none) else ((spec_l10Common.f k x5 bt250.2).bind fun t253 => (if t253 = 0 then (none) else ((spec_l10Common.f k x5 bt250.2).bind fun t254 => (if t254 = 0 then (none) else ((spec_l9Reduce.f k (wrap64 ((wrap64 (x4 * (wrap64 (Int.tdiv bt250.2 t252)))) + (wrap64 (bt250.1 * (wrap64 (Int.tdiv x5 t253)))))) (wrap64 ((wrap64 (Int.tdiv x5 t254)) * bt250.2))).bind fun bt255 => (spec_l10Strain.l0 k x0 bt255.1 bt255.2 (wrap64 (x6 + 1))))))))))) else (some (x4, x5))
def spec_l10Strain.f (k : Nat) (l0 : List (S45)) : Option (Int × Int) := spec_l10Strain.l0 k l0 0 1 0
theorem spec_l10Strain.mono_l : ∀ k, (∀ y0 y1 y2 y3, LeO (spec_l10Strain.l0 k y0 y1 y2 y3) (spec_l10Strain.l0 (k + 1) y0 y1 y2 y3))
 | 0 => fun _ _ _ _ r h => by simp [spec_l10Strain.l0] at h
 | k + 1 => by
  have ih0 := spec_l10Strain.mono_l k
  ·
   intro y0 y1 y2 y3
   unfold spec_l10Strain.l0
   repeat' first
   | (with_reducible exact ih0 _ _ _ _)
   | (with_reducible exact spec_l10Common.mono _ _ _)
   | (with_reducible exact spec_l9Reduce.mono _ _ _)
   | (with_reducible exact spec_l9Squares.mono _ _ _)
   | (with_reducible exact LeO.refl _)
   | (with_reducible exact LeO.none _)
   | (with_reducible refine LeO.ite ?_ ?_)
   | (with_reducible refine LeO.bind ?_ (fun _ => ?_))
   | exact ih0 _ _ _ _
   | exact spec_l10Common.mono _ _ _
   | exact spec_l9Reduce.mono _ _ _
   | exact spec_l9Squares.mono _ _ _
   | exact LeO.none _
   | refine LeO.ite ?_ ?_
   | refine LeO.bind ?_ (fun _ => ?_)
theorem spec_l10Strain.mono : ∀ a0 k, LeO (spec_l10Strain.f k a0) (spec_l10Strain.f (k + 1) a0) := by
 intro a0 k
 have ih0 := spec_l10Strain.mono_l k
 unfold spec_l10Strain.f
 repeat' first
   | (with_reducible exact ih0 _ _ _ _)
   | (with_reducible exact spec_l10Common.mono _ _ _)
   | (with_reducible exact spec_l9Reduce.mono _ _ _)
   | (with_reducible exact spec_l9Squares.mono _ _ _)
   | (with_reducible exact LeO.refl _)
   | (with_reducible exact LeO.none _)
   | (with_reducible refine LeO.ite ?_ ?_)
   | (with_reducible refine LeO.bind ?_ (fun _ => ?_))
   | exact ih0 _ _ _ _
   | exact spec_l10Common.mono _ _ _
   | exact spec_l9Reduce.mono _ _ _
   | exact spec_l9Squares.mono _ _ _
   | exact LeO.none _
   | refine LeO.ite ?_ ?_
   | refine LeO.bind ?_ (fun _ => ?_)
theorem spec_l10Strain.calls (k : Nat) (A0 : Option Addr) (c0 : Nat) (l0 : List (S45)) (r1 : Int) (r2 : Int) (w : World) (hr0 : Kd.C k45 w A0 l0.length l0) (hc0 : l0.length ≤ c0) (h : spec_l10Strain.f k l0 = some (r1, r2)) (hL : Net.Sine.Laid w) :
  Calls Tryd.prog 30 #[.slice A0 l0.length c0] w fun e w' => e = .returned (.tuple #[.int .i64 r1, .int .i64 r2]) ∧ Below w.heap.size w w' := by
 have HL := Aside0.mk hL
 clear hL
 have HR0 := Aside0.mk hr0
 have HC0 := Aside0.mk hc0
 clear hr0 hc0
 have HB := Aside0.mk (Below.refl w.heap.size w)
 have H : (spec_l10Strain.l0 k l0 0 1 0) = some (r1, r2) := h
 clear h
 have H' := Aside0.mk H
 clear H
 go_enter Tryd.func30, Tryd.ntmps30
 go_wp2
 repeat (go_quiet (fail); try go_wp2)
 go_loopg [4, 5, 6] k (fun kq v4 v5 v6 w' => ∃ (x4_1 : Int) (x5_1 : Int) (x6_1 : Int), v4 = .int .i64 x4_1 ∧ v5 = .int .i64 x5_1 ∧ v6 = .int .i64 x6_1 ∧ Aside0 (spec_l10Strain.l0 kq l0 x4_1 x5_1 x6_1 = some (r1, r2)) ∧ Aside0 (kq ≤ k) ∧ Aside0 (Below w.heap.size w w'))
 case atStart => exact ⟨(0), (1), (0), qz3, qz3, qz3, H', ⟨Nat.le_refl _⟩, ⟨by repeat (first | (with_reducible first | exact HB.out | apply below_alloc | apply pw_below_drewN | apply below_drew1) | exact HB.out)⟩⟩
 case round =>
  clear H'
  obtain ⟨x4_1, x5_1, x6_1, rfl, rfl, rfl, HA, HK1, HB⟩ := hrel
  cases gk with
  | zero => exact absurd HA.out (by simp [spec_l10Strain.l0])
  | succ k1 =>
   have H := HA.out
   clear HA
   simp only [spec_l10Strain.l0] at H
   by_cases c2 : x6_1 < 3
   ·
    rw [if_pos c2] at H
    have c2b0 : decide (x6_1 < 3) = true := decide_eq_true c2
    clear c2
    replace H := Option.bind_eq_some_iff.mp H
    obtain ⟨⟨t250, t251⟩, A30, H⟩ := H
    replace H : ((spec_l10Common.f k1 x5_1 t251).bind fun t252 => (if t252 = 0 then (none) else ((spec_l10Common.f k1 x5_1 t251).bind fun t253 => (if t253 = 0 then (none) else ((spec_l10Common.f k1 x5_1 t251).bind fun t254 => (if t254 = 0 then (none) else ((spec_l9Reduce.f k1 (wrap64 ((wrap64 (x4_1 * (wrap64 (Int.tdiv t251 t252)))) + (wrap64 (t250 * (wrap64 (Int.tdiv x5_1 t253)))))) (wrap64 ((wrap64 (Int.tdiv x5_1 t254)) * t251))).bind fun bt255 => (spec_l10Strain.l0 k1 l0 bt255.1 bt255.2 (wrap64 (x6_1 + 1)))))))))) = some (r1, r2) := H
    have A3 := Aside0.mk A30
    clear A30
    replace H := Option.bind_eq_some_iff.mp H
    obtain ⟨t252, A40, H⟩ := H
    replace H : (if t252 = 0 then (none) else ((spec_l10Common.f k1 x5_1 t251).bind fun t253 => (if t253 = 0 then (none) else ((spec_l10Common.f k1 x5_1 t251).bind fun t254 => (if t254 = 0 then (none) else ((spec_l9Reduce.f k1 (wrap64 ((wrap64 (x4_1 * (wrap64 (Int.tdiv t251 t252)))) + (wrap64 (t250 * (wrap64 (Int.tdiv x5_1 t253)))))) (wrap64 ((wrap64 (Int.tdiv x5_1 t254)) * t251))).bind fun bt255 => (spec_l10Strain.l0 k1 l0 bt255.1 bt255.2 (wrap64 (x6_1 + 1))))))))) = some (r1, r2) := H
    have A4 := Aside0.mk A40
    clear A40
    by_cases c5 : t252 = 0
    ·
     rw [if_pos c5] at H
     exact absurd H (by simp)
    ·
     rw [if_neg c5] at H
     have c5b0 : (t252 == 0) = false := beq_eq_false_iff_ne.mpr c5
     have c5b1 : (t252 != 0) = true := bne_iff_ne.mpr c5
     replace H := Option.bind_eq_some_iff.mp H
     obtain ⟨t253, A60, H⟩ := H
     replace H : (if t253 = 0 then (none) else ((spec_l10Common.f k1 x5_1 t251).bind fun t254 => (if t254 = 0 then (none) else ((spec_l9Reduce.f k1 (wrap64 ((wrap64 (x4_1 * (wrap64 (Int.tdiv t251 t252)))) + (wrap64 (t250 * (wrap64 (Int.tdiv x5_1 t253)))))) (wrap64 ((wrap64 (Int.tdiv x5_1 t254)) * t251))).bind fun bt255 => (spec_l10Strain.l0 k1 l0 bt255.1 bt255.2 (wrap64 (x6_1 + 1))))))) = some (r1, r2) := H
     have A6 := Aside0.mk A60
     clear A60
     by_cases c7 : t253 = 0
     ·
      rw [if_pos c7] at H
      exact absurd H (by simp)
     ·
      rw [if_neg c7] at H
      have c7b0 : (t253 == 0) = false := beq_eq_false_iff_ne.mpr c7
      have c7b1 : (t253 != 0) = true := bne_iff_ne.mpr c7
      replace H := Option.bind_eq_some_iff.mp H
      obtain ⟨t254, A80, H⟩ := H
      replace H : (if t254 = 0 then (none) else ((spec_l9Reduce.f k1 (wrap64 ((wrap64 (x4_1 * (wrap64 (Int.tdiv t251 t252)))) + (wrap64 (t250 * (wrap64 (Int.tdiv x5_1 t253)))))) (wrap64 ((wrap64 (Int.tdiv x5_1 t254)) * t251))).bind fun bt255 => (spec_l10Strain.l0 k1 l0 bt255.1 bt255.2 (wrap64 (x6_1 + 1))))) = some (r1, r2) := H
      have A8 := Aside0.mk A80
      clear A80
      by_cases c9 : t254 = 0
      ·
       rw [if_pos c9] at H
       exact absurd H (by simp)
      ·
       rw [if_neg c9] at H
       have c9b0 : (t254 == 0) = false := beq_eq_false_iff_ne.mpr c9
       have c9b1 : (t254 != 0) = true := bne_iff_ne.mpr c9
       replace H := Option.bind_eq_some_iff.mp H
       obtain ⟨⟨t255, t256⟩, A100, H⟩ := H
       replace H : (spec_l10Strain.l0 k1 l0 t255 t256 (wrap64 (x6_1 + 1))) = some (r1, r2) := H
       rw [show t253 = t252 from Option.some.inj (A6.out.symm.trans A4.out), show t254 = t252 from Option.some.inj (A8.out.symm.trans A4.out)] at A100
       have A10 := Aside0.mk A100
       clear A100
       have H' := Aside0.mk H
       clear H
       go_wp2_with (first | (go_at_call 54; (with_reducible refine (spec_l9Squares.calls k1 _ _ l0 x6_1 t250 t251 _ ?side1 ?side2 A3.out ?sideL).mono ?_); (case sideL => exact HL.out.keep qz0); (case side1 => repeat (first | exact (Kd.C_below HR0.out HB.out) | (with_reducible refine Kd.C_alloc ?_ _) | (with_reducible refine Kd.C_drewN ?_ _) | (with_reducible refine Kd.C_drew ?_))); (case side2 => exact HC0.out); rintro e w11 ⟨rfl, hb⟩; have n0_ := Aside0.mk (below_step qz0 hb); clear HB; have HB := n0_; clear n0_; (try clear hb); (try clear hb2); (try clear hk); (try clear hi)) | (go_at_call 56; (with_reducible refine (spec_l10Common.calls k1 x5_1 t251 t252 _ A4.out).mono ?_); rintro e w' ⟨rfl, ⟨nd, rfl⟩⟩; (try first | exact ⟨rfl, _, World.drewN_drewN _ _ _⟩ | exact ⟨rfl, _, Eq.trans (World.drewN_drewN _ _ _) (congrArg (World.drewN _) (Nat.add_assoc _ _ _))⟩)) | (go_at_call 56; (with_reducible refine (spec_l10Common.calls k1 x5_1 t251 t252 _ A4.out).mono ?_); rintro e w' ⟨rfl, ⟨nd, rfl⟩⟩; (try first | exact ⟨rfl, _, World.drewN_drewN _ _ _⟩ | exact ⟨rfl, _, Eq.trans (World.drewN_drewN _ _ _) (congrArg (World.drewN _) (Nat.add_assoc _ _ _))⟩)) | (go_at_call 56; (with_reducible refine (spec_l10Common.calls k1 x5_1 t251 t252 _ A4.out).mono ?_); rintro e w' ⟨rfl, ⟨nd, rfl⟩⟩; (try first | exact ⟨rfl, _, World.drewN_drewN _ _ _⟩ | exact ⟨rfl, _, Eq.trans (World.drewN_drewN _ _ _) (congrArg (World.drewN _) (Nat.add_assoc _ _ _))⟩)) | (go_at_call 55; (with_reducible refine (spec_l9Reduce.calls k1 (wrap64 ((wrap64 (x4_1 * (wrap64 (Int.tdiv t251 t252)))) + (wrap64 (t250 * (wrap64 (Int.tdiv x5_1 t252)))))) (wrap64 ((wrap64 (Int.tdiv x5_1 t252)) * t251)) t255 t256 _ A10.out).mono ?_); rintro e w' ⟨rfl, ⟨nd, rfl⟩⟩; (try first | exact ⟨rfl, _, World.drewN_drewN _ _ _⟩ | exact ⟨rfl, _, Eq.trans (World.drewN_drewN _ _ _) (congrArg (World.drewN _) (Nat.add_assoc _ _ _))⟩)))
       repeat (go_quiet (first | (go_at_call 54; (with_reducible refine (spec_l9Squares.calls k1 _ _ l0 x6_1 t250 t251 _ ?side1 ?side2 A3.out ?sideL).mono ?_); (case sideL => exact HL.out.keep qz0); (case side1 => repeat (first | exact (Kd.C_below HR0.out HB.out) | (with_reducible refine Kd.C_alloc ?_ _) | (with_reducible refine Kd.C_drewN ?_ _) | (with_reducible refine Kd.C_drew ?_))); (case side2 => exact HC0.out); rintro e w11 ⟨rfl, hb⟩; have n0_ := Aside0.mk (below_step qz0 hb); clear HB; have HB := n0_; clear n0_; (try clear hb); (try clear hb2); (try clear hk); (try clear hi)) | (go_at_call 56; (with_reducible refine (spec_l10Common.calls k1 x5_1 t251 t252 _ A4.out).mono ?_); rintro e w' ⟨rfl, ⟨nd, rfl⟩⟩; (try first | exact ⟨rfl, _, World.drewN_drewN _ _ _⟩ | exact ⟨rfl, _, Eq.trans (World.drewN_drewN _ _ _) (congrArg (World.drewN _) (Nat.add_assoc _ _ _))⟩)) | (go_at_call 56; (with_reducible refine (spec_l10Common.calls k1 x5_1 t251 t252 _ A4.out).mono ?_); rintro e w' ⟨rfl, ⟨nd, rfl⟩⟩; (try first | exact ⟨rfl, _, World.drewN_drewN _ _ _⟩ | exact ⟨rfl, _, Eq.trans (World.drewN_drewN _ _ _) (congrArg (World.drewN _) (Nat.add_assoc _ _ _))⟩)) | (go_at_call 56; (with_reducible refine (spec_l10Common.calls k1 x5_1 t251 t252 _ A4.out).mono ?_); rintro e w' ⟨rfl, ⟨nd, rfl⟩⟩; (try first | exact ⟨rfl, _, World.drewN_drewN _ _ _⟩ | exact ⟨rfl, _, Eq.trans (World.drewN_drewN _ _ _) (congrArg (World.drewN _) (Nat.add_assoc _ _ _))⟩)) | (go_at_call 55; (with_reducible refine (spec_l9Reduce.calls k1 (wrap64 ((wrap64 (x4_1 * (wrap64 (Int.tdiv t251 t252)))) + (wrap64 (t250 * (wrap64 (Int.tdiv x5_1 t252)))))) (wrap64 ((wrap64 (Int.tdiv x5_1 t252)) * t251)) t255 t256 _ A10.out).mono ?_); rintro e w' ⟨rfl, ⟨nd, rfl⟩⟩; (try first | exact ⟨rfl, _, World.drewN_drewN _ _ _⟩ | exact ⟨rfl, _, Eq.trans (World.drewN_drewN _ _ _) (congrArg (World.drewN _) (Nat.add_assoc _ _ _))⟩))); try go_wp2_with (first | (go_at_call 54; (with_reducible refine (spec_l9Squares.calls k1 _ _ l0 x6_1 t250 t251 _ ?side1 ?side2 A3.out ?sideL).mono ?_); (case sideL => exact HL.out.keep qz0); (case side1 => repeat (first | exact (Kd.C_below HR0.out HB.out) | (with_reducible refine Kd.C_alloc ?_ _) | (with_reducible refine Kd.C_drewN ?_ _) | (with_reducible refine Kd.C_drew ?_))); (case side2 => exact HC0.out); rintro e w11 ⟨rfl, hb⟩; have n0_ := Aside0.mk (below_step qz0 hb); clear HB; have HB := n0_; clear n0_; (try clear hb); (try clear hb2); (try clear hk); (try clear hi)) | (go_at_call 56; (with_reducible refine (spec_l10Common.calls k1 x5_1 t251 t252 _ A4.out).mono ?_); rintro e w' ⟨rfl, ⟨nd, rfl⟩⟩; (try first | exact ⟨rfl, _, World.drewN_drewN _ _ _⟩ | exact ⟨rfl, _, Eq.trans (World.drewN_drewN _ _ _) (congrArg (World.drewN _) (Nat.add_assoc _ _ _))⟩)) | (go_at_call 56; (with_reducible refine (spec_l10Common.calls k1 x5_1 t251 t252 _ A4.out).mono ?_); rintro e w' ⟨rfl, ⟨nd, rfl⟩⟩; (try first | exact ⟨rfl, _, World.drewN_drewN _ _ _⟩ | exact ⟨rfl, _, Eq.trans (World.drewN_drewN _ _ _) (congrArg (World.drewN _) (Nat.add_assoc _ _ _))⟩)) | (go_at_call 56; (with_reducible refine (spec_l10Common.calls k1 x5_1 t251 t252 _ A4.out).mono ?_); rintro e w' ⟨rfl, ⟨nd, rfl⟩⟩; (try first | exact ⟨rfl, _, World.drewN_drewN _ _ _⟩ | exact ⟨rfl, _, Eq.trans (World.drewN_drewN _ _ _) (congrArg (World.drewN _) (Nat.add_assoc _ _ _))⟩)) | (go_at_call 55; (with_reducible refine (spec_l9Reduce.calls k1 (wrap64 ((wrap64 (x4_1 * (wrap64 (Int.tdiv t251 t252)))) + (wrap64 (t250 * (wrap64 (Int.tdiv x5_1 t252)))))) (wrap64 ((wrap64 (Int.tdiv x5_1 t252)) * t251)) t255 t256 _ A10.out).mono ?_); rintro e w' ⟨rfl, ⟨nd, rfl⟩⟩; (try first | exact ⟨rfl, _, World.drewN_drewN _ _ _⟩ | exact ⟨rfl, _, Eq.trans (World.drewN_drewN _ _ _) (congrArg (World.drewN _) (Nat.add_assoc _ _ _))⟩))))
       go_roundg k1
       case measure => have := HK1.out; omega
       case rel => exact ⟨(t255), (t256), (wrap64 (x6_1 + 1)), qz3, qz3, qz3, H', ⟨by have := HK1.out; omega⟩, ⟨by repeat (first | (with_reducible first | exact HB.out | apply below_alloc | apply pw_below_drewN | apply below_drew1) | exact HB.out)⟩⟩
   ·
    rw [if_neg c2] at H
    have c2b0 : decide (x6_1 < 3) = false := decide_eq_false c2
    clear c2
    simp only [Option.some.injEq, Prod.mk.injEq] at H
    obtain ⟨rfl, rfl⟩ := H
    go_wp2
    repeat (go_quiet (fail); try go_wp2)
    go_ret2
    exact ⟨by first | rfl | (simp [errW_none, errW_some] <;> rfl) | (simp [*, errW_none, errW_some] <;> rfl), by repeat (first | (with_reducible first | exact HB.out | apply below_alloc | apply pw_below_drewN | apply below_drew1) | exact HB.out)⟩
end Go.Proofs.YtpojnobgijoddaaDoor.A
namespace Go.Proofs.YtpojnobgijoddaaDoor.A
open Go.Proofs.YtpojnobgijoddaaDoor Go.RowKit YtpojnobgijoddaaDoorW.PrintWords YtpojnobgijoddaaDoorW.PrintLast YtpojnobgijoddaaDoorW.PrintMore
attribute [local go_sem] max2_int min2_int max_two min_two max_three min_three max_four min_four
def spec_SuspectLeg.l0 : Nat → List (S45) → List Int → Int → Int → Int → Int → Option (Int × Bool)
 | 0, _, _, _, _, _, _ => none
 | k + 1, x0, x4, x5, x6, x7, x8 => if x8 < (x4.length : Int) then (if 0 ≤ x8 then ((spec_l8Bridge.f k x0 (rd x4 x8)).bind fun t512 => (if t512 = true then (spec_SuspectLeg.l0 k x0 x4 x5 x6 x7 (wrap64 (x8 + 1))) else ((spec_l10Less.f x0 (rd x4 x8)).bind fun t514 => ((spec_l10Strain.f k t514).bind fun bt517 => (if x5 < 0 then (spec_SuspectLeg.l0 k x0 x4 (rd x4 x8) bt517.1 bt517.2 (wrap64 (x8 + 1))) else ((spec_l10Compare.f k bt517.1 bt517.2 x6 x7).bind fun t520 => (if t520 < 0 then (spec_SuspectLeg.l0 k x0 x4 (rd x4 x8) bt517.1 bt517.2 (wrap64 (x8 + 1))) else (spec_SuspectLeg.l0 k x0 x4 x5 x6 x7 (wrap64 (x8 + 1)))))))))) else (none)) else (if x5 < 0 then (some (0, false)) else (some (x5, true)))
def spec_SuspectLeg.f (k : Nat) (l0 : List (S45)) : Option (Int × Bool) := (spec_l4Legs.f k l0).bind fun t507 => (if t507 = true then ((spec_l9Legs.f k l0).bind fun t508 => (spec_SuspectLeg.l0 k l0 t508 (-1) 0 1 0)) else (some (0, false)))
theorem spec_SuspectLeg.mono_l : ∀ k, (∀ y0 y1 y2 y3 y4 y5, LeO (spec_SuspectLeg.l0 k y0 y1 y2 y3 y4 y5) (spec_SuspectLeg.l0 (k + 1) y0 y1 y2 y3 y4 y5))
 | 0 => fun _ _ _ _ _ _ r h => by simp [spec_SuspectLeg.l0] at h
 | k + 1 => by
  have ih0 := spec_SuspectLeg.mono_l k
  ·
   intro y0 y1 y2 y3 y4 y5
   unfold spec_SuspectLeg.l0
   repeat' first
   | (with_reducible exact ih0 _ _ _ _ _ _)
   | (with_reducible exact spec_l10Compare.mono _ _ _ _ _)
   | (with_reducible exact spec_l10Strain.mono _ _)
   | (with_reducible exact spec_l4Legs.mono _ _)
   | (with_reducible exact spec_l8Bridge.mono _ _ _)
   | (with_reducible exact spec_l9Legs.mono _ _)
   | (with_reducible exact LeO.refl _)
   | (with_reducible exact LeO.none _)
   | (with_reducible refine LeO.ite ?_ ?_)
   | (with_reducible refine LeO.bind ?_ (fun _ => ?_))
   | exact ih0 _ _ _ _ _ _
   | exact spec_l10Compare.mono _ _ _ _ _
   | exact spec_l10Strain.mono _ _
   | exact spec_l4Legs.mono _ _
   | exact spec_l8Bridge.mono _ _ _
   | exact spec_l9Legs.mono _ _
   | exact LeO.none _
   | refine LeO.ite ?_ ?_
   | refine LeO.bind ?_ (fun _ => ?_)
theorem spec_SuspectLeg.mono : ∀ a0 k, LeO (spec_SuspectLeg.f k a0) (spec_SuspectLeg.f (k + 1) a0) := by
 intro a0 k
 have ih0 := spec_SuspectLeg.mono_l k
 unfold spec_SuspectLeg.f
 repeat' first
   | (with_reducible exact ih0 _ _ _ _ _ _)
   | (with_reducible exact spec_l10Compare.mono _ _ _ _ _)
   | (with_reducible exact spec_l10Strain.mono _ _)
   | (with_reducible exact spec_l4Legs.mono _ _)
   | (with_reducible exact spec_l8Bridge.mono _ _ _)
   | (with_reducible exact spec_l9Legs.mono _ _)
   | (with_reducible exact LeO.refl _)
   | (with_reducible exact LeO.none _)
   | (with_reducible refine LeO.ite ?_ ?_)
   | (with_reducible refine LeO.bind ?_ (fun _ => ?_))
   | exact ih0 _ _ _ _ _ _
   | exact spec_l10Compare.mono _ _ _ _ _
   | exact spec_l10Strain.mono _ _
   | exact spec_l4Legs.mono _ _
   | exact spec_l8Bridge.mono _ _ _
   | exact spec_l9Legs.mono _ _
   | exact LeO.none _
   | refine LeO.ite ?_ ?_
   | refine LeO.bind ?_ (fun _ => ?_)
theorem spec_SuspectLeg.calls (k : Nat) (A0 : Option Addr) (c0 : Nat) (l0 : List (S45)) (r1 : Int) (r2 : Bool) (w : World) (hr0 : Kd.C k45 w A0 l0.length l0) (hc0 : l0.length ≤ c0) (h : spec_SuspectLeg.f k l0 = some (r1, r2)) (hL : Net.Sine.Laid w) :
  Calls Tryd.prog 23 #[.slice A0 l0.length c0] w fun e w' => e = .returned (.tuple #[.int .i64 r1, .bool r2]) ∧ Below w.heap.size w w' := by
 have HL := Aside0.mk hL
 clear hL
 have HR0 := Aside0.mk hr0
 have HC0 := Aside0.mk hc0
 clear hr0 hc0
 have HB := Aside0.mk (Below.refl w.heap.size w)
 have H : ((spec_l4Legs.f k l0).bind fun t507 => (if t507 = true then ((spec_l9Legs.f k l0).bind fun t508 => (spec_SuspectLeg.l0 k l0 t508 (-1) 0 1 0)) else (some (0, false)))) = some (r1, r2) := h
 clear h
 replace H := Option.bind_eq_some_iff.mp H
 obtain ⟨t507, A20, H⟩ := H
 replace H : (if t507 = true then ((spec_l9Legs.f k l0).bind fun t508 => (spec_SuspectLeg.l0 k l0 t508 (-1) 0 1 0)) else (some (0, false))) = some (r1, r2) := H
 have A2 := Aside0.mk A20
 clear A20
 by_cases c3 : t507 = true
 ·
  subst c3
  have H1 : ((spec_l9Legs.f k l0).bind fun t508 => (spec_SuspectLeg.l0 k l0 t508 (-1) 0 1 0)) = some (r1, r2) := by rw [if_pos rfl] at H; exact H
  clear H
  have H := H1
  clear H1
  replace H := Option.bind_eq_some_iff.mp H
  obtain ⟨t508, A40, H⟩ := H
  replace H : (spec_SuspectLeg.l0 k l0 t508 (-1) 0 1 0) = some (r1, r2) := H
  have A4 := Aside0.mk A40
  clear A40
  have H' := Aside0.mk H
  clear H
  go_enter Tryd.func23, Tryd.ntmps23
  go_wp2_with (first | ((with_reducible refine gate_callee (f := 29) rfl ?_); refine goesL_ (some 12) rfl rfl Tryd.func29 qz5 rfl #[.slice A0 l0.length c0] rfl qz1 ?_; (with_reducible refine (spec_l4Legs.calls k _ _ l0 true _ ?side1 ?side2 A2.out).mono ?_); (case side1 => repeat (first | exact HR0.out | (with_reducible refine Kd.C_alloc ?_ _) | (with_reducible refine Kd.C_drewN ?_ _) | (with_reducible refine Kd.C_drew ?_))); (case side2 => exact HC0.out); rintro e w5 ⟨rfl, hb⟩; refine ⟨_, rfl, ?_⟩; have n0_ := Aside0.mk (below_step qz0 hb); clear HB; have HB := n0_; clear n0_; (try clear hb); (try clear hb2); (try clear hk); (try clear hi)) | ((with_reducible refine gate_callee (f := 48) rfl ?_); refine goesL_ (some 15) rfl rfl Tryd.func48 qz5 rfl #[.slice A0 l0.length c0] rfl qz1 ?_; (with_reducible refine (spec_l9Legs.calls k _ _ l0 t508 _ ?side1 ?side2 A4.out).mono ?_); (case side1 => repeat (first | exact (Kd.C_below HR0.out HB.out) | (with_reducible refine Kd.C_alloc ?_ _) | (with_reducible refine Kd.C_drewN ?_ _) | (with_reducible refine Kd.C_drew ?_))); (case side2 => exact HC0.out); rintro e w6 ⟨v509, rfl, ho0, hb⟩; refine ⟨_, rfl, ?_⟩; have n0_ := Aside0.mk (Kd.R_lower ho0 (below_size qz0)); have n1_ := Aside0.mk (below_step qz0 hb); clear HB; have HO510 := n0_; have HB := n1_; clear n0_ n1_; (try clear hb); (try clear hb2); (try clear hk); (try clear hi); (try clear ho0)))
  go_loopg [5, 6, 7, 8] k (fun kq v5 v6 v7 v8 w' => ∃ (x5_1 : Int) (x6_1 : Int) (x7_1 : Int) (x8_1 : Int), v5 = .int .i64 x5_1 ∧ v6 = .int .i64 x6_1 ∧ v7 = .int .i64 x7_1 ∧ v8 = .int .i64 x8_1 ∧ Aside0 (spec_SuspectLeg.l0 kq l0 t508 x5_1 x6_1 x7_1 x8_1 = some (r1, r2)) ∧ Aside0 (kq ≤ k) ∧ Aside0 (Kd.R (Kd.int .i64) 3 w' w.heap.size (fun _ => True) v509 t508) ∧ Aside0 (Below w.heap.size w w'))
  case atStart => exact ⟨((-1)), (0), (1), (0), qz3, qz3, qz3, qz3, H', ⟨Nat.le_refl _⟩, ⟨by (with_reducible repeat (first | apply Kd.R_alloc | apply Kd.R_drewN | apply Kd.R_drew)); exact HO510.out⟩, ⟨by repeat (first | (with_reducible first | exact HB.out | apply below_alloc | apply pw_below_drewN | apply below_drew1) | exact HB.out)⟩⟩
  case round =>
   clear H'
   try clear c2
   try clear p2
   try clear c3
   try clear c4
   obtain ⟨x5_1, x6_1, x7_1, x8_1, rfl, rfl, rfl, rfl, HA, HK1, HO_4, HB⟩ := hrel
   cases gk with
   | zero => exact absurd HA.out (by simp [spec_SuspectLeg.l0])
   | succ k1 =>
    have H := HA.out
    clear HA
    simp only [spec_SuspectLeg.l0] at H
    by_cases c7 : x8_1 < (t508.length : Int)
    ·
     rw [if_pos c7] at H
     have c7b0 : decide (x8_1 < (t508.length : Int)) = true := decide_eq_true c7
     clear c7
     by_cases c8 : 0 ≤ x8_1
     ·
      rw [if_pos c8] at H
      have c8b0 : decide (0 ≤ x8_1) = true := decide_eq_true c8
      clear c8
      replace H := Option.bind_eq_some_iff.mp H
      obtain ⟨t512, A90, H⟩ := H
      replace H : (if t512 = true then (spec_SuspectLeg.l0 k1 l0 t508 x5_1 x6_1 x7_1 (wrap64 (x8_1 + 1))) else ((spec_l10Less.f l0 (rd t508 x8_1)).bind fun t514 => ((spec_l10Strain.f k1 t514).bind fun bt517 => (if x5_1 < 0 then (spec_SuspectLeg.l0 k1 l0 t508 (rd t508 x8_1) bt517.1 bt517.2 (wrap64 (x8_1 + 1))) else ((spec_l10Compare.f k1 bt517.1 bt517.2 x6_1 x7_1).bind fun t520 => (if t520 < 0 then (spec_SuspectLeg.l0 k1 l0 t508 (rd t508 x8_1) bt517.1 bt517.2 (wrap64 (x8_1 + 1))) else (spec_SuspectLeg.l0 k1 l0 t508 x5_1 x6_1 x7_1 (wrap64 (x8_1 + 1))))))))) = some (r1, r2) := H
      have A9 := Aside0.mk A90
      clear A90
      by_cases c10 : t512 = true
      ·
       subst c10
       have H1 : (spec_SuspectLeg.l0 k1 l0 t508 x5_1 x6_1 x7_1 (wrap64 (x8_1 + 1))) = some (r1, r2) := by rw [if_pos rfl] at H; exact H
       clear H
       have H := H1
       clear H1
       have H' := Aside0.mk H
       clear H
       obtain ⟨Ao11, co11, eo11⟩ := Kd.R_slice HO_4.out
       subst eo11
       have p511 : 0 ≤ (x8_1 : Int) := of_decide_eq_true qz2
       have q511 : x8_1 < (t508.length : Int) := of_decide_eq_true qz2
       obtain ⟨ad511, e511, hx511_0⟩ := Kd.at_int (Kd.R_reads' HO_4.out).2.2 x8_1 p511 q511
       cases e511
       replace p511 := eq_true p511
       replace q511 := eq_true q511
       go_wp2_with (first | ((with_reducible refine gate_callee (f := 41) rfl ?_); refine goesL_ (some 27) rfl rfl Tryd.func41 qz5 rfl #[.slice A0 l0.length c0, .int .i64 (rd t508 x8_1)] rfl qz1 ?_; (with_reducible refine (spec_l8Bridge.calls k1 _ _ l0 (rd t508 x8_1) true _ ?side1 ?side2 A9.out).mono ?_); (case side1 => repeat (first | exact (Kd.C_below HR0.out HB.out) | (with_reducible refine Kd.C_alloc ?_ _) | (with_reducible refine Kd.C_drewN ?_ _) | (with_reducible refine Kd.C_drew ?_))); (case side2 => exact HC0.out); rintro e w12 ⟨rfl, hb⟩; refine ⟨_, rfl, ?_⟩; have n0_ := Aside0.mk (Kd.R_below qz8 hb); have n1_ := Aside0.mk (below_step qz0 hb); clear HO_4; clear HB; have HO_4 := n0_; have HB := n1_; clear n0_ n1_; (try clear hb); (try clear hb2); (try clear hk); (try clear hi)))
       go_roundg k1
       case measure => have := HK1.out; omega
       case rel => exact ⟨(x5_1), (x6_1), (x7_1), (wrap64 (x8_1 + 1)), qz3, qz3, qz3, qz3, H', ⟨by have := HK1.out; omega⟩, ⟨by (with_reducible repeat (first | apply Kd.R_alloc | apply Kd.R_drewN | apply Kd.R_drew)); exact HO_4.out⟩, ⟨by repeat (first | (with_reducible first | exact HB.out | apply below_alloc | apply pw_below_drewN | apply below_drew1) | exact HB.out)⟩⟩
      ·
       replace c10 := Bool.eq_false_iff.mpr c10
       subst c10
       have H1 : ((spec_l10Less.f l0 (rd t508 x8_1)).bind fun t514 => ((spec_l10Strain.f k1 t514).bind fun bt517 => (if x5_1 < 0 then (spec_SuspectLeg.l0 k1 l0 t508 (rd t508 x8_1) bt517.1 bt517.2 (wrap64 (x8_1 + 1))) else ((spec_l10Compare.f k1 bt517.1 bt517.2 x6_1 x7_1).bind fun t520 => (if t520 < 0 then (spec_SuspectLeg.l0 k1 l0 t508 (rd t508 x8_1) bt517.1 bt517.2 (wrap64 (x8_1 + 1))) else (spec_SuspectLeg.l0 k1 l0 t508 x5_1 x6_1 x7_1 (wrap64 (x8_1 + 1)))))))) = some (r1, r2) := by rw [if_neg (show ¬ (false = true) by decide)] at H; exact H
       clear H
       have H := H1
       clear H1
       replace H := Option.bind_eq_some_iff.mp H
       obtain ⟨t514, A130, H⟩ := H
       replace H : ((spec_l10Strain.f k1 t514).bind fun bt517 => (if x5_1 < 0 then (spec_SuspectLeg.l0 k1 l0 t508 (rd t508 x8_1) bt517.1 bt517.2 (wrap64 (x8_1 + 1))) else ((spec_l10Compare.f k1 bt517.1 bt517.2 x6_1 x7_1).bind fun t520 => (if t520 < 0 then (spec_SuspectLeg.l0 k1 l0 t508 (rd t508 x8_1) bt517.1 bt517.2 (wrap64 (x8_1 + 1))) else (spec_SuspectLeg.l0 k1 l0 t508 x5_1 x6_1 x7_1 (wrap64 (x8_1 + 1))))))) = some (r1, r2) := H
       have A13 := Aside0.mk A130
       clear A130
       replace H := Option.bind_eq_some_iff.mp H
       obtain ⟨⟨t517, t518⟩, A140, H⟩ := H
       replace H : (if x5_1 < 0 then (spec_SuspectLeg.l0 k1 l0 t508 (rd t508 x8_1) t517 t518 (wrap64 (x8_1 + 1))) else ((spec_l10Compare.f k1 t517 t518 x6_1 x7_1).bind fun t520 => (if t520 < 0 then (spec_SuspectLeg.l0 k1 l0 t508 (rd t508 x8_1) t517 t518 (wrap64 (x8_1 + 1))) else (spec_SuspectLeg.l0 k1 l0 t508 x5_1 x6_1 x7_1 (wrap64 (x8_1 + 1)))))) = some (r1, r2) := H
       have A14 := Aside0.mk A140
       clear A140
       by_cases c15 : x5_1 < 0
       ·
        rw [if_pos c15] at H
        have c15b0 : decide (x5_1 < 0) = true := decide_eq_true c15
        clear c15
        have H' := Aside0.mk H
        clear H
        obtain ⟨Ao16, co16, eo16⟩ := Kd.R_slice HO_4.out
        subst eo16
        have p511 : 0 ≤ (x8_1 : Int) := of_decide_eq_true qz2
        have q511 : x8_1 < (t508.length : Int) := of_decide_eq_true qz2
        obtain ⟨ad511, e511, hx511_0⟩ := Kd.at_int (Kd.R_reads' HO_4.out).2.2 x8_1 p511 q511
        cases e511
        replace p511 := eq_true p511
        replace q511 := eq_true q511
        go_wp2_with (first | ((with_reducible refine gate_callee (f := 41) rfl ?_); refine goesL_ (some 27) rfl rfl Tryd.func41 qz5 rfl #[.slice A0 l0.length c0, .int .i64 (rd t508 x8_1)] rfl qz1 ?_; (with_reducible refine (spec_l8Bridge.calls k1 _ _ l0 (rd t508 x8_1) false _ ?side1 ?side2 A9.out).mono ?_); (case side1 => repeat (first | exact (Kd.C_below HR0.out HB.out) | (with_reducible refine Kd.C_alloc ?_ _) | (with_reducible refine Kd.C_drewN ?_ _) | (with_reducible refine Kd.C_drew ?_))); (case side2 => exact HC0.out); rintro e w17 ⟨rfl, hb⟩; refine ⟨_, rfl, ?_⟩; have n0_ := Aside0.mk (Kd.R_below qz8 hb); have n1_ := Aside0.mk (below_step qz0 hb); clear HO_4; clear HB; have HO_4 := n0_; have HB := n1_; clear n0_ n1_; (try clear hb); (try clear hb2); (try clear hk); (try clear hi); have p513 : 0 ≤ (x8_1 : Int) := of_decide_eq_true qz2; have q513 : x8_1 < (t508.length : Int) := of_decide_eq_true qz2; obtain ⟨ad513, e513, hx513_0⟩ := Kd.at_int (Kd.R_reads' HO_4.out).2.2 x8_1 p513 q513; obtain rfl : ad511 = ad513 := (by injection e513); replace p513 := eq_true p513; replace q513 := eq_true q513) | ((with_reducible refine gate_callee (f := 42) rfl ?_); refine goesL_ (some 34) rfl rfl Tryd.func42 qz5 rfl #[.slice A0 l0.length c0, .int .i64 (rd t508 x8_1)] rfl qz1 ?_; (with_reducible refine (spec_l10Less.calls _ _ l0 (rd t508 x8_1) t514 _ ?side1 ?side2 A13.out).mono ?_); (case side1 => repeat (first | exact (Kd.C_below HR0.out HB.out) | (with_reducible refine Kd.C_alloc ?_ _) | (with_reducible refine Kd.C_drewN ?_ _) | (with_reducible refine Kd.C_drew ?_))); (case side2 => exact HC0.out); rintro e w18 ⟨v515, rfl, ho0, hb⟩; refine ⟨_, rfl, ?_⟩; have n0_ := Aside0.mk (Kd.R_below qz8 hb); have n1_ := Aside0.mk (Kd.R_lower ho0 (below_size qz0)); have n2_ := Aside0.mk (below_step qz0 hb); clear HO_4; clear HB; have HO_4 := n0_; have HO516 := n1_; have HB := n2_; clear n0_ n1_ n2_; (try clear hb); (try clear hb2); (try clear hk); (try clear hi); (try clear ho0); obtain ⟨Ao19, co19, eo19⟩ := Kd.R_slice HO516.out; subst eo19) | ((with_reducible refine gate_callee (f := 30) rfl ?_); refine goesL_ (some 35) rfl rfl Tryd.func30 qz5 rfl #[.slice Ao19 t514.length co19] rfl qz1 ?_; (with_reducible refine (spec_l10Strain.calls k1 _ _ t514 t517 t518 _ ?side1 ?side2 A14.out ?sideL).mono ?_); (case sideL => exact HL.out.keep qz0); (case side1 => repeat (first | exact (Kd.R_reads' HO516.out).2.2 | (with_reducible refine Kd.C_alloc ?_ _) | (with_reducible refine Kd.C_drewN ?_ _) | (with_reducible refine Kd.C_drew ?_))); (case side2 => exact (Kd.R_reads' HO516.out).2.1); rintro e w20 ⟨rfl, hb⟩; refine ⟨_, rfl, ?_⟩; have n0_ := Aside0.mk (Kd.R_below qz8 hb); have n1_ := Aside0.mk (Kd.R_below qz47 hb); have n2_ := Aside0.mk (below_step qz0 hb); clear HO_4; clear HO516; clear HB; have HO_4 := n0_; have HO516 := n1_; have HB := n2_; clear n0_ n1_ n2_; (try clear hb); (try clear hb2); (try clear hk); (try clear hi); have p519 : 0 ≤ (x8_1 : Int) := of_decide_eq_true qz2; have q519 : x8_1 < (t508.length : Int) := of_decide_eq_true qz2; obtain ⟨ad519, e519, hx519_0⟩ := Kd.at_int (Kd.R_reads' HO_4.out).2.2 x8_1 p519 q519; obtain rfl : ad511 = ad519 := (by injection e519); replace p519 := eq_true p519; replace q519 := eq_true q519))
        go_roundg k1
        case measure => have := HK1.out; omega
        case rel => exact ⟨(rd t508 x8_1), (t517), (t518), (wrap64 (x8_1 + 1)), qz3, qz3, qz3, qz3, H', ⟨by have := HK1.out; omega⟩, ⟨by (with_reducible repeat (first | apply Kd.R_alloc | apply Kd.R_drewN | apply Kd.R_drew)); exact HO_4.out⟩, ⟨by repeat (first | (with_reducible first | exact HB.out | apply below_alloc | apply pw_below_drewN | apply below_drew1) | exact HB.out)⟩⟩
       ·
        rw [if_neg c15] at H
        have c15b0 : decide (x5_1 < 0) = false := decide_eq_false c15
        clear c15
        replace H := Option.bind_eq_some_iff.mp H
        obtain ⟨t520, A210, H⟩ := H
        replace H : (if t520 < 0 then (spec_SuspectLeg.l0 k1 l0 t508 (rd t508 x8_1) t517 t518 (wrap64 (x8_1 + 1))) else (spec_SuspectLeg.l0 k1 l0 t508 x5_1 x6_1 x7_1 (wrap64 (x8_1 + 1)))) = some (r1, r2) := H
        have A21 := Aside0.mk A210
        clear A210
        by_cases c22 : t520 < 0
        ·
         rw [if_pos c22] at H
         have c22b0 : decide (t520 < 0) = true := decide_eq_true c22
         clear c22
         have H' := Aside0.mk H
         clear H
         obtain ⟨Ao23, co23, eo23⟩ := Kd.R_slice HO_4.out
         subst eo23
         have p511 : 0 ≤ (x8_1 : Int) := of_decide_eq_true qz2
         have q511 : x8_1 < (t508.length : Int) := of_decide_eq_true qz2
         obtain ⟨ad511, e511, hx511_0⟩ := Kd.at_int (Kd.R_reads' HO_4.out).2.2 x8_1 p511 q511
         cases e511
         replace p511 := eq_true p511
         replace q511 := eq_true q511
         go_wp2_with (first | ((with_reducible refine gate_callee (f := 41) rfl ?_); refine goesL_ (some 27) rfl rfl Tryd.func41 qz5 rfl #[.slice A0 l0.length c0, .int .i64 (rd t508 x8_1)] rfl qz1 ?_; (with_reducible refine (spec_l8Bridge.calls k1 _ _ l0 (rd t508 x8_1) false _ ?side1 ?side2 A9.out).mono ?_); (case side1 => repeat (first | exact (Kd.C_below HR0.out HB.out) | (with_reducible refine Kd.C_alloc ?_ _) | (with_reducible refine Kd.C_drewN ?_ _) | (with_reducible refine Kd.C_drew ?_))); (case side2 => exact HC0.out); rintro e w24 ⟨rfl, hb⟩; refine ⟨_, rfl, ?_⟩; have n0_ := Aside0.mk (Kd.R_below qz8 hb); have n1_ := Aside0.mk (below_step qz0 hb); clear HO_4; clear HB; have HO_4 := n0_; have HB := n1_; clear n0_ n1_; (try clear hb); (try clear hb2); (try clear hk); (try clear hi); have p513 : 0 ≤ (x8_1 : Int) := of_decide_eq_true qz2; have q513 : x8_1 < (t508.length : Int) := of_decide_eq_true qz2; obtain ⟨ad513, e513, hx513_0⟩ := Kd.at_int (Kd.R_reads' HO_4.out).2.2 x8_1 p513 q513; obtain rfl : ad511 = ad513 := (by injection e513); replace p513 := eq_true p513; replace q513 := eq_true q513) | ((with_reducible refine gate_callee (f := 42) rfl ?_); refine goesL_ (some 34) rfl rfl Tryd.func42 qz5 rfl #[.slice A0 l0.length c0, .int .i64 (rd t508 x8_1)] rfl qz1 ?_; (with_reducible refine (spec_l10Less.calls _ _ l0 (rd t508 x8_1) t514 _ ?side1 ?side2 A13.out).mono ?_); (case side1 => repeat (first | exact (Kd.C_below HR0.out HB.out) | (with_reducible refine Kd.C_alloc ?_ _) | (with_reducible refine Kd.C_drewN ?_ _) | (with_reducible refine Kd.C_drew ?_))); (case side2 => exact HC0.out); rintro e w25 ⟨v515, rfl, ho0, hb⟩; refine ⟨_, rfl, ?_⟩; have n0_ := Aside0.mk (Kd.R_below qz8 hb); have n1_ := Aside0.mk (Kd.R_lower ho0 (below_size qz0)); have n2_ := Aside0.mk (below_step qz0 hb); clear HO_4; clear HB; have HO_4 := n0_; have HO516 := n1_; have HB := n2_; clear n0_ n1_ n2_; (try clear hb); (try clear hb2); (try clear hk); (try clear hi); (try clear ho0); obtain ⟨Ao26, co26, eo26⟩ := Kd.R_slice HO516.out; subst eo26) | ((with_reducible refine gate_callee (f := 30) rfl ?_); refine goesL_ (some 35) rfl rfl Tryd.func30 qz5 rfl #[.slice Ao26 t514.length co26] rfl qz1 ?_; (with_reducible refine (spec_l10Strain.calls k1 _ _ t514 t517 t518 _ ?side1 ?side2 A14.out ?sideL).mono ?_); (case sideL => exact HL.out.keep qz0); (case side1 => repeat (first | exact (Kd.R_reads' HO516.out).2.2 | (with_reducible refine Kd.C_alloc ?_ _) | (with_reducible refine Kd.C_drewN ?_ _) | (with_reducible refine Kd.C_drew ?_))); (case side2 => exact (Kd.R_reads' HO516.out).2.1); rintro e w27 ⟨rfl, hb⟩; refine ⟨_, rfl, ?_⟩; have n0_ := Aside0.mk (Kd.R_below qz8 hb); have n1_ := Aside0.mk (Kd.R_below qz47 hb); have n2_ := Aside0.mk (below_step qz0 hb); clear HO_4; clear HO516; clear HB; have HO_4 := n0_; have HO516 := n1_; have HB := n2_; clear n0_ n1_ n2_; (try clear hb); (try clear hb2); (try clear hk); (try clear hi)) | (go_at_call 35; (with_reducible refine (spec_l10Compare.calls k1 t517 t518 x6_1 x7_1 t520 _ A21.out).mono ?_); rintro e w' ⟨rfl, ⟨nd, rfl⟩⟩; have p521 : 0 ≤ (x8_1 : Int) := of_decide_eq_true qz2; have q521 : x8_1 < (t508.length : Int) := of_decide_eq_true qz2; obtain ⟨ad521, e521, hx521_0⟩ := Kd.at_int (Kd.R_reads' HO_4.out).2.2 x8_1 p521 q521; obtain rfl : ad511 = ad521 := (by injection e521); replace p521 := eq_true p521; replace q521 := eq_true q521))
         go_roundg k1
         case measure => have := HK1.out; omega
         case rel => exact ⟨(rd t508 x8_1), (t517), (t518), (wrap64 (x8_1 + 1)), qz3, qz3, qz3, qz3, H', ⟨by have := HK1.out; omega⟩, ⟨by (with_reducible repeat (first | apply Kd.R_alloc | apply Kd.R_drewN | apply Kd.R_drew)); exact HO_4.out⟩, ⟨by repeat (first | (with_reducible first | exact HB.out | apply below_alloc | apply pw_below_drewN | apply below_drew1) | exact HB.out)⟩⟩
        ·
         rw [if_neg c22] at H
         have c22b0 : decide (t520 < 0) = false := decide_eq_false c22
         clear c22
         have H' := Aside0.mk H
         clear H
         obtain ⟨Ao28, co28, eo28⟩ := Kd.R_slice HO_4.out
         subst eo28
         have p511 : 0 ≤ (x8_1 : Int) := of_decide_eq_true qz2
         have q511 : x8_1 < (t508.length : Int) := of_decide_eq_true qz2
         obtain ⟨ad511, e511, hx511_0⟩ := Kd.at_int (Kd.R_reads' HO_4.out).2.2 x8_1 p511 q511
         cases e511
         replace p511 := eq_true p511
         replace q511 := eq_true q511
         go_wp2_with (first | ((with_reducible refine gate_callee (f := 41) rfl ?_); refine goesL_ (some 27) rfl rfl Tryd.func41 qz5 rfl #[.slice A0 l0.length c0, .int .i64 (rd t508 x8_1)] rfl qz1 ?_; (with_reducible refine (spec_l8Bridge.calls k1 _ _ l0 (rd t508 x8_1) false _ ?side1 ?side2 A9.out).mono ?_); (case side1 => repeat (first | exact (Kd.C_below HR0.out HB.out) | (with_reducible refine Kd.C_alloc ?_ _) | (with_reducible refine Kd.C_drewN ?_ _) | (with_reducible refine Kd.C_drew ?_))); (case side2 => exact HC0.out); rintro e w29 ⟨rfl, hb⟩; refine ⟨_, rfl, ?_⟩; have n0_ := Aside0.mk (Kd.R_below qz8 hb); have n1_ := Aside0.mk (below_step qz0 hb); clear HO_4; clear HB; have HO_4 := n0_; have HB := n1_; clear n0_ n1_; (try clear hb); (try clear hb2); (try clear hk); (try clear hi); have p513 : 0 ≤ (x8_1 : Int) := of_decide_eq_true qz2; have q513 : x8_1 < (t508.length : Int) := of_decide_eq_true qz2; obtain ⟨ad513, e513, hx513_0⟩ := Kd.at_int (Kd.R_reads' HO_4.out).2.2 x8_1 p513 q513; obtain rfl : ad511 = ad513 := (by injection e513); replace p513 := eq_true p513; replace q513 := eq_true q513) | ((with_reducible refine gate_callee (f := 42) rfl ?_); refine goesL_ (some 34) rfl rfl Tryd.func42 qz5 rfl #[.slice A0 l0.length c0, .int .i64 (rd t508 x8_1)] rfl qz1 ?_; (with_reducible refine (spec_l10Less.calls _ _ l0 (rd t508 x8_1) t514 _ ?side1 ?side2 A13.out).mono ?_); (case side1 => repeat (first | exact (Kd.C_below HR0.out HB.out) | (with_reducible refine Kd.C_alloc ?_ _) | (with_reducible refine Kd.C_drewN ?_ _) | (with_reducible refine Kd.C_drew ?_))); (case side2 => exact HC0.out); rintro e w30 ⟨v515, rfl, ho0, hb⟩; refine ⟨_, rfl, ?_⟩; have n0_ := Aside0.mk (Kd.R_below qz8 hb); have n1_ := Aside0.mk (Kd.R_lower ho0 (below_size qz0)); have n2_ := Aside0.mk (below_step qz0 hb); clear HO_4; clear HB; have HO_4 := n0_; have HO516 := n1_; have HB := n2_; clear n0_ n1_ n2_; (try clear hb); (try clear hb2); (try clear hk); (try clear hi); (try clear ho0); obtain ⟨Ao31, co31, eo31⟩ := Kd.R_slice HO516.out; subst eo31) | ((with_reducible refine gate_callee (f := 30) rfl ?_); refine goesL_ (some 35) rfl rfl Tryd.func30 qz5 rfl #[.slice Ao31 t514.length co31] rfl qz1 ?_; (with_reducible refine (spec_l10Strain.calls k1 _ _ t514 t517 t518 _ ?side1 ?side2 A14.out ?sideL).mono ?_); (case sideL => exact HL.out.keep qz0); (case side1 => repeat (first | exact (Kd.R_reads' HO516.out).2.2 | (with_reducible refine Kd.C_alloc ?_ _) | (with_reducible refine Kd.C_drewN ?_ _) | (with_reducible refine Kd.C_drew ?_))); (case side2 => exact (Kd.R_reads' HO516.out).2.1); rintro e w32 ⟨rfl, hb⟩; refine ⟨_, rfl, ?_⟩; have n0_ := Aside0.mk (Kd.R_below qz8 hb); have n1_ := Aside0.mk (Kd.R_below qz47 hb); have n2_ := Aside0.mk (below_step qz0 hb); clear HO_4; clear HO516; clear HB; have HO_4 := n0_; have HO516 := n1_; have HB := n2_; clear n0_ n1_ n2_; (try clear hb); (try clear hb2); (try clear hk); (try clear hi)) | (go_at_call 35; (with_reducible refine (spec_l10Compare.calls k1 t517 t518 x6_1 x7_1 t520 _ A21.out).mono ?_); rintro e w' ⟨rfl, ⟨nd, rfl⟩⟩))
         go_roundg k1
         case measure => have := HK1.out; omega
         case rel => exact ⟨(x5_1), (x6_1), (x7_1), (wrap64 (x8_1 + 1)), qz3, qz3, qz3, qz3, H', ⟨by have := HK1.out; omega⟩, ⟨by (with_reducible repeat (first | apply Kd.R_alloc | apply Kd.R_drewN | apply Kd.R_drew)); exact HO_4.out⟩, ⟨by repeat (first | (with_reducible first | exact HB.out | apply below_alloc | apply pw_below_drewN | apply below_drew1) | exact HB.out)⟩⟩
     ·
      rw [if_neg c8] at H
      exact absurd H (by simp)
    ·
     rw [if_neg c7] at H
     have c7b0 : decide (x8_1 < (t508.length : Int)) = false := decide_eq_false c7
     clear c7
     by_cases c33 : x5_1 < 0
     ·
      rw [if_pos c33] at H
      have c33b0 : decide (x5_1 < 0) = true := decide_eq_true c33
      clear c33
      simp only [Option.some.injEq, Prod.mk.injEq] at H
      obtain ⟨rfl, rfl⟩ := H
      obtain ⟨Ao34, co34, eo34⟩ := Kd.R_slice HO_4.out
      subst eo34
      go_wp2
      go_ret2
      exact ⟨by first | rfl | (simp [errW_none, errW_some] <;> rfl) | (simp [*, errW_none, errW_some] <;> rfl), by repeat (first | (with_reducible first | exact HB.out | apply below_alloc | apply pw_below_drewN | apply below_drew1) | exact HB.out)⟩
     ·
      rw [if_neg c33] at H
      have c33b0 : decide (x5_1 < 0) = false := decide_eq_false c33
      clear c33
      simp only [Option.some.injEq, Prod.mk.injEq] at H
      obtain ⟨rfl, rfl⟩ := H
      obtain ⟨Ao35, co35, eo35⟩ := Kd.R_slice HO_4.out
      subst eo35
      go_wp2
      go_ret2
      exact ⟨by first | rfl | (simp [errW_none, errW_some] <;> rfl) | (simp [*, errW_none, errW_some] <;> rfl), by repeat (first | (with_reducible first | exact HB.out | apply below_alloc | apply pw_below_drewN | apply below_drew1) | exact HB.out)⟩
 ·
  replace c3 := Bool.eq_false_iff.mpr c3
  subst c3
  have H1 : (some (0, false)) = some (r1, r2) := by rw [if_neg (show ¬ (false = true) by decide)] at H; exact H
  clear H
  have H := H1
  clear H1
  simp only [Option.some.injEq, Prod.mk.injEq] at H
  obtain ⟨rfl, rfl⟩ := H
  go_enter Tryd.func23, Tryd.ntmps23
  go_wp2_with (first | ((with_reducible refine gate_callee (f := 29) rfl ?_); refine goesL_ (some 12) rfl rfl Tryd.func29 qz5 rfl #[.slice A0 l0.length c0] rfl qz1 ?_; (with_reducible refine (spec_l4Legs.calls k _ _ l0 false _ ?side1 ?side2 A2.out).mono ?_); (case side1 => repeat (first | exact HR0.out | (with_reducible refine Kd.C_alloc ?_ _) | (with_reducible refine Kd.C_drewN ?_ _) | (with_reducible refine Kd.C_drew ?_))); (case side2 => exact HC0.out); rintro e w36 ⟨rfl, hb⟩; refine ⟨_, rfl, ?_⟩; have n0_ := Aside0.mk (below_step qz0 hb); clear HB; have HB := n0_; clear n0_; (try clear hb); (try clear hb2); (try clear hk); (try clear hi)))
  go_ret2
  exact ⟨by first | rfl | (simp [errW_none, errW_some] <;> rfl) | (simp [*, errW_none, errW_some] <;> rfl), by repeat (first | (with_reducible first | exact HB.out | apply below_alloc | apply pw_below_drewN | apply below_drew1) | exact HB.out)⟩
end Go.Proofs.YtpojnobgijoddaaDoor.A
namespace Go.Proofs.YtpojnobgijoddaaDoor.Det
def sumTo : Nat → (Nat → Int) → Int
  | 0, _ => 0
  | n + 1, f => sumTo n f + f n
theorem sumTo_congr {n : Nat} {f g : Nat → Int} (h : ∀ j, j < n → f j = g j) : sumTo n f = sumTo n g := by
  induction n with
  | zero => rfl
  | succ n ih => rw [sumTo, sumTo, ih (fun j hj => h j (by omega)), h n (by omega)]
theorem sumTo_zero {n : Nat} {f : Nat → Int} (h : ∀ j, j < n → f j = 0) : sumTo n f = 0 := by
  induction n with
  | zero => rfl
  | succ n ih => rw [sumTo, ih (fun j hj => h j (by omega)), h n (by omega)]; rfl
theorem sumTo_add (n : Nat) (f g : Nat → Int) : sumTo n (fun j => f j + g j) = sumTo n f + sumTo n g := by
  induction n with
  | zero => rfl
  | succ n ih => simp only [sumTo]; rw [ih]; omega
theorem sumTo_neg (n : Nat) (f : Nat → Int) : sumTo n (fun j => - f j) = - sumTo n f := by
  induction n with
  | zero => rfl
  | succ n ih => simp only [sumTo]; rw [ih]; omega
theorem sumTo_mul (n : Nat) (c : Int) (f : Nat → Int) : sumTo n (fun j => c * f j) = c * sumTo n f := by
  induction n with
  | zero => simp [sumTo]
  | succ n ih => simp only [sumTo]; rw [ih, Int.mul_add]
theorem sumTo_swap (n m : Nat) (f : Nat → Nat → Int) : sumTo n (fun i => sumTo m (fun j => f i j)) = sumTo m (fun j => sumTo n (fun i => f i j)) := by
  induction n with
  | zero => simp only [sumTo]; rw [sumTo_zero (fun _ _ => rfl)]
  | succ n ih => simp only [sumTo]; rw [ih, sumTo_add]
def del (S : Nat → Bool) (j : Nat) : Nat → Bool := fun l => S l && !(l == j)
def sg (S : Nat → Bool) (j : Nat) : Nat → Int
  | 0 => 1
  | n + 1 => if j < n ∧ S n = true then - sg S j n else sg S j n
theorem sg_congr {S T : Nat → Bool} {j n : Nat} (h : ∀ l, j < l → l < n → S l = T l) : sg S j n = sg T j n := by
  induction n with
  | zero => rfl
  | succ n ih =>
    simp only [sg]
    rw [ih (fun l h1 h2 => h l h1 (by omega))]
    by_cases hj : j < n
    · rw [h n hj (by omega)]
    · rw [if_neg (by omega), if_neg (by omega)]
theorem sg_sq (S : Nat → Bool) (j n : Nat) : sg S j n * sg S j n = 1 := by
  induction n with
  | zero => rfl
  | succ n ih =>
    simp only [sg]
    split
    · rw [Int.neg_mul_neg]
      exact ih
    · exact ih
theorem sg_del_above {S : Nat → Bool} {j l n : Nat} (hl : S l = true) (h : j < l) (hn : l < n) : sg (del S l) j n = - sg S j n := by
  induction n with
  | zero => omega
  | succ n ih =>
    simp only [sg]
    by_cases e : l = n
    · subst e
      have e1 : del S l l = false := by simp [del]
      rw [if_neg (by simp [e1]), if_pos ⟨h, hl⟩, Int.neg_neg]
      exact sg_congr fun m h1 h2 => by
        have : (m == l) = false := beq_eq_false_iff_ne.2 (by omega)
        simp [del, this]
    · rw [ih (by omega)]
      have e1 : del S l n = S n := by
        have : (n == l) = false := beq_eq_false_iff_ne.2 (by omega)
        simp [del, this]
      rw [e1]
      split <;> rfl
theorem sg_del_below {S : Nat → Bool} {j l n : Nat} (h : l ≤ j) : sg (del S l) j n = sg S j n :=
  sg_congr fun m h1 _ => by
    have : (m == l) = false := beq_eq_false_iff_ne.2 (by omega)
    simp [del, this]
theorem del_comm (S : Nat → Bool) (i j : Nat) : del (del S i) j = del (del S j) i := by
  funext l
  unfold del
  cases S l <;> cases (l == i) <;> cases (l == j) <;> rfl
def F (n : Nat) (A : Nat → Nat → Int) : Nat → (Nat → Bool) → Int
  | 0, S => if ∀ l, l < n → S l = false then 1 else 0
  | k + 1, S => sumTo n fun j => if S j = true then sg S j n * A k j * F n A k (del S j) else 0
theorem F_congr {n : Nat} {A B : Nat → Nat → Int} : ∀ {k : Nat} {S T : Nat → Bool}, (∀ i j, i < k → j < n → S j = true → A i j = B i j) → (∀ l, l < n → S l = T l) → F n A k S = F n B k T
  | 0, S, T, _, hS => by
    rw [F, F]
    by_cases h : ∀ l, l < n → S l = false
    · rw [if_pos h, if_pos (fun l hl => by rw [← hS l hl]; exact h l hl)]
    · rw [if_neg h, if_neg (fun h' => h (fun l hl => by rw [hS l hl]; exact h' l hl))]
  | k + 1, S, T, hA, hS => by
    rw [F, F]
    refine sumTo_congr fun j hj => ?_
    rw [← hS j hj]
    by_cases h : S j = true
    · rw [if_pos h, if_pos h, hA k j (by omega) hj h, sg_congr (fun l _ h2 => hS l h2)]
      rw [F_congr (k := k) (S := del S j) (T := del T j) (fun i l hi hl hd => hA i l (by omega) hl (by simp [del] at hd; exact hd.1)) (fun l hl => by simp [del, hS l hl])]
    · rw [if_neg h, if_neg h]
def swp (A : Nat → Nat → Int) (a b : Nat) : Nat → Nat → Int := fun i => if i = a then A b else if i = b then A a else A i
theorem F_two (n : Nat) (A : Nat → Nat → Int) (k : Nat) (S : Nat → Bool) : F n A (k + 2) S =
    sumTo n fun j => sumTo n fun l => if S j = true ∧ S l = true ∧ l ≠ j then sg S j n * sg (del S j) l n * (A (k + 1) j * A k l) * F n A k (del (del S j) l) else 0 := by
  rw [F]
  refine sumTo_congr fun j _ => ?_
  by_cases hj : S j = true
  · rw [if_pos hj, F, ← sumTo_mul]
    refine sumTo_congr fun l _ => ?_
    by_cases hl : S l = true ∧ l ≠ j
    · have e : del S j l = true := by simp [del, hl.1, hl.2]
      rw [if_pos e, if_pos ⟨hj, hl⟩]
      simp only [Int.mul_assoc, Int.mul_left_comm, Int.mul_comm]
    · have e : ¬ del S j l = true := by
        simp only [del]
        intro h
        rw [Bool.and_eq_true] at h
        exact hl ⟨h.1, by simpa using h.2⟩
      rw [if_neg e, if_neg (fun h => hl h.2), Int.mul_zero]
  · rw [if_neg hj]
    exact (sumTo_zero fun l _ => by rw [if_neg (fun h => hj h.1)]).symm
theorem sg_two {S : Nat → Bool} {i j n : Nat} (hi : S i = true) (hj : S j = true) (hin : i < n) (hjn : j < n) (hne : i ≠ j) : sg S i n * sg (del S i) j n = - (sg S j n * sg (del S j) i n) := by
  rcases Nat.lt_or_gt_of_ne hne with h | h
  · rw [sg_del_above hj h hjn, sg_del_below (S := S) (show i ≤ j by omega), Int.mul_neg, Int.neg_neg, Int.mul_comm]
  · rw [sg_del_above hi h hin, sg_del_below (S := S) (show j ≤ i by omega), Int.mul_neg, Int.mul_comm]
theorem F_swap_last (n : Nat) (A : Nat → Nat → Int) (k : Nat) (S : Nat → Bool) : F n (swp A k (k + 1)) (k + 2) S = - F n A (k + 2) S := by
  rw [F_two, F_two, sumTo_swap, ← sumTo_neg]
  refine sumTo_congr fun j hj => ?_
  rw [← sumTo_neg]
  refine sumTo_congr fun l hl => ?_
  have e1 : swp A k (k + 1) (k + 1) = A k := by simp [swp]
  have e2 : swp A k (k + 1) k = A (k + 1) := by simp [swp]
  by_cases h : S j = true ∧ S l = true ∧ l ≠ j
  · rw [if_pos ⟨h.2.1, h.1, fun e => h.2.2 e.symm⟩, if_pos h, e1, e2, sg_two h.2.1 h.1 hl hj h.2.2, del_comm S l j]
    rw [F_congr (A := swp A k (k + 1)) (B := A) (k := k) (S := del (del S j) l) (T := del (del S j) l) (fun i m hi _ _ => by simp [swp, show i ≠ k by omega, show i ≠ k + 1 by omega]) (fun _ _ => rfl)]
    rw [Int.mul_comm (A k l) (A (k + 1) j)]
    simp only [Int.neg_mul]
  · rw [if_neg (fun h' => h ⟨h'.2.1, h'.1, fun e => h'.2.2 e.symm⟩), if_neg h]
    rfl
theorem F_eq_rows (n : Nat) : ∀ (k i : Nat) (A : Nat → Nat → Int) (S : Nat → Bool), i < k → A i = A k → F n A (k + 1) S = 0
  | 0, i, _, _, h, _ => by omega
  | k + 1, i, A, S, hi, he => by
    have h0 := F_swap_last n A k S
    by_cases e : i = k
    · subst e
      have e1 : F n (swp A i (i + 1)) (i + 2) S = F n A (i + 2) S := F_congr (fun a b _ _ _ => by
        simp only [swp]
        split
        · rename_i h; rw [h, he]
        · split
          · rename_i h; rw [h, he]
          · rfl) (fun _ _ => rfl)
      rw [e1] at h0
      show F n A (i + 2) S = 0
      omega
    · have h1 : F n (swp A k (k + 1)) (k + 2) S = 0 := by
        rw [F]
        refine sumTo_zero fun j _ => ?_
        split
        · rw [F_eq_rows n k i (swp A k (k + 1)) (del S j) (by omega) (by
            unfold swp
            rw [if_neg (show i ≠ k by omega), if_neg (show i ≠ k + 1 by omega), if_pos rfl]
            exact he), Int.mul_zero]
        · rfl
      rw [h1] at h0
      show F n A (k + 2) S = 0
      omega
def low (k : Nat) : Nat → Bool := fun l => decide (l < k)
def lowj (k j : Nat) : Nat → Bool := fun l => decide (l < k) || l == j
def row (A : Nat → Nat → Int) (k i : Nat) : Nat → Nat → Int := fun r => if r = k then A i else A r
def R (n : Nat) (A : Nat → Nat → Int) (k i j : Nat) : Int := F n (row A k i) (k + 1) (lowj k j)
def P (n : Nat) (A : Nat → Nat → Int) (k : Nat) : Int := F n A k (low k)
theorem low_succ (k : Nat) : low (k + 1) = lowj k k := by
  funext l
  unfold low lowj
  rw [Bool.eq_iff_iff]
  simp
  omega
theorem P_succ (n : Nat) (A : Nat → Nat → Int) (k : Nat) : P n A (k + 1) = R n A k k k := by
  unfold P R
  rw [low_succ]
  exact F_congr (fun i j _ _ _ => by unfold row; split <;> simp [*]) (fun _ _ => rfl)
theorem R_zero (n : Nat) (A : Nat → Nat → Int) (i j : Nat) (hj : j < n) : R n A 0 i j = A i j := by
  unfold R
  rw [F]
  have key : ∀ m, j < m → sumTo m (fun l => if lowj 0 j l = true then sg (lowj 0 j) l n * row A 0 i 0 l * F n (row A 0 i) 0 (del (lowj 0 j) l) else 0) = sg (lowj 0 j) j n * A i j := by
    intro m hm
    induction m with
    | zero => omega
    | succ m ih =>
      rw [sumTo]
      by_cases e : j = m
      · subst e
        rw [sumTo_zero (fun l hl => by rw [if_neg]; simp [lowj]; omega), if_pos (by simp [lowj])]
        have e : F n (row A 0 i) 0 (del (lowj 0 j) j) = 1 := by
          rw [F, if_pos]
          intro l _
          unfold del lowj
          cases h : (l == j) <;> simp
        rw [e]
        simp [row]
      · rw [ih (by omega), if_neg (by simp [lowj]; omega), Int.add_zero]
  rw [key n hj]
  have : ∀ m, sg (lowj 0 j) j m = 1 := by
    intro m
    induction m with
    | zero => rfl
    | succ m ih =>
      rw [sg, ih, if_neg]
      simp [lowj]
      omega
  rw [this, Int.one_mul]
theorem R_above (n : Nat) (A : Nat → Nat → Int) (k i j : Nat) (h : i < k) : R n A k i j = 0 :=
  F_eq_rows n k i _ _ h (by unfold row; rw [if_neg (by omega), if_pos rfl])
theorem sumTo_single {n j : Nat} {f g : Nat → Int} (hj : j < n) (h : ∀ l, l < n → l ≠ j → f l = g l) (hg : g j = 0) : sumTo n f = f j + sumTo n g := by
  induction n with
  | zero => omega
  | succ n ih =>
    rw [sumTo, sumTo]
    by_cases e : j = n
    · subst e
      rw [sumTo_congr (g := g) (fun l hl => h l (by omega) (by omega)), hg]
      omega
    · rw [ih (by omega) (fun l hl hne => h l (by omega) hne), h n (by omega) (by omega)]
      omega
theorem R_comb (n : Nat) (A : Nat → Nat → Int) (k j : Nat) (hk : k ≤ j) (hj : j < n) : ∃ c : Nat → Int, ∀ i, R n A k i j = P n A k * A i j + sumTo k (fun s => c s * A i s) := by
  refine ⟨fun s => sg (lowj k j) s n * F n A k (del (lowj k j) s), fun i => ?_⟩
  have e0 : ∀ l, l < n → ∀ S, F n (row A k i) k S = F n A k S := fun l _ S => F_congr (fun a b ha _ _ => by unfold row; rw [if_neg (by omega)]) (fun _ _ => rfl)
  unfold R
  rw [F]
  rw [sumTo_single (j := j) (g := fun l => if l < k then sg (lowj k j) l n * A i l * F n A k (del (lowj k j) l) else 0) hj (fun l hl hne => by
    by_cases h : l < k
    · rw [if_pos (by simp [lowj, h]), if_pos h, e0 l hl]
      simp [row]
    · rw [if_neg (by simp [lowj, h, hne]), if_neg h]) (if_neg (by omega))]
  rw [if_pos (by simp [lowj]), e0 j hj]
  have e1 : sg (lowj k j) j n = 1 := by
    have : ∀ m, sg (lowj k j) j m = 1 := by
      intro m
      induction m with
      | zero => rfl
      | succ m ih =>
        rw [sg, ih, if_neg]
        simp [lowj]
        omega
    exact this n
  have e2 : F n A k (del (lowj k j) j) = P n A k := F_congr (fun _ _ _ _ _ => rfl) (fun l hl => by
    unfold del lowj low
    rw [Bool.eq_iff_iff]
    simp
    omega)
  rw [e1, e2]
  have e3 : ∀ m, k ≤ m → sumTo m (fun l => if l < k then sg (lowj k j) l n * A i l * F n A k (del (lowj k j) l) else 0) = sumTo k (fun s => sg (lowj k j) s n * F n A k (del (lowj k j) s) * A i s) := by
    intro m hm
    induction m with
    | zero =>
      obtain rfl : k = 0 := by omega
      rfl
    | succ m ih =>
      by_cases e : k = m + 1
      · subst e
        exact sumTo_congr fun l hl => by rw [if_pos hl, Int.mul_right_comm]
      · rw [sumTo, ih (by omega), if_neg (by omega), Int.add_zero]
  rw [e3 n (by omega)]
  simp [row, Int.mul_comm]
theorem block_inj (n : Nat) (A : Nat → Nat → Int) : ∀ (k : Nat), k ≤ n → (∀ m, m ≤ k → P n A m ≠ 0) → ∀ e : Nat → Int, (∀ i, i < k → sumTo k (fun s => e s * A i s) = 0) → ∀ s, s < k → e s = 0
  | 0, _, _, _, _, s, hs => by omega
  | k + 1, hn, hp, e, he, s, hs => by
    obtain ⟨c, hc⟩ := R_comb n A k k (Nat.le_refl k) (by omega)
    have hpk := hp k (by omega)
    have hq := hp (k + 1) (by omega)
    have key : ∀ i, P n A k * sumTo (k + 1) (fun s => e s * A i s) = e k * R n A k i k + sumTo k (fun s => (P n A k * e s - e k * c s) * A i s) := by
      intro i
      rw [hc i, sumTo, Int.mul_add, Int.mul_add, ← sumTo_mul, ← sumTo_mul]
      have e1 : sumTo k (fun j => P n A k * (e j * A i j)) = sumTo k (fun s => e k * (c s * A i s)) + sumTo k (fun s => (P n A k * e s - e k * c s) * A i s) := by
        rw [← sumTo_add]
        exact sumTo_congr fun j _ => by simp only [Int.sub_mul, Int.mul_assoc]; omega
      rw [e1, Int.mul_left_comm (P n A k)]
      omega
    have hz : ∀ t, t < k → P n A k * e t - e k * c t = 0 := block_inj n A k (by omega) (fun m hm => hp m (by omega)) _ (fun i hi => by
      have := key i
      rw [he i (by omega), R_above n A k i k hi, Int.mul_zero, Int.mul_zero] at this
      omega)
    have hek : e k = 0 := by
      have h1 := key k
      rw [he k (by omega), sumTo_zero (fun j hj => by rw [hz j hj, Int.zero_mul]), Int.mul_zero, ← P_succ] at h1
      rcases Int.mul_eq_zero.1 (show e k * P n A (k + 1) = 0 by omega) with h | h
      · exact h
      · exact absurd h hq
    by_cases h : s = k
    · rw [h]
      exact hek
    · have h1 := hz s (by omega)
      rw [hek, Int.zero_mul, Int.sub_zero] at h1
      rcases Int.mul_eq_zero.1 h1 with h2 | h2
      · exact absurd h2 hpk
      · exact h2
theorem R_step (n : Nat) (A : Nat → Nat → Int) (k j : Nat) (hk : k < j) (hj : j < n) (hp : ∀ m, m ≤ k + 1 → P n A m ≠ 0) (i : Nat) :
    P n A k * R n A (k + 1) i j = R n A k i j * R n A k k k - R n A k i k * R n A k k j := by
  obtain ⟨c, hc⟩ := R_comb n A k j (by omega) hj
  obtain ⟨d, hd⟩ := R_comb n A k k (by omega) (by omega)
  obtain ⟨b, hb⟩ := R_comb n A (k + 1) j (by omega) hj
  have hq := P_succ n A k
  obtain ⟨e, he⟩ : ∃ e : Nat → Int, ∀ i, P n A k * R n A (k + 1) i j - (R n A k i j * R n A k k k - R n A k i k * R n A k k j) = sumTo (k + 1) (fun s => e s * A i s) := by
    refine ⟨fun s => if s = k then P n A k * b k + R n A k k j * P n A k else P n A k * b s - R n A k k k * c s + R n A k k j * d s, fun i => ?_⟩
    rw [sumTo]
    dsimp only
    rw [if_pos rfl, sumTo_congr (g := fun s => P n A k * (b s * A i s) + ((- R n A k k k) * (c s * A i s) + R n A k k j * (d s * A i s))) (fun s hs => by
      rw [if_neg (by omega)]
      simp only [Int.sub_mul, Int.add_mul, Int.mul_assoc, Int.neg_mul]
      omega), sumTo_add, sumTo_add, sumTo_mul, sumTo_mul, sumTo_mul, hb i, hq, sumTo]
    have h1 := hc i
    have h2 := hd i
    generalize sumTo k (fun s => b s * A i s) = X at *
    generalize sumTo k (fun s => c s * A i s) = Y at *
    generalize sumTo k (fun s => d s * A i s) = Z at *
    rw [h1, h2]
    generalize R n A k k k = q at *
    generalize R n A k k j = u at *
    generalize P n A k = p at *
    generalize A i j = x at *
    generalize A i k = y at *
    generalize b k = v at *
    grind
  have hz : ∀ s, s < k + 1 → e s = 0 := block_inj n A (k + 1) (by omega) hp e (fun r hr => by
    rw [← he r, R_above n A (k + 1) r j hr, Int.mul_zero]
    by_cases h : r = k
    · subst h
      rw [Int.mul_comm (R n A r r j)]
      omega
    · rw [R_above n A k r j (by omega), R_above n A k r k (by omega)]
      simp)
  have h1 := he i
  rw [sumTo_zero (fun s hs => by rw [hz s hs, Int.zero_mul])] at h1
  omega
theorem P_zero (n : Nat) (A : Nat → Nat → Int) : P n A 0 = 1 := by
  unfold P
  rw [F, if_pos]
  intro l _
  simp [low]
theorem F_swap_adj (n : Nat) (A : Nat → Nat → Int) : ∀ (K r : Nat) (S : Nat → Bool), r + 1 < K → F n (swp A r (r + 1)) K S = - F n A K S
  | 0, r, S, h => by omega
  | k + 1, r, S, h => by
    by_cases e : r + 1 = k
    · subst e
      exact F_swap_last n A r S
    · rw [F, F, ← sumTo_neg]
      refine sumTo_congr fun j _ => ?_
      by_cases hj : S j = true
      · rw [if_pos hj, if_pos hj, F_swap_adj n A k r (del S j) (by omega)]
        have e1 : swp A r (r + 1) k = A k := by unfold swp; rw [if_neg (by omega), if_neg (by omega)]
        rw [e1, Int.mul_neg]
      · rw [if_neg hj, if_neg hj]
        rfl
theorem swp_comp (A : Nat → Nat → Int) (a m : Nat) (h : a < m) : swp A a (m + 1) = swp (swp (swp A m (m + 1)) a m) m (m + 1) := by
  funext i
  unfold swp
  by_cases h1 : i = a
  · subst h1
    rw [if_pos rfl, if_neg (show ¬ i = m by omega), if_neg (show ¬ i = m + 1 by omega), if_pos rfl, if_pos rfl]
  · by_cases h2 : i = m
    · subst h2
      rw [if_neg h1, if_neg (show ¬ i = i + 1 by omega), if_pos rfl, if_neg (show ¬ i + 1 = a by omega), if_neg (show ¬ i + 1 = i by omega), if_neg (show ¬ i + 1 = i by omega), if_pos rfl]
    · by_cases h3 : i = m + 1
      · subst h3
        rw [if_neg h1, if_pos rfl, if_neg h2, if_pos rfl, if_neg (show ¬ m = a by omega), if_pos rfl, if_neg (show ¬ a = m by omega), if_neg (show ¬ a = m + 1 by omega)]
      · rw [if_neg h1, if_neg h3, if_neg h2, if_neg h3, if_neg h1, if_neg h2, if_neg h2, if_neg h3]
theorem F_swap (n : Nat) (K : Nat) (S : Nat → Bool) : ∀ (d a : Nat) (A : Nat → Nat → Int), a + d + 1 < K → F n (swp A a (a + d + 1)) K S = - F n A K S
  | 0, a, A, h => F_swap_adj n A K a S h
  | d + 1, a, A, h => by
    have e : swp A a (a + (d + 1) + 1) = swp (swp (swp A (a + d + 1) (a + d + 1 + 1)) a (a + d + 1)) (a + d + 1) (a + d + 1 + 1) := swp_comp A a (a + d + 1) (by omega)
    rw [e, F_swap_adj n _ K (a + d + 1) S (by omega), F_swap n K S d a _ (by omega), F_swap_adj n _ K (a + d + 1) S (by omega)]
    omega
theorem sg_flip {S T : Nat → Bool} {c c' j n : Nat} (hc : S c = true) (hc' : T c' = true) (hd : del S c = del T c') (hcn : c < n) (hcn' : c' < n) (h1 : j ≠ c) (h2 : j ≠ c') :
    sg T j n * sg (del S j) c n * sg (del T j) c' n = sg S c n * sg T c' n * sg S j n ∨ S j = false := by
  by_cases hj : S j = true
  · left
    have hTj : T j = true := by
      have := congrFun hd j
      unfold del at this
      rw [hj, beq_eq_false_iff_ne.2 h1, beq_eq_false_iff_ne.2 h2] at this
      simpa using this.symm
    by_cases hjn : j < n
    · have e : sg (del S c) j n = sg (del T c') j n := by rw [hd]
      rcases Nat.lt_or_gt_of_ne h1 with a | a <;> rcases Nat.lt_or_gt_of_ne h2 with b | b
      · rw [sg_del_above hc a hcn, sg_del_above hc' b hcn'] at e
        rw [show sg (del S j) c n = sg S c n from sg_del_below (by omega), show sg (del T j) c' n = sg T c' n from sg_del_below (by omega), show sg T j n = sg S j n by omega]
        grind
      · rw [sg_del_above hc a hcn, sg_del_below (S := T) (show c' ≤ j by omega)] at e
        rw [sg_del_below (S := S) (show j ≤ c by omega), sg_del_above hTj b hjn, ← e]
        grind
      · rw [sg_del_below (S := S) (show c ≤ j by omega), sg_del_above hc' b hcn'] at e
        rw [sg_del_above hj a hjn, sg_del_below (S := T) (show j ≤ c' by omega), e]
        grind
      · rw [sg_del_below (S := S) (show c ≤ j by omega), sg_del_below (S := T) (show c' ≤ j by omega)] at e
        rw [sg_del_above hj a hjn, sg_del_above hTj b hjn, e]
        grind
    · have z : ∀ (U V : Nat → Bool) (x : Nat), (∀ l, l < n → U l = V l) → sg U x n = sg V x n := fun U V x h => sg_congr (fun l _ h2 => h l h2)
      have d1 : ∀ l, l < n → del S j l = S l := fun l hl => by
        unfold del
        rw [beq_eq_false_iff_ne.2 (show l ≠ j by omega)]
        simp
      have d2 : ∀ l, l < n → del T j l = T l := fun l hl => by
        unfold del
        rw [beq_eq_false_iff_ne.2 (show l ≠ j by omega)]
        simp
      rw [z _ _ c d1, z _ _ c' d2]
      have o : ∀ U : Nat → Bool, ∀ m, m ≤ j → sg U j m = 1 := by
        intro U m hm
        induction m with
        | zero => rfl
        | succ m ih => rw [sg, if_neg (by omega), ih (by omega)]
      rw [o T n (by omega), o S n (by omega)]
      grind
  · right
    simpa using hj
theorem F_move (n : Nat) : ∀ (k : Nat) (A B : Nat → Nat → Int) (S T : Nat → Bool) (c c' : Nat), c < n → c' < n → S c = true → T c' = true → S c' = false → T c = false → del S c = del T c' → (∀ i, B i c' = A i c) → (∀ i j, S j = true → j ≠ c → B i j = A i j) →
    F n B k T = sg S c n * sg T c' n * F n A k S
  | 0, A, B, S, T, c, c', hc, hc', h1, h2, _, _, _, _, _ => by
    rw [F, F, if_neg (fun h => by rw [h c' hc'] at h2; cases h2), if_neg (fun h => by rw [h c hc] at h1; cases h1), Int.mul_zero]
  | k + 1, A, B, S, T, c, c', hc, hc', h1, h2, h3, h4, hd, hB, hE => by
    have hne : c ≠ c' := fun h => by rw [h, h3] at h1; cases h1
    have hST : ∀ j, j ≠ c → j ≠ c' → T j = S j := fun j ha hb => by
      have := congrFun hd j
      unfold del at this
      rw [beq_eq_false_iff_ne.2 ha, beq_eq_false_iff_ne.2 hb] at this
      simpa using this.symm
    rw [F, F]
    rw [sumTo_single (j := c') (g := fun j => if S j = true ∧ j ≠ c then sg S c n * sg T c' n * (sg S j n * A k j * F n A k (del S j)) else 0) hc' (fun j hj hjc => by
      by_cases e : j = c
      · subst e
        rw [if_neg (by rw [h4]; decide), if_neg (fun h => h.2 rfl)]
      · by_cases hj' : S j = true
        · rw [if_pos (by rw [hST j e hjc]; exact hj'), if_pos ⟨hj', e⟩]
          have hrec := F_move n k A B (del S j) (del T j) c c' hc hc' (by unfold del; rw [h1, beq_eq_false_iff_ne.2 (Ne.symm e)]; rfl) (by unfold del; rw [h2, beq_eq_false_iff_ne.2 (Ne.symm hjc)]; rfl) (by unfold del; rw [h3]; rfl) (by unfold del; rw [h4]; rfl)
            (by rw [del_comm S, hd, del_comm T]) hB (fun i l hl hlc => hE i l (by unfold del at hl; rw [Bool.and_eq_true] at hl; exact hl.1) hlc)
          rw [hrec, hE k j hj' e]
          rcases sg_flip (S := S) (T := T) (j := j) h1 h2 hd hc hc' e hjc with hs | hs
          · generalize sg T j n = a at *
            generalize sg (del S j) c n = b at *
            generalize sg (del T j) c' n = d at *
            generalize sg S c n = x at *
            generalize sg T c' n = y at *
            generalize sg S j n = w at *
            generalize F n A k (del S j) = f at *
            generalize A k j = g at *
            have : a * g * (b * d * f) = (a * b * d) * (g * f) := by grind
            rw [this, hs]
            grind
          · rw [hs] at hj'
            cases hj'
        · rw [if_neg (by rw [hST j e hjc]; exact hj'), if_neg (fun h => hj' h.1)]) (if_neg (fun h => by rw [h3] at h; cases h.1))]
    rw [sumTo_single (n := n) (j := c) (f := fun j => if S j = true then sg S j n * A k j * F n A k (del S j) else 0) (g := fun j => if S j = true ∧ j ≠ c then sg S j n * A k j * F n A k (del S j) else 0) hc (fun j _ hjc => by
      by_cases hj : S j = true
      · rw [if_pos hj, if_pos ⟨hj, hjc⟩]
      · rw [if_neg hj, if_neg (fun h => hj h.1)]) (if_neg (fun h => h.2 rfl))]
    rw [if_pos h2, if_pos h1, Int.mul_add, ← sumTo_mul, hB]
    have e1 : F n B k (del T c') = F n A k (del S c) := F_congr (fun i j _ _ hj => by
      rw [← hd] at hj
      unfold del at hj
      rw [Bool.and_eq_true] at hj
      exact hE i j hj.1 (by simpa using hj.2)) (fun l _ => by rw [hd])
    have e2 := sg_sq S c n
    rw [e1]
    have e3 : sumTo n (fun j => if S j = true ∧ j ≠ c then sg S c n * sg T c' n * (sg S j n * A k j * F n A k (del S j)) else 0) = sumTo n (fun j => sg S c n * sg T c' n * (if S j = true ∧ j ≠ c then sg S j n * A k j * F n A k (del S j) else 0)) := sumTo_congr fun j _ => by
      split
      · rfl
      · rw [Int.mul_zero]
    rw [e3]
    congr 1
    generalize sg S c n = x at *
    generalize sg T c' n = y at *
    generalize A k c = g at *
    generalize F n A k (del S c) = f at *
    have : x * y * (x * g * f) = (x * x) * (y * g * f) := by grind
    rw [this, e2, Int.one_mul]
def setc (A : Nat → Nat → Int) (c : Nat) (u : Nat → Int) : Nat → Nat → Int := fun i j => if j = c then u i else A i j
theorem setc_at (A : Nat → Nat → Int) (c : Nat) (u : Nat → Int) (i : Nat) : setc A c u i c = u i := by unfold setc; rw [if_pos rfl]
theorem setc_ne (A : Nat → Nat → Int) (c : Nat) (u : Nat → Int) (i j : Nat) (h : j ≠ c) : setc A c u i j = A i j := by unfold setc; rw [if_neg h]
theorem F_eq_cols (n : Nat) : ∀ (k : Nat) (A : Nat → Nat → Int) (S : Nat → Bool) (c c' : Nat), c < n → c' < n → c ≠ c' → S c = true → S c' = true → (∀ i, A i c = A i c') → F n A k S = 0
  | 0, A, S, c, c', hc, _, _, h1, _, _ => by rw [F, if_neg (fun h => by rw [h c hc] at h1; cases h1)]
  | k + 1, A, S, c, c', hc, hc', hne, h1, h2, he => by
    rw [F]
    rw [sumTo_single (j := c) (g := fun j => if j = c' then sg S c' n * A k c' * F n A k (del S c') else 0) hc (fun j hj hjc => by
      by_cases e : j = c'
      · subst e
        rw [if_pos h2, if_pos rfl]
      · rw [if_neg e]
        by_cases hj' : S j = true
        · rw [if_pos hj', F_eq_cols n k A (del S j) c c' hc hc' hne (by unfold del; rw [h1, beq_eq_false_iff_ne.2 (Ne.symm hjc)]; rfl) (by unfold del; rw [h2, beq_eq_false_iff_ne.2 (Ne.symm e)]; rfl) he, Int.mul_zero]
        · rw [if_neg hj']) (if_neg hne)]
    rw [sumTo_single (n := n) (j := c') (g := fun _ => 0) hc' (fun j _ hj => by rw [if_neg hj]) rfl, sumTo_zero (fun _ _ => rfl), if_pos h1, if_pos rfl]
    have hm := F_move n k A A (del S c') (del S c) c c' hc hc' (by unfold del; rw [h1, beq_eq_false_iff_ne.2 hne]; rfl) (by unfold del; rw [h2, beq_eq_false_iff_ne.2 (Ne.symm hne)]; rfl) (by unfold del; simp) (by unfold del; simp) (del_comm S c' c) (fun i => (he i).symm) (fun _ _ _ _ => rfl)
    have h3 := sg_two h1 h2 hc hc' hne
    have h4 := sg_sq (del S c') c n
    rw [hm, he k]
    generalize sg S c n = a at *
    generalize sg (del S c) c' n = b at *
    generalize sg S c' n = d at *
    generalize sg (del S c') c n = e at *
    generalize F n A k (del S c') = f at *
    generalize A k c' = g at *
    have : a * g * (e * b * f) = (a * b) * (e * g * f) := by grind
    rw [this, h3]
    have : -(d * e) * (e * g * f) = -((e * e) * (d * g * f)) := by grind
    rw [this, h4]
    omega
theorem F_lin (n : Nat) (m : Nat) (w : Nat → Int) (u : Nat → Nat → Int) : ∀ (k : Nat) (A : Nat → Nat → Int) (S : Nat → Bool) (c : Nat), c < n → S c = true → F n (setc A c (fun i => sumTo m fun s => w s * u s i)) k S = sumTo m (fun s => w s * F n (setc A c (u s)) k S)
  | 0, A, S, c, hc, h1 => by
    have e : ∀ B, F n B 0 S = 0 := fun B => by rw [F, if_neg (fun h => by rw [h c hc] at h1; cases h1)]
    rw [e, sumTo_zero (fun s _ => by rw [e, Int.mul_zero])]
  | k + 1, A, S, c, hc, h1 => by
    rw [F]
    have e1 : ∀ s, w s * F n (setc A c (u s)) (k + 1) S = sumTo n (fun j => w s * (if S j = true then sg S j n * setc A c (u s) k j * F n (setc A c (u s)) k (del S j) else 0)) := fun s => by rw [F, sumTo_mul]
    rw [sumTo_congr (g := fun s => sumTo n (fun j => w s * (if S j = true then sg S j n * setc A c (u s) k j * F n (setc A c (u s)) k (del S j) else 0))) (fun s _ => e1 s), sumTo_swap]
    refine sumTo_congr fun j hj => ?_
    by_cases hj' : S j = true
    · rw [if_pos hj']
      by_cases e : j = c
      · subst e
        have e2 : ∀ v, F n (setc A j v) k (del S j) = F n A k (del S j) := fun v => F_congr (fun i l _ _ hl => setc_ne A j v i l (by unfold del at hl; rw [Bool.and_eq_true] at hl; simpa using hl.2)) (fun _ _ => rfl)
        have e3 : sumTo m (fun i => w i * if S j = true then sg S j n * setc A j (u i) k j * F n (setc A j (u i)) k (del S j) else 0) = sg S j n * F n A k (del S j) * sumTo m (fun s => w s * u s k) := by
          rw [← sumTo_mul]
          exact sumTo_congr fun s _ => by
            rw [if_pos hj', setc_at, e2]
            generalize sg S j n = x
            generalize F n A k (del S j) = y
            grind
        rw [setc_at, e2, e3]
        generalize sumTo m (fun s => w s * u s k) = v
        generalize sg S j n = x
        generalize F n A k (del S j) = y
        grind
      · rw [setc_ne _ _ _ _ _ e, F_lin n m w u k A (del S j) c hc (by unfold del; rw [h1, beq_eq_false_iff_ne.2 (Ne.symm e)]; rfl), ← sumTo_mul]
        exact sumTo_congr fun s _ => by rw [if_pos hj', setc_ne _ _ _ _ _ e]; grind
    · rw [if_neg hj']
      exact (sumTo_zero fun s _ => by rw [if_neg hj', Int.mul_zero]).symm
theorem F_no_pivot (n : Nat) (A : Nat → Nat → Int) (k : Nat) (hk : k < n) (hp : P n A k ≠ 0) (h : ∀ i, i < n → R n A k i k = 0) : F n A n (low n) = 0 := by
  obtain ⟨c, hc⟩ := R_comb n A k k (Nat.le_refl k) hk
  have e1 : ∀ i, i < n → P n A k * A i k = sumTo k (fun s => (- c s) * A i s) := fun i hi => by
    have h1 := hc i
    rw [h i hi] at h1
    rw [sumTo_congr (g := fun s => - (c s * A i s)) (fun s _ => by rw [Int.neg_mul]), sumTo_neg]
    omega
  have hk' : low n k = true := by unfold low; simpa using hk
  have e2 : P n A k * F n A n (low n) = F n (setc A k (fun i => sumTo 1 fun _ => P n A k * A i k)) n (low n) := by
    rw [F_lin n 1 (fun _ => P n A k) (fun _ i => A i k) n A (low n) k hk hk']
    simp only [sumTo, Int.zero_add]
    congr 1
    exact F_congr (fun i j _ _ _ => by
      by_cases e : j = k
      · rw [e, setc_at]
      · rw [setc_ne _ _ _ _ _ e]) (fun _ _ => rfl)
  have e3 : F n (setc A k (fun i => sumTo 1 fun _ => P n A k * A i k)) n (low n) = F n (setc A k (fun i => sumTo k fun s => (- c s) * A i s)) n (low n) := F_congr (fun i j hi _ _ => by
      by_cases e : j = k
      · rw [e, setc_at, setc_at, sumTo, sumTo, Int.zero_add]
        exact e1 i hi
      · rw [setc_ne _ _ _ _ _ e, setc_ne _ _ _ _ _ e]) (fun _ _ => rfl)
  rw [e3, F_lin n k (fun s => - c s) (fun s i => A i s) n A (low n) k hk hk', sumTo_zero (fun s hs => by
    rw [F_eq_cols n n (setc A k (fun i => A i s)) (low n) k s hk (by omega) (by omega) hk' (by unfold low; simp; omega) (fun i => by rw [setc_at, setc_ne _ _ _ _ _ (by omega)]), Int.mul_zero])] at e2
  rcases Int.mul_eq_zero.1 e2 with h1 | h1
  · exact absurd h1 hp
  · exact h1
theorem cramer (N : Nat) (A : Nat → Nat → Int) (b : Nat → Int) (r : Nat) (hr : r < N) : sumTo N (fun j => A r j * F N (setc A j b) N (low N)) = F N A N (low N) * b r := by
  have hz : F (N + 1) (row (setc A N b) N r) (N + 1) (low (N + 1)) = 0 := F_eq_rows (N + 1) N r _ _ hr (by unfold row; rw [if_neg (by omega), if_pos rfl])
  rw [F, sumTo] at hz
  have few : ∀ (B : Nat → Nat → Int) (k : Nat) (S : Nat → Bool), S N = false → F (N + 1) B k S = F N B k S := by
    intro B k
    induction k with
    | zero =>
      intro S hS
      rw [F, F]
      by_cases h : ∀ l, l < N → S l = false
      · rw [if_pos h, if_pos (fun l hl => by
          by_cases e : l = N
          · rw [e]; exact hS
          · exact h l (by omega))]
      · rw [if_neg h, if_neg (fun h' => h (fun l hl => h' l (by omega)))]
    | succ k ih =>
      intro S hS
      rw [F, F, sumTo, if_neg (by rw [hS]; decide), Int.add_zero]
      refine sumTo_congr fun j hj => ?_
      by_cases h : S j = true
      · rw [if_pos h, if_pos h, ih (del S j) (by unfold del; rw [hS]; rfl), sg, if_neg (fun h' => by rw [hS] at h'; cases h'.2)]
      · rw [if_neg h, if_neg h]
  have hl1 : ∀ j, j ≤ N → low (N + 1) j = true := fun j hj => by unfold low; simp; omega
  have hrow : ∀ (i j : Nat), i < N → row (setc A N b) N r i j = setc A N b i j := fun i j hi => by unfold row; rw [if_neg (by omega)]
  have eN : sg (low (N + 1)) N (N + 1) * row (setc A N b) N r N N * F (N + 1) (row (setc A N b) N r) N (del (low (N + 1)) N) = F N A N (low N) * b r := by
    have e1 : sg (low (N + 1)) N (N + 1) = 1 := by
      have : ∀ m, m ≤ N + 1 → sg (low (N + 1)) N m = 1 := by
        intro m hm
        induction m with
        | zero => rfl
        | succ m ih => rw [sg, if_neg (by omega), ih (by omega)]
      exact this _ (Nat.le_refl _)
    have e2 : row (setc A N b) N r N N = b r := by unfold row; rw [if_pos rfl, setc_at]
    rw [e1, e2, few _ _ _ (by unfold del low; simp), F_congr (A := row (setc A N b) N r) (B := A) (T := low N) (fun i j hi hj _ => by rw [hrow i j hi, setc_ne _ _ _ _ _ (by omega)]) (fun l hl => by unfold del low; rw [beq_eq_false_iff_ne.2 (show l ≠ N by omega)]; simp; omega)]
    grind
  have ej : ∀ j, j < N → sg (low (N + 1)) j (N + 1) * row (setc A N b) N r N j * F (N + 1) (row (setc A N b) N r) N (del (low (N + 1)) j) = - (A r j * F N (setc A j b) N (low N)) := by
    intro j hj
    have e2 : row (setc A N b) N r N j = A r j := by unfold row; rw [if_pos rfl, setc_ne _ _ _ _ _ (by omega)]
    have hm := F_move (N + 1) N (setc A N b) (setc A j b) (del (low (N + 1)) j) (low N) N j (by omega) (by omega) (by unfold del low; simp; omega) (by unfold low; simp; omega) (by unfold del; simp) (by unfold low; simp)
      (by
        funext l
        unfold del low
        rw [Bool.eq_iff_iff]
        simp
        omega) (fun i => by rw [setc_at, setc_at]) (fun i l hl hlN => by
        have hlj : l ≠ j := by
          unfold del at hl
          rw [Bool.and_eq_true] at hl
          simpa using hl.2
        rw [setc_ne _ _ _ _ _ hlj, setc_ne _ _ _ _ _ hlN])
    have e3 : F (N + 1) (row (setc A N b) N r) N (del (low (N + 1)) j) = F (N + 1) (setc A N b) N (del (low (N + 1)) j) := F_congr (fun i l hi _ _ => hrow i l hi) (fun _ _ => rfl)
    have e4 : sg (del (low (N + 1)) j) N (N + 1) = 1 := by
      have : ∀ m, m ≤ N + 1 → sg (del (low (N + 1)) j) N m = 1 := by
        intro m hm
        induction m with
        | zero => rfl
        | succ m ih => rw [sg, if_neg (by omega), ih (by omega)]
      exact this _ (Nat.le_refl _)
    have e5 : sg (low N) j (N + 1) = - sg (low (N + 1)) j (N + 1) := by
      have h1 : sg (del (low (N + 1)) N) j (N + 1) = - sg (low (N + 1)) j (N + 1) := sg_del_above (hl1 N (Nat.le_refl N)) hj (by omega)
      rw [← h1]
      exact sg_congr fun l _ hl => by
        unfold del low
        rw [Bool.eq_iff_iff]
        simp
        omega
    rw [few _ _ _ (by unfold low; simp), e4, e5] at hm
    rw [e2, e3, hm]
    have e6 := sg_sq (low (N + 1)) j (N + 1)
    generalize sg (low (N + 1)) j (N + 1) = x at *
    generalize F (N + 1) (setc A N b) N (del (low (N + 1)) j) = y at *
    grind
  rw [if_pos (hl1 N (Nat.le_refl N)), eN, sumTo_congr (g := fun j => - (A r j * F N (setc A j b) N (low N))) (fun j hj => by rw [if_pos (hl1 j (by omega)), ej j hj]), sumTo_neg] at hz
  omega
end Go.Proofs.YtpojnobgijoddaaDoor.Det
