/- The law FnExactCompareStrains, as a plain statement: the program's CompareStrains answers what the reference's answers. Conditions: those of the row's own reading. -/
import Derived.Test.YtpojnobgijoddaaDoorKFnExactCompareStrains0
import Derived.Test.YtpojnobgijoddaaDoorKFnExactCompareStrains1
import Derived.Test.YtpojnobgijoddaaDoorKFnExactCompareStrains2
import Derived.Test.YtpojnobgijoddaaDoorKFnExactCompareStrains3
import Derived.Test.YtpojnobgijoddaaDoorKFnExactCompareStrainsU1
import Derived.Test.YtpojnobgijoddaaDoorKFnExactCompareStrainsU2
import Derived.Test.YtpojnobgijoddaaDoorKFnExactCompareStrainsU4
import Derived.Test.YtpojnobgijoddaaDoorKFnExactCompareStrainsU5
import Derived.Test.YtpojnobgijoddaaDoorKFnExactCompareStrainsU6
set_option linter.unusedSimpArgs false
set_option linter.unusedVariables false
/- The comparison of two strains: the program's and the reference's, in plain. -/
namespace Go.Proofs.YtpojnobgijoddaaDoor.Net
open Go.RowKit YtpojnobgijoddaaDoorW.PrintWords Plain A Frac
theorem wdiv {a b : Int} (ha : 0 ≤ a) (hb : 0 < b) (h : a ≤ 9000000000000000000) : wrap64 (a.tdiv b) = a.tdiv b := by
  have h1 := tdiv_small a b.toNat (B := 9000000000000000000) (by omega) h
  rw [Int.toNat_of_nonneg (by omega)] at h1
  exact w64 (by omega) (by omega)
def big : Int := 9000000000000000000
theorem cmp_l0 : ∀ (n : Nat) (s a b c d : Int), (s = 1 ∨ s = -1) → 0 ≤ a → 0 < b → 0 ≤ c → 0 < d → a ≤ big → b ≤ big → c ≤ big → d ≤ big → b.natAbs < n → Ev (fun k => spec_l10Compare.l0 k a b c d s) (s * cmp a b c d) := by
  intro n
  induction n with
  | zero => intro s a b c d _ _ _ _ _ _ _ _ _ h; omega
  | succ n ih =>
    intro s a b c d hs ha hb hc hd la lb lc ld h
    have hw : wrap64 (-s) = -s := by unfold wrap64; omega
    have w1 := wdiv ha hb la
    have w2 := wdiv hc hd lc
    unfold big at *
    rcases Int.lt_trichotomy (a.tdiv b) (c.tdiv d) with e | e | e
    · rw [cmp_lt hb hd ha hc e, show s * -1 = -s by omega]
      refine Ev.step (f := fun _ => some (-s)) (fun k => ?_) (Ev.now _)
      conv => lhs; unfold spec_l10Compare.l0
      rw [if_neg (by omega), if_neg (by omega), w1, w2, if_pos e, hw]
    · have r1 := Int.tmod_nonneg b ha
      have r2 := Int.tmod_nonneg d hc
      have l1 := Int.tmod_lt_of_pos a hb
      have l2 := Int.tmod_lt_of_pos c hd
      have hst : ∀ k, spec_l10Compare.l0 (k + 1) a b c d s = if Int.tmod a b = 0 then spec_l10Compare.j1 k (Int.tmod a b) b (Int.tmod c d) d s true else spec_l10Compare.j1 k (Int.tmod a b) b (Int.tmod c d) d s (Int.tmod c d == 0) := fun k => by
        conv => lhs; unfold spec_l10Compare.l0
        rw [if_neg (by omega), if_neg (by omega), w1, w2, if_neg (by omega), if_neg (by omega)]
      have hj : ∀ k, spec_l10Compare.j1 (k + 1) (Int.tmod a b) b (Int.tmod c d) d s true = if Int.tmod a b = Int.tmod c d then some 0 else if Int.tmod a b = 0 then some (wrap64 (-s)) else some s := fun k => by
        conv => lhs; unfold spec_l10Compare.j1
        rw [if_pos rfl]
      by_cases z1 : Int.tmod a b = 0
      · refine Ev.step (f := fun k => spec_l10Compare.j1 k (Int.tmod a b) b (Int.tmod c d) d s true) (fun k => by rw [hst, if_pos z1]) ?_
        refine Ev.step (f := fun _ => some (s * cmp a b c d)) (fun k => ?_) (Ev.now _)
        rw [hj, cmp_rest e, z1]
        by_cases z2 : Int.tmod c d = 0
        · rw [z2, if_pos rfl, cmp_zero, Int.mul_zero]
        · rw [if_neg (fun f => z2 f.symm), if_pos rfl, cmp_zero_left hb (by omega), hw]
          congr 1; omega
      · by_cases z2 : Int.tmod c d = 0
        · refine Ev.step (f := fun k => spec_l10Compare.j1 k (Int.tmod a b) b (Int.tmod c d) d s true) (fun k => by rw [hst, if_neg z1, z2]; rfl) ?_
          refine Ev.step (f := fun _ => some (s * cmp a b c d)) (fun k => ?_) (Ev.now _)
          rw [hj, cmp_rest e, z2, if_neg z1, if_neg z1, cmp_zero_right hd (by omega), Int.mul_one]
        · have hrec := ih (-s) b (Int.tmod a b) d (Int.tmod c d) (by omega) (by omega) (by omega) (by omega) (by omega) (by omega) (by omega) (by omega) (by omega) (by omega)
          rw [cmp_flip, Int.neg_mul_neg, ← cmp_rest e] at hrec
          refine Ev.step (f := fun k => spec_l10Compare.j1 k (Int.tmod a b) b (Int.tmod c d) d s false) (fun k => by rw [hst, if_neg z1, show (Int.tmod c d == 0) = false from by rw [beq_eq_false_iff_ne]; exact z2]) ?_
          refine Ev.step (fun k => ?_) hrec
          conv => lhs; unfold spec_l10Compare.j1
          rw [if_neg (by decide), hw]
    · rw [cmp_gt hb hd ha hc e, Int.mul_one]
      refine Ev.step (f := fun _ => some s) (fun k => ?_) (Ev.now _)
      conv => lhs; unfold spec_l10Compare.l0
      rw [if_neg (by omega), if_neg (by omega), w1, w2, if_neg (by omega), if_pos e]
def sCmp (x y : L) : Int := cmp (sNum x) (sDen x) (sNum y) (sDen y)
theorem compare_ev {a b c d : Int} (ha : 0 ≤ a) (hb : 0 < b) (hc : 0 ≤ c) (hd : 0 < d) (la : a ≤ big) (lb : b ≤ big) (lc : c ≤ big) (ld : d ≤ big) : Ev (fun k => spec_l10Compare.f k a b c d) (cmp a b c d) := by
  have h := cmp_l0 (b.natAbs + 1) 1 a b c d (Or.inl rfl) ha hb hc hd la lb lc ld (by omega)
  rw [Int.one_mul] at h
  exact h
theorem less_eq {a b c d : Int} (ha : 0 ≤ a) (hb : 0 < b) (hc : 0 ≤ c) (hd : 0 < d) (la : a ≤ 59049000000) (lb : b ≤ 6561) (lc : c ≤ 59049000000) (ld : d ≤ 6561) : decide (wrap64 (a * d) < wrap64 (c * b)) = decide (cmp a b c d = -1) := by
  have m1 : a * d ≤ 59049000000 * 6561 := Int.mul_le_mul (by omega) (by omega) (by omega) (by omega)
  have m2 : c * b ≤ 59049000000 * 6561 := Int.mul_le_mul (by omega) (by omega) (by omega) (by omega)
  have n1 : 0 ≤ a * d := Int.mul_nonneg (by omega) (by omega)
  have n2 : 0 ≤ c * b := Int.mul_nonneg (by omega) (by omega)
  rw [w64 (by omega) (by omega), w64 (by omega) (by omega), decide_eq_decide]
  unfold cmp
  split
  · rename_i h; exact ⟨fun _ => rfl, fun _ => h⟩
  · rename_i h
    refine ⟨fun g => absurd g h, fun g => ?_⟩
    split at g <;> omega
end Go.Proofs.YtpojnobgijoddaaDoor.Net
/- The program's CompareStrains, in the form of the printed functions, over the laid table of sines. -/
namespace Go.Proofs.YtpojnobgijoddaaDoor.A
open Go Go.RowKit YtpojnobgijoddaaDoorW.PrintWords YtpojnobgijoddaaDoorW.PrintLast YtpojnobgijoddaaDoorW.PrintMore
open Net (L Sine.Laid legsB legsB_iff areLegs_ev sNum sDen strainW StrainPost sCmp)
theorem sless {x y : L} (hx : ∀ z ∈ x, Net.Good z) (nx : x.length ≤ 12) (hy : ∀ z ∈ y, Net.Good z) (ny : y.length ≤ 12) : impl_fraction_less.f (sNum x) (sDen x) (sNum y) (sDen y) = some (decide (sCmp x y = -1)) := by
  have h1 := Net.s_bound nx hx
  have h2 := Net.s_bound ny hy
  unfold impl_fraction_less.f
  rw [Net.less_eq h1.2.1 h1.1.1 h2.2.1 h2.1.1 h1.2.2 h1.1.2 h2.2.2 h2.1.2]
  rfl
def cmpM (x y : L) : Int × Bool := if legsB x = true ∧ legsB y = true then (sCmp x y, true) else (0, false)
def impl_CompareStrains.f (l0 l1 : List (S45)) : Option (Int × Bool) := if l0.length ≤ 140737488351232 ∧ l1.length ≤ 140737488351232 then some (cmpM l0 l1) else none
theorem sCmp_three (x y : L) : sCmp x y = -1 ∨ sCmp x y = 0 ∨ sCmp x y = 1 := by
  unfold sCmp Frac.cmp
  split
  · exact Or.inl rfl
  · split
    · exact Or.inr (Or.inr rfl)
    · exact Or.inr (Or.inl rfl)
theorem sCmp_swap (x y : L) : sCmp y x = - sCmp x y := Frac.cmp_swap _ _ _ _
set_option maxHeartbeats 4000000 in
set_option maxRecDepth 100000 in
theorem impl_CompareStrains.calls (A0 : Option Addr) (c0 : Nat) (l0 : List (S45)) (A1 : Option Addr) (c1 : Nat) (l1 : List (S45)) (r1 : Int) (r2 : Bool) (w : World) (hr0 : Kd.C k45 w A0 l0.length l0) (hc0 : l0.length ≤ c0) (hr1 : Kd.C k45 w A1 l1.length l1) (hc1 : l1.length ≤ c1) (h : impl_CompareStrains.f l0 l1 = some (r1, r2)) (hL : Sine.Laid w) :
    Calls Tryd.prog 16 #[.slice A0 l0.length c0, .slice A1 l1.length c1] w fun e w' => e = .returned (.tuple #[.int .i64 r1, .bool r2]) ∧ Below w.heap.size w w' := by
  unfold impl_CompareStrains.f at h
  by_cases hb : l0.length ≤ 140737488351232 ∧ l1.length ≤ 140737488351232
  case neg => rw [if_neg hb] at h; cases h
  rw [if_pos hb] at h
  obtain ⟨K, hK⟩ := areLegs_ev l0 hb.1
  obtain ⟨K1, hK1⟩ := areLegs_ev l1 hb.2
  have HA := Aside0.mk (hK K (Nat.le_refl _))
  have HA1 := Aside0.mk (hK1 K1 (Nat.le_refl _))
  have HR := Aside0.mk hr0
  have HR1 := Aside0.mk hr1
  have HL := Aside0.mk hL
  have HB := Aside0.mk (Below.refl w.heap.size w)
  clear hK hK1 hr0 hr1 hL hb
  unfold cmpM at h
  have ARE0 : ∀ b, legsB l0 = b → Aside0 (∀ W, Below w.heap.size w W → Calls Tryd.prog 32 #[.slice A0 l0.length c0] W fun e w' => e = .returned (.bool b) ∧ Below W.heap.size W w') := fun b hb => ⟨fun W hW => by
    have hq := HA.out
    rw [hb] at hq
    exact impl_areLegs.calls K _ _ l0 b W (Kd.C_below HR.out hW) hc0 hq⟩
  have ARE1 : ∀ b, legsB l1 = b → Aside0 (∀ W, Below w.heap.size w W → Calls Tryd.prog 32 #[.slice A1 l1.length c1] W fun e w' => e = .returned (.bool b) ∧ Below W.heap.size W w') := fun b hb => ⟨fun W hW => by
    have hq := HA1.out
    rw [hb] at hq
    exact impl_areLegs.calls K1 _ _ l1 b W (Kd.C_below HR1.out hW) hc1 hq⟩
  cases hv : legsB l0
  · rw [if_neg (by rw [hv]; simp)] at h
    simp only [Option.some.injEq, Prod.mk.injEq] at h
    obtain ⟨rfl, rfl⟩ := h
    have HC := ARE0 false hv
    clear hv ARE0 ARE1
    go_enter Tryd.func16, Tryd.ntmps16
    go_wp2_with (go_at_call 32; (with_reducible refine (HC.out _ qz7).mono ?_); rintro e w' ⟨rfl, hw⟩; replace HB := Aside0.mk (below_step (show Below w.heap.size w _ from by (repeat (first | exact HB.out | exact Below.refl _ _ | apply below_alloc | apply pw_below_drewN | apply below_drew1)); done) hw); clear hw)
    exact bodyPost_ret (v := .tuple #[.int .i64 0, .bool false]) (by simp [results, Tryd.results16, go_sem]) rfl ⟨rfl, by (repeat (first | exact HB.out | exact Below.refl _ _ | apply below_alloc | apply pw_below_drewN | apply below_drew1)); done⟩
  · cases hv1 : legsB l1
    · rw [if_neg (by rw [hv1]; simp)] at h
      simp only [Option.some.injEq, Prod.mk.injEq] at h
      obtain ⟨rfl, rfl⟩ := h
      have HC := ARE0 true hv
      have HD := ARE1 false hv1
      clear hv hv1 ARE0 ARE1
      go_enter Tryd.func16, Tryd.ntmps16
      go_wp2_with (go_at_call 32; first | ((with_reducible refine (HC.out _ qz7).mono ?_); rintro e w' ⟨rfl, hw⟩; replace HB := Aside0.mk (below_step (show Below w.heap.size w _ from by (repeat (first | exact HB.out | exact Below.refl _ _ | apply below_alloc | apply pw_below_drewN | apply below_drew1)); done) hw); clear hw) | ((with_reducible refine (HD.out _ qz7).mono ?_); rintro e w' ⟨rfl, hw⟩; replace HB := Aside0.mk (below_step (show Below w.heap.size w _ from by (repeat (first | exact HB.out | exact Below.refl _ _ | apply below_alloc | apply pw_below_drewN | apply below_drew1)); done) hw); clear hw))
      exact bodyPost_ret (v := .tuple #[.int .i64 0, .bool false]) (by simp [results, Tryd.results16, go_sem]) rfl ⟨rfl, by (repeat (first | exact HB.out | exact Below.refl _ _ | apply below_alloc | apply pw_below_drewN | apply below_drew1)); done⟩
    · rw [if_pos ⟨hv, hv1⟩] at h
      simp only [Option.some.injEq, Prod.mk.injEq] at h
      obtain ⟨rfl, rfl⟩ := h
      have HC := ARE0 true hv
      have HD := ARE1 true hv1
      have hg0 := legsB_iff.mp hv
      have hg1 := legsB_iff.mp hv1
      have S0 : Aside0 (∀ W, Below w.heap.size w W → Calls Tryd.prog 33 #[.slice A0 l0.length c0] W (StrainPost l0 W)) := ⟨fun W hW => strainW A0 c0 l0 W (HL.out.keep hW) (Kd.C_below HR.out hW) hc0 hg0.2 hg0.1⟩
      have S1 : Aside0 (∀ W, Below w.heap.size w W → Calls Tryd.prog 33 #[.slice A1 l1.length c1] W (StrainPost l1 W)) := ⟨fun W hW => strainW A1 c1 l1 W (HL.out.keep hW) (Kd.C_below HR1.out hW) hc1 hg1.2 hg1.1⟩
      have L0 := Aside0.mk (sless hg0.1 hg0.2 hg1.1 hg1.2)
      have L1 := Aside0.mk (sless hg1.1 hg1.2 hg0.1 hg0.2)
      rw [sCmp_swap l0 l1] at L1
      have hres : (if decide (sCmp l0 l1 = -1) = true then (-1 : Int) else if decide (-sCmp l0 l1 = -1) = true then 1 else 0) = sCmp l0 l1 := by
        rcases sCmp_three l0 l1 with e | e | e <;> rw [e] <;> decide
      clear hv hv1 ARE0 ARE1 hg0 hg1
      rw [← hres]
      generalize decide (sCmp l0 l1 = -1) = b0 at *
      generalize decide (-sCmp l0 l1 = -1) = b1 at *
      clear hres
      cases b0 <;> cases b1
      all_goals go_enter Tryd.func16, Tryd.ntmps16
      all_goals go_wp2_with (first
        | (go_at_call 32; first | ((with_reducible refine (HC.out _ qz7).mono ?_); rintro e w' ⟨rfl, hw⟩; replace HB := Aside0.mk (below_step (show Below w.heap.size w _ from by (repeat (first | exact HB.out | exact Below.refl _ _ | apply below_alloc | apply pw_below_drewN | apply below_drew1)); done) hw); clear hw) | ((with_reducible refine (HD.out _ qz7).mono ?_); rintro e w' ⟨rfl, hw⟩; replace HB := Aside0.mk (below_step (show Below w.heap.size w _ from by (repeat (first | exact HB.out | exact Below.refl _ _ | apply below_alloc | apply pw_below_drewN | apply below_drew1)); done) hw); clear hw))
        | (go_at_call 33; first | ((with_reducible refine (S0.out _ qz7).mono ?_); rintro e w2 ⟨rfl, hw⟩; replace HB := Aside0.mk (below_step (show Below w.heap.size w _ from by (repeat (first | exact HB.out | exact Below.refl _ _ | apply below_alloc | apply pw_below_drewN | apply below_drew1)); done) hw); clear hw) | ((with_reducible refine (S1.out _ qz7).mono ?_); rintro e w3 ⟨rfl, hw⟩; replace HB := Aside0.mk (below_step (show Below w.heap.size w _ from by (repeat (first | exact HB.out | exact Below.refl _ _ | apply below_alloc | apply pw_below_drewN | apply below_drew1)); done) hw); clear hw))
        | (go_at_call 36; (with_reducible refine (impl_fraction_less.calls _ _ _ _ _ _ L0.out).mono ?_); rintro e w4 ⟨rfl, hw4⟩; have q0 : w4.cell? ⟨w3.heap.size, 0, none⟩ = some (.int .i64 (sNum l0)) := Net.Sine.keepc (w := ((w3.alloc (Obj.cells #[Value.int IntKind.i64 (sNum l0), Value.int IntKind.i64 (sDen l0)] 49)).alloc (Obj.cells #[Value.int IntKind.i64 (sNum l1), Value.int IntKind.i64 (sDen l1)] 49))) (by go_simp) hw4; have q1 : w4.cell? ⟨w3.heap.size, 1, none⟩ = some (.int .i64 (sDen l0)) := Net.Sine.keepc (w := ((w3.alloc (Obj.cells #[Value.int IntKind.i64 (sNum l0), Value.int IntKind.i64 (sDen l0)] 49)).alloc (Obj.cells #[Value.int IntKind.i64 (sNum l1), Value.int IntKind.i64 (sDen l1)] 49))) (by go_simp) hw4; have q2 : w4.cell? ⟨w3.heap.size + 1, 0, none⟩ = some (.int .i64 (sNum l1)) := Net.Sine.keepc (w := ((w3.alloc (Obj.cells #[Value.int IntKind.i64 (sNum l0), Value.int IntKind.i64 (sDen l0)] 49)).alloc (Obj.cells #[Value.int IntKind.i64 (sNum l1), Value.int IntKind.i64 (sDen l1)] 49))) (by go_simp) hw4; have q3 : w4.cell? ⟨w3.heap.size + 1, 1, none⟩ = some (.int .i64 (sDen l1)) := Net.Sine.keepc (w := ((w3.alloc (Obj.cells #[Value.int IntKind.i64 (sNum l0), Value.int IntKind.i64 (sDen l0)] 49)).alloc (Obj.cells #[Value.int IntKind.i64 (sNum l1), Value.int IntKind.i64 (sDen l1)] 49))) (by go_simp) hw4; replace HB := Aside0.mk (below_step (show Below w.heap.size w ((w3.alloc (Obj.cells #[Value.int IntKind.i64 (sNum l0), Value.int IntKind.i64 (sDen l0)] 49)).alloc (Obj.cells #[Value.int IntKind.i64 (sNum l1), Value.int IntKind.i64 (sDen l1)] 49)) from by (repeat (first | exact HB.out | exact Below.refl _ _ | apply below_alloc | apply pw_below_drewN | apply below_drew1)); done) hw4); clear hw4)
        | (go_at_call 36; (with_reducible refine (impl_fraction_less.calls _ _ _ _ _ _ L1.out).mono ?_); rintro e w5 ⟨rfl, hw5⟩; replace HB := Aside0.mk (below_step HB.out hw5); clear hw5))
      all_goals first
        | exact bodyPost_ret (v := .tuple #[.int .i64 (-1), .bool true]) (by simp [results, Tryd.results16, go_sem]) rfl ⟨rfl, by (repeat (first | exact HB.out | exact Below.refl _ _ | apply below_alloc | apply pw_below_drewN | apply below_drew1)); done⟩
        | exact bodyPost_ret (v := .tuple #[.int .i64 1, .bool true]) (by simp [results, Tryd.results16, go_sem]) rfl ⟨rfl, by (repeat (first | exact HB.out | exact Below.refl _ _ | apply below_alloc | apply pw_below_drewN | apply below_drew1)); done⟩
        | exact bodyPost_ret (v := .tuple #[.int .i64 0, .bool true]) (by simp [results, Tryd.results16, go_sem]) rfl ⟨rfl, by (repeat (first | exact HB.out | exact Below.refl _ _ | apply below_alloc | apply pw_below_drewN | apply below_drew1)); done⟩
end Go.Proofs.YtpojnobgijoddaaDoor.A
/- One Lean function and its proof for each Go function, written by a program out of the translation. No conditions. -/
namespace Go.Proofs.YtpojnobgijoddaaDoor.A
open Go.Proofs.YtpojnobgijoddaaDoor Go.RowKit YtpojnobgijoddaaDoorW.PrintWords YtpojnobgijoddaaDoorW.PrintLast YtpojnobgijoddaaDoorW.PrintMore
attribute [local go_sem] max2_int min2_int max_two min_two max_three min_three max_four min_four   -- for this text's walks alone
def laws_FnExactCompareStrains.j0 : Nat → List (S47) → List (S47) → List (S45) → List (S45) → Bool → Option (Bool)
 | 0, _, _, _, _, _ => none
 | k + 1, x0, x1, x8, x9, x47 => if x47 = true then (some false) else ((laws_toLegS.f k x0).bind fun t346 => ((laws_eqLegS.f k x8 t346).bind fun t349 => (if t349 = true then ((laws_toLegS.f k x1).bind fun t350 => ((laws_eqLegS.f k x9 t350).bind fun t353 => (if t353 = true then (some true) else (some false)))) else (some false))))
def laws_FnExactCompareStrains.f (k : Nat) (l0 : List (S47)) (l1 : List (S47)) : Option (Bool) := (laws_szLegS.f l0 1048576).bind fun t328 => (if t328 < 0 then (some true) else ((laws_szLegS.f l1 t328).bind fun t329 => (if t329 < 0 then (some true) else ((laws_toLegS.f k l0).bind fun t330 => ((laws_toLegS.f k l1).bind fun t333 => ((spec_CompareStrains.f k t330 t333).bind fun bt336 => ((laws_toLegS.f k l0).bind fun t338 => ((laws_toLegS.f k l1).bind fun t341 => ((impl_CompareStrains.f t338 t341).bind fun bt344 => (if bt344.1 = bt336.1 then (laws_FnExactCompareStrains.j0 k l0 l1 t338 t341 (bt344.2 != bt336.2)) else (laws_FnExactCompareStrains.j0 k l0 l1 t338 t341 true)))))))))))
theorem laws_FnExactCompareStrains.mono_l : ∀ k, (∀ y0 y1 y2 y3 y4, LeO (laws_FnExactCompareStrains.j0 k y0 y1 y2 y3 y4) (laws_FnExactCompareStrains.j0 (k + 1) y0 y1 y2 y3 y4))
 | 0 => fun _ _ _ _ _ r h => by simp [laws_FnExactCompareStrains.j0] at h
 | k + 1 => by
  have ih0 := laws_FnExactCompareStrains.mono_l k
  ·
   intro y0 y1 y2 y3 y4
   unfold laws_FnExactCompareStrains.j0
   repeat' first
   | (with_reducible exact ih0 _ _ _ _ _)
   | (with_reducible exact laws_eqLegS.mono _ _ _)
   | (with_reducible exact laws_toLegS.mono _ _)
   | (with_reducible exact spec_CompareStrains.mono _ _ _)
   | (with_reducible exact LeO.refl _)
   | (with_reducible exact LeO.none _)
   | (with_reducible refine LeO.ite ?_ ?_)
   | (with_reducible refine LeO.bind ?_ (fun _ => ?_))
   | exact ih0 _ _ _ _ _
   | exact laws_eqLegS.mono _ _ _
   | exact laws_toLegS.mono _ _
   | exact spec_CompareStrains.mono _ _ _
   | exact LeO.none _
   | refine LeO.ite ?_ ?_
   | refine LeO.bind ?_ (fun _ => ?_)
theorem laws_FnExactCompareStrains.mono : ∀ a0 a1 k, LeO (laws_FnExactCompareStrains.f k a0 a1) (laws_FnExactCompareStrains.f (k + 1) a0 a1) := by
 intro a0 a1 k
 have ih0 := laws_FnExactCompareStrains.mono_l k
 unfold laws_FnExactCompareStrains.f
 repeat' first
   | (with_reducible exact ih0 _ _ _ _ _)
   | (with_reducible exact laws_eqLegS.mono _ _ _)
   | (with_reducible exact laws_toLegS.mono _ _)
   | (with_reducible exact spec_CompareStrains.mono _ _ _)
   | (with_reducible exact LeO.refl _)
   | (with_reducible exact LeO.none _)
   | (with_reducible refine LeO.ite ?_ ?_)
   | (with_reducible refine LeO.bind ?_ (fun _ => ?_))
   | exact ih0 _ _ _ _ _
   | exact laws_eqLegS.mono _ _ _
   | exact laws_toLegS.mono _ _
   | exact spec_CompareStrains.mono _ _ _
   | exact LeO.none _
   | refine LeO.ite ?_ ?_
   | refine LeO.bind ?_ (fun _ => ?_)
set_option maxHeartbeats 8000000 in
set_option maxRecDepth 100000 in
theorem laws_FnExactCompareStrains.calls (k : Nat) (A0 : Option Addr) (c0 : Nat) (l0 : List (S47)) (A1 : Option Addr) (c1 : Nat) (l1 : List (S47)) (r : Bool) (w : World) (hr0 : Kd.C k47 w A0 l0.length l0) (hc0 : l0.length ≤ c0) (hr1 : Kd.C k47 w A1 l1.length l1) (hc1 : l1.length ≤ c1) (h : laws_FnExactCompareStrains.f k l0 l1 = some true) (hL : Net.Sine.Laid w) :
  Calls Tryd.prog 4 #[.slice A0 l0.length c0, .slice A1 l1.length c1] w fun e w' => e = .returned (.bool true) ∧ Below w.heap.size w w' := by
 have HL := Aside0.mk hL
 clear hL
 have HR0 := Aside0.mk hr0
 have HC0 := Aside0.mk hc0
 clear hr0 hc0
 have HR1 := Aside0.mk hr1
 have HC1 := Aside0.mk hc1
 clear hr1 hc1
 have HB := Aside0.mk (Below.refl w.heap.size w)
 have H : ((laws_szLegS.f l0 1048576).bind fun t328 => (if t328 < 0 then (some true) else ((laws_szLegS.f l1 t328).bind fun t329 => (if t329 < 0 then (some true) else ((laws_toLegS.f k l0).bind fun t330 => ((laws_toLegS.f k l1).bind fun t333 => ((spec_CompareStrains.f k t330 t333).bind fun bt336 => ((laws_toLegS.f k l0).bind fun t338 => ((laws_toLegS.f k l1).bind fun t341 => ((impl_CompareStrains.f t338 t341).bind fun bt344 => (if bt344.1 = bt336.1 then (laws_FnExactCompareStrains.j0 k l0 l1 t338 t341 (bt344.2 != bt336.2)) else (laws_FnExactCompareStrains.j0 k l0 l1 t338 t341 true)))))))))))) = some true := h
 clear h
 replace H := Option.bind_eq_some_iff.mp H
 obtain ⟨t328, A30, H⟩ := H
 replace H : (if t328 < 0 then (some true) else ((laws_szLegS.f l1 t328).bind fun t329 => (if t329 < 0 then (some true) else ((laws_toLegS.f k l0).bind fun t330 => ((laws_toLegS.f k l1).bind fun t333 => ((spec_CompareStrains.f k t330 t333).bind fun bt336 => ((laws_toLegS.f k l0).bind fun t338 => ((laws_toLegS.f k l1).bind fun t341 => ((impl_CompareStrains.f t338 t341).bind fun bt344 => (if bt344.1 = bt336.1 then (laws_FnExactCompareStrains.j0 k l0 l1 t338 t341 (bt344.2 != bt336.2)) else (laws_FnExactCompareStrains.j0 k l0 l1 t338 t341 true))))))))))) = some true := H
 have A3 := Aside0.mk A30
 clear A30
 by_cases c4 : t328 < 0
 ·
  rw [if_pos c4] at H
  have c4b0 : decide (t328 < 0) = true := decide_eq_true c4
  clear c4
  go_enter Tryd.func4, Tryd.ntmps4
  go_wp2_with (first | ((with_reducible refine gate_callee (f := 10) rfl ?_); refine goesL_ (some 14) rfl rfl Tryd.func10 qz4 rfl #[.slice A0 l0.length c0, .int .i64 1048576] rfl qz1 ?_; (with_reducible refine (laws_szLegS.calls _ _ l0 1048576 t328 _ ?side1 ?side2 A3.out).mono ?_); (case side1 => repeat (first | exact HR0.out | (with_reducible refine Kd.C_alloc ?_ _) | (with_reducible refine Kd.C_drewN ?_ _) | (with_reducible refine Kd.C_drew ?_))); (case side2 => exact HC0.out); rintro e w' ⟨rfl, ⟨nd, rfl⟩⟩; refine ⟨_, rfl, ?_⟩))
  go_ret
  exact ⟨by first | rfl | (simp [errW_none, errW_some] <;> rfl) | (simp [*, errW_none, errW_some] <;> rfl), by repeat (first | (with_reducible first | exact HB.out | apply below_alloc | apply pw_below_drewN | apply below_drew1) | exact HB.out)⟩
 ·
  rw [if_neg c4] at H
  have c4b0 : decide (t328 < 0) = false := decide_eq_false c4
  clear c4
  replace H := Option.bind_eq_some_iff.mp H
  obtain ⟨t329, A50, H⟩ := H
  replace H : (if t329 < 0 then (some true) else ((laws_toLegS.f k l0).bind fun t330 => ((laws_toLegS.f k l1).bind fun t333 => ((spec_CompareStrains.f k t330 t333).bind fun bt336 => ((laws_toLegS.f k l0).bind fun t338 => ((laws_toLegS.f k l1).bind fun t341 => ((impl_CompareStrains.f t338 t341).bind fun bt344 => (if bt344.1 = bt336.1 then (laws_FnExactCompareStrains.j0 k l0 l1 t338 t341 (bt344.2 != bt336.2)) else (laws_FnExactCompareStrains.j0 k l0 l1 t338 t341 true))))))))) = some true := H
  have A5 := Aside0.mk A50
  clear A50
  by_cases c6 : t329 < 0
  ·
   rw [if_pos c6] at H
   have c6b0 : decide (t329 < 0) = true := decide_eq_true c6
   clear c6
   go_enter Tryd.func4, Tryd.ntmps4
   go_wp2_with (first | ((with_reducible refine gate_callee (f := 10) rfl ?_); refine goesL_ (some 14) rfl rfl Tryd.func10 qz4 rfl #[.slice A0 l0.length c0, .int .i64 1048576] rfl qz1 ?_; (with_reducible refine (laws_szLegS.calls _ _ l0 1048576 t328 _ ?side1 ?side2 A3.out).mono ?_); (case side1 => repeat (first | exact HR0.out | (with_reducible refine Kd.C_alloc ?_ _) | (with_reducible refine Kd.C_drewN ?_ _) | (with_reducible refine Kd.C_drew ?_))); (case side2 => exact HC0.out); rintro e w' ⟨rfl, ⟨nd, rfl⟩⟩; refine ⟨_, rfl, ?_⟩) | ((with_reducible refine gate_callee (f := 10) rfl ?_); refine goesL_ (some 19) rfl rfl Tryd.func10 qz4 rfl #[.slice A1 l1.length c1, .int .i64 t328] rfl qz1 ?_; (with_reducible refine (laws_szLegS.calls _ _ l1 t328 t329 _ ?side1 ?side2 A5.out).mono ?_); (case side1 => repeat (first | exact HR1.out | (with_reducible refine Kd.C_alloc ?_ _) | (with_reducible refine Kd.C_drewN ?_ _) | (with_reducible refine Kd.C_drew ?_))); (case side2 => exact HC1.out); rintro e w' ⟨rfl, ⟨nd, rfl⟩⟩; refine ⟨_, rfl, ?_⟩))
   go_ret
   exact ⟨by first | rfl | (simp [errW_none, errW_some] <;> rfl) | (simp [*, errW_none, errW_some] <;> rfl), by repeat (first | (with_reducible first | exact HB.out | apply below_alloc | apply pw_below_drewN | apply below_drew1) | exact HB.out)⟩
  ·
   rw [if_neg c6] at H
   have c6b0 : decide (t329 < 0) = false := decide_eq_false c6
   clear c6
   replace H := Option.bind_eq_some_iff.mp H
   obtain ⟨t330, A70, H⟩ := H
   replace H : ((laws_toLegS.f k l1).bind fun t333 => ((spec_CompareStrains.f k t330 t333).bind fun bt336 => ((laws_toLegS.f k l0).bind fun t338 => ((laws_toLegS.f k l1).bind fun t341 => ((impl_CompareStrains.f t338 t341).bind fun bt344 => (if bt344.1 = bt336.1 then (laws_FnExactCompareStrains.j0 k l0 l1 t338 t341 (bt344.2 != bt336.2)) else (laws_FnExactCompareStrains.j0 k l0 l1 t338 t341 true))))))) = some true := H
   have A7 := Aside0.mk A70
   clear A70
   replace H := Option.bind_eq_some_iff.mp H
   obtain ⟨t333, A80, H⟩ := H
   replace H : ((spec_CompareStrains.f k t330 t333).bind fun bt336 => ((laws_toLegS.f k l0).bind fun t338 => ((laws_toLegS.f k l1).bind fun t341 => ((impl_CompareStrains.f t338 t341).bind fun bt344 => (if bt344.1 = bt336.1 then (laws_FnExactCompareStrains.j0 k l0 l1 t338 t341 (bt344.2 != bt336.2)) else (laws_FnExactCompareStrains.j0 k l0 l1 t338 t341 true)))))) = some true := H
   have A8 := Aside0.mk A80
   clear A80
   replace H := Option.bind_eq_some_iff.mp H
   obtain ⟨⟨t336, t337⟩, A90, H⟩ := H
   replace H : ((laws_toLegS.f k l0).bind fun t338 => ((laws_toLegS.f k l1).bind fun t341 => ((impl_CompareStrains.f t338 t341).bind fun bt344 => (if bt344.1 = t336 then (laws_FnExactCompareStrains.j0 k l0 l1 t338 t341 (bt344.2 != t337)) else (laws_FnExactCompareStrains.j0 k l0 l1 t338 t341 true))))) = some true := H
   have A9 := Aside0.mk A90
   clear A90
   replace H := Option.bind_eq_some_iff.mp H
   obtain ⟨t338, A100, H⟩ := H
   replace H : ((laws_toLegS.f k l1).bind fun t341 => ((impl_CompareStrains.f t338 t341).bind fun bt344 => (if bt344.1 = t336 then (laws_FnExactCompareStrains.j0 k l0 l1 t338 t341 (bt344.2 != t337)) else (laws_FnExactCompareStrains.j0 k l0 l1 t338 t341 true)))) = some true := H
   have A10 := Aside0.mk A100
   clear A100
   replace H := Option.bind_eq_some_iff.mp H
   obtain ⟨t341, A110, H⟩ := H
   replace H : ((impl_CompareStrains.f t338 t341).bind fun bt344 => (if bt344.1 = t336 then (laws_FnExactCompareStrains.j0 k l0 l1 t338 t341 (bt344.2 != t337)) else (laws_FnExactCompareStrains.j0 k l0 l1 t338 t341 true))) = some true := H
   have A11 := Aside0.mk A110
   clear A110
   replace H := Option.bind_eq_some_iff.mp H
   obtain ⟨⟨t344, t345⟩, A120, H⟩ := H
   replace H : (if t344 = t336 then (laws_FnExactCompareStrains.j0 k l0 l1 t338 t341 (t345 != t337)) else (laws_FnExactCompareStrains.j0 k l0 l1 t338 t341 true)) = some true := H
   have A12 := Aside0.mk A120
   clear A120
   have HC13 := Aside0.mk H
   clear H
   go_enter Tryd.func4, Tryd.ntmps4
   go_upto_region 12 with (first | ((with_reducible refine gate_callee (f := 10) rfl ?_); refine goesL_ (some 14) rfl rfl Tryd.func10 qz4 rfl #[.slice A0 l0.length c0, .int .i64 1048576] rfl qz1 ?_; (with_reducible refine (laws_szLegS.calls _ _ l0 1048576 t328 _ ?side1 ?side2 A3.out).mono ?_); (case side1 => repeat (first | exact HR0.out | (with_reducible refine Kd.C_alloc ?_ _) | (with_reducible refine Kd.C_drewN ?_ _) | (with_reducible refine Kd.C_drew ?_))); (case side2 => exact HC0.out); rintro e w' ⟨rfl, ⟨nd, rfl⟩⟩; refine ⟨_, rfl, ?_⟩) | ((with_reducible refine gate_callee (f := 10) rfl ?_); refine goesL_ (some 19) rfl rfl Tryd.func10 qz4 rfl #[.slice A1 l1.length c1, .int .i64 t328] rfl qz1 ?_; (with_reducible refine (laws_szLegS.calls _ _ l1 t328 t329 _ ?side1 ?side2 A5.out).mono ?_); (case side1 => repeat (first | exact HR1.out | (with_reducible refine Kd.C_alloc ?_ _) | (with_reducible refine Kd.C_drewN ?_ _) | (with_reducible refine Kd.C_drew ?_))); (case side2 => exact HC1.out); rintro e w' ⟨rfl, ⟨nd, rfl⟩⟩; refine ⟨_, rfl, ?_⟩) | ((with_reducible refine gate_callee (f := 12) rfl ?_); refine goesL_ (some 24) rfl rfl Tryd.func12 qz4 rfl #[.slice A0 l0.length c0] rfl qz1 ?_; (with_reducible refine (laws_toLegS.calls k _ _ l0 t330 _ ?side1 ?side2 A7.out).mono ?_); (case side1 => repeat (first | exact HR0.out | (with_reducible refine Kd.C_alloc ?_ _) | (with_reducible refine Kd.C_drewN ?_ _) | (with_reducible refine Kd.C_drew ?_))); (case side2 => exact HC0.out); rintro e w14 ⟨v331, rfl, ho0, hb⟩; refine ⟨_, rfl, ?_⟩; have n0_ := Aside0.mk (Kd.R_lower ho0 (below_size qz0)); have n1_ := Aside0.mk (below_step qz0 hb); clear HB; have HO332 := n0_; have HB := n1_; clear n0_ n1_; (try clear hb); (try clear hb2); (try clear hk); (try clear hi); (try clear ho0)) | ((with_reducible refine gate_callee (f := 12) rfl ?_); refine goesL_ (some 26) rfl rfl Tryd.func12 qz4 rfl #[.slice A1 l1.length c1] rfl qz1 ?_; (with_reducible refine (laws_toLegS.calls k _ _ l1 t333 _ ?side1 ?side2 A8.out).mono ?_); (case side1 => repeat (first | exact (Kd.C_below HR1.out HB.out) | (with_reducible refine Kd.C_alloc ?_ _) | (with_reducible refine Kd.C_drewN ?_ _) | (with_reducible refine Kd.C_drew ?_))); (case side2 => exact HC1.out); rintro e w15 ⟨v334, rfl, ho0, hb⟩; refine ⟨_, rfl, ?_⟩; have n0_ := Aside0.mk (Kd.R_elder' qz18 (Kd.R_base ho0) hb); have n1_ := Aside0.mk (Kd.R_lower (Kd.R_new' ho0 (Kd.R_lt qz18)) (below_size qz0)); have n2_ := Aside0.mk (below_step qz0 hb); clear HO332; clear HB; have HO332 := n0_; have HO335 := n1_; have HB := n2_; clear n0_ n1_ n2_; (try clear hb); (try clear hb2); (try clear hk); (try clear hi); (try clear ho0); obtain ⟨Ao16, co16, eo16⟩ := Kd.R_slice HO332.out; subst eo16; obtain ⟨Ao17, co17, eo17⟩ := Kd.R_slice HO335.out; subst eo17) | ((with_reducible refine gate_callee (f := 15) rfl ?_); refine goesL_ (some 27) rfl rfl Tryd.func15 qz4 rfl #[.slice Ao16 t330.length co16, .slice Ao17 t333.length co17] rfl qz1 ?_; (with_reducible refine (spec_CompareStrains.calls k _ _ t330 _ _ t333 t336 t337 _ ?side1 ?side2 ?side3 ?side4 A9.out ?sideL).mono ?_); (case sideL => exact HL.out.keep qz0); (case side1 => repeat (first | exact (Kd.R_reads' HO332.out).2.2 | (with_reducible refine Kd.C_alloc ?_ _) | (with_reducible refine Kd.C_drewN ?_ _) | (with_reducible refine Kd.C_drew ?_))); (case side2 => exact (Kd.R_reads' HO332.out).2.1); (case side3 => repeat (first | exact (Kd.R_reads' HO335.out).2.2 | (with_reducible refine Kd.C_alloc ?_ _) | (with_reducible refine Kd.C_drewN ?_ _) | (with_reducible refine Kd.C_drew ?_))); (case side4 => exact (Kd.R_reads' HO335.out).2.1); rintro e w18 ⟨rfl, hb⟩; refine ⟨_, rfl, ?_⟩; have n0_ := Aside0.mk (Kd.R_below qz18 hb); have n1_ := Aside0.mk (Kd.R_below qz25 hb); have n2_ := Aside0.mk (below_step qz0 hb); clear HO332; clear HO335; clear HB; have HO332 := n0_; have HO335 := n1_; have HB := n2_; clear n0_ n1_ n2_; (try clear hb); (try clear hb2); (try clear hk); (try clear hi)) | ((with_reducible refine gate_callee (f := 12) rfl ?_); refine goesL_ (some 31) rfl rfl Tryd.func12 qz4 rfl #[.slice A0 l0.length c0] rfl qz1 ?_; (with_reducible refine (laws_toLegS.calls k _ _ l0 t338 _ ?side1 ?side2 A10.out).mono ?_); (case side1 => repeat (first | exact (Kd.C_below HR0.out HB.out) | (with_reducible refine Kd.C_alloc ?_ _) | (with_reducible refine Kd.C_drewN ?_ _) | (with_reducible refine Kd.C_drew ?_))); (case side2 => exact HC0.out); rintro e w19 ⟨v339, rfl, ho0, hb⟩; refine ⟨_, rfl, ?_⟩; have n0_ := Aside0.mk (Kd.R_elder' qz18 (Kd.R_base ho0) hb); have n1_ := Aside0.mk (Kd.R_elder' qz25 (Kd.R_base ho0) hb); have n2_ := Aside0.mk (Kd.R_lower (Kd.R_new' (Kd.R_new' ho0 (Kd.R_lt qz18)) (Kd.R_lt qz25)) (below_size qz0)); have n3_ := Aside0.mk (below_step qz0 hb); clear HO332; clear HO335; clear HB; have HO332 := n0_; have HO335 := n1_; have HO340 := n2_; have HB := n3_; clear n0_ n1_ n2_ n3_; (try clear hb); (try clear hb2); (try clear hk); (try clear hi); (try clear ho0)) | ((with_reducible refine gate_callee (f := 12) rfl ?_); refine goesL_ (some 33) rfl rfl Tryd.func12 qz4 rfl #[.slice A1 l1.length c1] rfl qz1 ?_; (with_reducible refine (laws_toLegS.calls k _ _ l1 t341 _ ?side1 ?side2 A11.out).mono ?_); (case side1 => repeat (first | exact (Kd.C_below HR1.out HB.out) | (with_reducible refine Kd.C_alloc ?_ _) | (with_reducible refine Kd.C_drewN ?_ _) | (with_reducible refine Kd.C_drew ?_))); (case side2 => exact HC1.out); rintro e w20 ⟨v342, rfl, ho0, hb⟩; refine ⟨_, rfl, ?_⟩; have n0_ := Aside0.mk (Kd.R_elder' qz18 (Kd.R_base ho0) hb); have n1_ := Aside0.mk (Kd.R_elder' qz25 (Kd.R_base ho0) hb); have n2_ := Aside0.mk (Kd.R_elder' qz55 (Kd.R_base ho0) hb); have n3_ := Aside0.mk (Kd.R_lower (Kd.R_new' (Kd.R_new' (Kd.R_new' ho0 (Kd.R_lt qz18)) (Kd.R_lt qz25)) (Kd.R_lt qz55)) (below_size qz0)); have n4_ := Aside0.mk (below_step qz0 hb); clear HO332; clear HO335; clear HO340; clear HB; have HO332 := n0_; have HO335 := n1_; have HO340 := n2_; have HO343 := n3_; have HB := n4_; clear n0_ n1_ n2_ n3_ n4_; (try clear hb); (try clear hb2); (try clear hk); (try clear hi); (try clear ho0); obtain ⟨Ao21, co21, eo21⟩ := Kd.R_slice HO340.out; subst eo21; obtain ⟨Ao22, co22, eo22⟩ := Kd.R_slice HO343.out; subst eo22) | ((with_reducible refine gate_callee (f := 16) rfl ?_); refine goesL_ (some 37) rfl rfl Tryd.func16 qz4 rfl #[.slice Ao21 t338.length co21, .slice Ao22 t341.length co22] rfl qz1 ?_; (with_reducible refine (impl_CompareStrains.calls _ _ t338 _ _ t341 t344 t345 _ ?side1 ?side2 ?side3 ?side4 A12.out ?sideL).mono ?_); (case sideL => exact HL.out.keep qz0); (case side1 => repeat (first | exact (Kd.R_reads' HO340.out).2.2 | (with_reducible refine Kd.C_alloc ?_ _) | (with_reducible refine Kd.C_drewN ?_ _) | (with_reducible refine Kd.C_drew ?_))); (case side2 => exact (Kd.R_reads' HO340.out).2.1); (case side3 => repeat (first | exact (Kd.R_reads' HO343.out).2.2 | (with_reducible refine Kd.C_alloc ?_ _) | (with_reducible refine Kd.C_drewN ?_ _) | (with_reducible refine Kd.C_drew ?_))); (case side4 => exact (Kd.R_reads' HO343.out).2.1); rintro e w23 ⟨rfl, hb⟩; refine ⟨_, rfl, ?_⟩; have n0_ := Aside0.mk (Kd.R_below qz18 hb); have n1_ := Aside0.mk (Kd.R_below qz25 hb); have n2_ := Aside0.mk (Kd.R_below qz55 hb); have n3_ := Aside0.mk (Kd.R_below (by (with_reducible repeat (first | apply Kd.R_alloc | apply Kd.R_drewN | apply Kd.R_drew)); exact HO343.out) hb); have n4_ := Aside0.mk (below_step qz0 hb); clear HO332; clear HO335; clear HO340; clear HO343; clear HB; have HO332 := n0_; have HO335 := n1_; have HO340 := n2_; have HO343 := n3_; have HB := n4_; clear n0_ n1_ n2_ n3_ n4_; (try clear hb); (try clear hb2); (try clear hk); (try clear hi)))
   (try simp only [Act.put, List.setIfInBounds_toArray, List.set_cons_zero, List.set_cons_succ])
   go_cut [47] (fun v47 wc => ∃ (kq : Nat) (x47_12 : Bool), v47 = .bool x47_12 ∧ Aside0 (laws_FnExactCompareStrains.j0 kq l0 l1 t338 t341 x47_12 = some true) ∧ Aside0 (kq ≤ k) ∧ Aside0 (Kd.R k45 45 wc w.heap.size (fun k_ => some k_ ≠ ((.slice Ao22 t341.length co22) : Value).ownBlock) (.slice Ao21 t338.length co21) t338) ∧ Aside0 (Kd.R k45 45 wc w.heap.size (fun k_ => some k_ ≠ ((.slice Ao21 t338.length co21) : Value).ownBlock) (.slice Ao22 t341.length co22) t341) ∧ Aside0 (Below w.heap.size w wc))
   case first =>
    have H := HC13.out
    clear HC13
    by_cases c24 : t344 = t336
    ·
     rw [if_pos c24] at H
     have c24b0 : (t344 == t336) = true := beq_iff_eq.mpr c24
     have c24b1 : (t344 != t336) = false := bne_eq_false_iff_eq.mpr c24
     clear c24
     (first | rw [c24b0] | (simp only [i64_w, i32_w]; rw [c24b0]) | skip)
     have H' := Aside0.mk H
     clear H
     go_wp2
     go_meet
     case rel => exact ⟨_, ((t345 != t337)), qz3, H', ⟨by first | omega | exact Nat.le_refl _⟩, ⟨by (with_reducible repeat (first | apply Kd.R_alloc | apply Kd.R_drewN | apply Kd.R_drew)); exact Kd.R_mono HO340.out (fun _ hk => hk.2)⟩, ⟨by (with_reducible repeat (first | apply Kd.R_alloc | apply Kd.R_drewN | apply Kd.R_drew)); exact Kd.R_mono HO343.out (fun _ hk => hk.2)⟩, ⟨by repeat (first | (with_reducible first | exact HB.out | apply below_alloc | apply pw_below_drewN | apply below_drew1) | exact HB.out)⟩⟩
    ·
     rw [if_neg c24] at H
     have c24b0 : (t344 == t336) = false := beq_eq_false_iff_ne.mpr c24
     have c24b1 : (t344 != t336) = true := bne_iff_ne.mpr c24
     (first | rw [c24b0] | (simp only [i64_w, i32_w]; rw [c24b0]) | skip)
     exact absurd H (by cases k <;> simp [laws_FnExactCompareStrains.j0])
   case rest =>
    clear HC13
    try clear c1
    try clear c2
    try clear p2
    try clear c4
    try clear c4b0
    try clear c6
    try clear c6b0
    try clear c10
    try clear c12
    try clear c15
    try clear c16
    try clear c24
    try clear c24b0
    try clear c24b1
    obtain ⟨kq, x47_12, rfl, HA, HJ12, HO_8, HO_9, HB⟩ := hcut
    cases kq with
    | zero => exact absurd HA.out (by simp [laws_FnExactCompareStrains.j0])
    | succ kj12 =>
     have H := HA.out
     clear HA
     simp only [laws_FnExactCompareStrains.j0] at H
     by_cases c25 : x47_12 = true
     ·
      subst c25
      have H1 : (some false) = some true := by rw [if_pos rfl] at H; exact H
      clear H
      have H := H1
      clear H1
      exact absurd (Option.some.inj H) (by decide)
     ·
      replace c25 := Bool.eq_false_iff.mpr c25
      subst c25
      have H1 : ((laws_toLegS.f kj12 l0).bind fun t346 => ((laws_eqLegS.f kj12 t338 t346).bind fun t349 => (if t349 = true then ((laws_toLegS.f kj12 l1).bind fun t350 => ((laws_eqLegS.f kj12 t341 t350).bind fun t353 => (if t353 = true then (some true) else (some false)))) else (some false)))) = some true := by rw [if_neg (show ¬ (false = true) by decide)] at H; exact H
      clear H
      have H := H1
      clear H1
      replace H := Option.bind_eq_some_iff.mp H
      obtain ⟨t346, A260, H⟩ := H
      replace H : ((laws_eqLegS.f kj12 t338 t346).bind fun t349 => (if t349 = true then ((laws_toLegS.f kj12 l1).bind fun t350 => ((laws_eqLegS.f kj12 t341 t350).bind fun t353 => (if t353 = true then (some true) else (some false)))) else (some false))) = some true := H
      have A26 := Aside0.mk A260
      clear A260
      replace H := Option.bind_eq_some_iff.mp H
      obtain ⟨t349, A270, H⟩ := H
      replace H : (if t349 = true then ((laws_toLegS.f kj12 l1).bind fun t350 => ((laws_eqLegS.f kj12 t341 t350).bind fun t353 => (if t353 = true then (some true) else (some false)))) else (some false)) = some true := H
      have A27 := Aside0.mk A270
      clear A270
      by_cases c28 : t349 = true
      ·
       subst c28
       have H1 : ((laws_toLegS.f kj12 l1).bind fun t350 => ((laws_eqLegS.f kj12 t341 t350).bind fun t353 => (if t353 = true then (some true) else (some false)))) = some true := by rw [if_pos rfl] at H; exact H
       clear H
       have H := H1
       clear H1
       replace H := Option.bind_eq_some_iff.mp H
       obtain ⟨t350, A290, H⟩ := H
       replace H : ((laws_eqLegS.f kj12 t341 t350).bind fun t353 => (if t353 = true then (some true) else (some false))) = some true := H
       have A29 := Aside0.mk A290
       clear A290
       replace H := Option.bind_eq_some_iff.mp H
       obtain ⟨t353, A300, H⟩ := H
       replace H : (if t353 = true then (some true) else (some false)) = some true := H
       have A30 := Aside0.mk A300
       clear A300
       by_cases c31 : t353 = true
       ·
        subst c31
        have H1 : (some true) = some true := rfl
        clear H
        have H := H1
        clear H1
        go_wp2_with (first | ((with_reducible refine gate_callee (f := 12) rfl ?_); refine goesL_ (some 50) rfl rfl Tryd.func12 qz4 rfl #[.slice A0 l0.length c0] rfl qz1 ?_; (with_reducible refine (laws_toLegS.calls kj12 _ _ l0 t346 _ ?side1 ?side2 A26.out).mono ?_); (case side1 => repeat (first | exact (Kd.C_below HR0.out HB.out) | (with_reducible refine Kd.C_alloc ?_ _) | (with_reducible refine Kd.C_drewN ?_ _) | (with_reducible refine Kd.C_drew ?_))); (case side2 => exact HC0.out); rintro e w32 ⟨v347, rfl, ho0, hb⟩; refine ⟨_, rfl, ?_⟩; have n0_ := Aside0.mk (Kd.R_elder' qz26 (Kd.R_base ho0) hb); have n1_ := Aside0.mk (Kd.R_elder' qz21 (Kd.R_base ho0) hb); have n2_ := Aside0.mk (Kd.R_lower (Kd.R_new' (Kd.R_new' ho0 (Kd.R_lt qz26)) (Kd.R_lt qz21)) (below_size qz0)); have n3_ := Aside0.mk (below_step qz0 hb); clear HO_8; clear HO_9; clear HB; have HO_8 := n0_; have HO_9 := n1_; have HO348 := n2_; have HB := n3_; clear n0_ n1_ n2_ n3_; (try clear hb); (try clear hb2); (try clear hk); (try clear hi); (try clear ho0); obtain ⟨Ao33, co33, eo33⟩ := Kd.R_slice HO348.out; subst eo33) | ((with_reducible refine gate_callee (f := 14) rfl ?_); refine goesL_ (some 51) rfl rfl Tryd.func14 qz4 rfl #[.slice Ao21 t338.length co21, .slice Ao33 t346.length co33] rfl qz1 ?_; (with_reducible refine (laws_eqLegS.calls kj12 _ _ t338 _ _ t346 true _ ?side1 ?side2 ?side3 ?side4 A27.out).mono ?_); (case side1 => repeat (first | exact (Kd.R_reads' HO_8.out).2.2 | (with_reducible refine Kd.C_alloc ?_ _) | (with_reducible refine Kd.C_drewN ?_ _) | (with_reducible refine Kd.C_drew ?_))); (case side2 => exact (Kd.R_reads' HO_8.out).2.1); (case side3 => repeat (first | exact (Kd.R_reads' HO348.out).2.2 | (with_reducible refine Kd.C_alloc ?_ _) | (with_reducible refine Kd.C_drewN ?_ _) | (with_reducible refine Kd.C_drew ?_))); (case side4 => exact (Kd.R_reads' HO348.out).2.1); rintro e w34 ⟨rfl, hb⟩; refine ⟨_, rfl, ?_⟩; have n0_ := Aside0.mk (Kd.R_below qz26 hb); have n1_ := Aside0.mk (Kd.R_below qz21 hb); have n2_ := Aside0.mk (Kd.R_below qz47 hb); have n3_ := Aside0.mk (below_step qz0 hb); clear HO_8; clear HO_9; clear HO348; clear HB; have HO_8 := n0_; have HO_9 := n1_; have HO348 := n2_; have HB := n3_; clear n0_ n1_ n2_ n3_; (try clear hb); (try clear hb2); (try clear hk); (try clear hi)) | ((with_reducible refine gate_callee (f := 12) rfl ?_); refine goesL_ (some 55) rfl rfl Tryd.func12 qz4 rfl #[.slice A1 l1.length c1] rfl qz1 ?_; (with_reducible refine (laws_toLegS.calls kj12 _ _ l1 t350 _ ?side1 ?side2 A29.out).mono ?_); (case side1 => repeat (first | exact (Kd.C_below HR1.out HB.out) | (with_reducible refine Kd.C_alloc ?_ _) | (with_reducible refine Kd.C_drewN ?_ _) | (with_reducible refine Kd.C_drew ?_))); (case side2 => exact HC1.out); rintro e w35 ⟨v351, rfl, ho0, hb⟩; refine ⟨_, rfl, ?_⟩; have n0_ := Aside0.mk (Kd.R_elder' qz26 (Kd.R_base ho0) hb); have n1_ := Aside0.mk (Kd.R_elder' qz21 (Kd.R_base ho0) hb); have n2_ := Aside0.mk (Kd.R_elder' qz47 (Kd.R_base ho0) hb); have n3_ := Aside0.mk (Kd.R_lower (Kd.R_new' (Kd.R_new' (Kd.R_new' ho0 (Kd.R_lt qz26)) (Kd.R_lt qz21)) (Kd.R_lt qz47)) (below_size qz0)); have n4_ := Aside0.mk (below_step qz0 hb); clear HO_8; clear HO_9; clear HO348; clear HB; have HO_8 := n0_; have HO_9 := n1_; have HO348 := n2_; have HO352 := n3_; have HB := n4_; clear n0_ n1_ n2_ n3_ n4_; (try clear hb); (try clear hb2); (try clear hk); (try clear hi); (try clear ho0); obtain ⟨Ao36, co36, eo36⟩ := Kd.R_slice HO352.out; subst eo36) | ((with_reducible refine gate_callee (f := 14) rfl ?_); refine goesL_ (some 56) rfl rfl Tryd.func14 qz4 rfl #[.slice Ao22 t341.length co22, .slice Ao36 t350.length co36] rfl qz1 ?_; (with_reducible refine (laws_eqLegS.calls kj12 _ _ t341 _ _ t350 true _ ?side1 ?side2 ?side3 ?side4 A30.out).mono ?_); (case side1 => repeat (first | exact (Kd.R_reads' HO_9.out).2.2 | (with_reducible refine Kd.C_alloc ?_ _) | (with_reducible refine Kd.C_drewN ?_ _) | (with_reducible refine Kd.C_drew ?_))); (case side2 => exact (Kd.R_reads' HO_9.out).2.1); (case side3 => repeat (first | exact (Kd.R_reads' HO352.out).2.2 | (with_reducible refine Kd.C_alloc ?_ _) | (with_reducible refine Kd.C_drewN ?_ _) | (with_reducible refine Kd.C_drew ?_))); (case side4 => exact (Kd.R_reads' HO352.out).2.1); rintro e w37 ⟨rfl, hb⟩; refine ⟨_, rfl, ?_⟩; have n0_ := Aside0.mk (Kd.R_below qz26 hb); have n1_ := Aside0.mk (Kd.R_below qz21 hb); have n2_ := Aside0.mk (Kd.R_below qz47 hb); have n3_ := Aside0.mk (Kd.R_below (by (with_reducible repeat (first | apply Kd.R_alloc | apply Kd.R_drewN | apply Kd.R_drew)); exact HO352.out) hb); have n4_ := Aside0.mk (below_step qz0 hb); clear HO_8; clear HO_9; clear HO348; clear HO352; clear HB; have HO_8 := n0_; have HO_9 := n1_; have HO348 := n2_; have HO352 := n3_; have HB := n4_; clear n0_ n1_ n2_ n3_ n4_; (try clear hb); (try clear hb2); (try clear hk); (try clear hi)))
        go_ret
        exact ⟨by first | rfl | (simp [errW_none, errW_some] <;> rfl) | (simp [*, errW_none, errW_some] <;> rfl), by repeat (first | (with_reducible first | exact HB.out | apply below_alloc | apply pw_below_drewN | apply below_drew1) | exact HB.out)⟩
       ·
        replace c31 := Bool.eq_false_iff.mpr c31
        subst c31
        have H1 : (some false) = some true := by rw [if_neg (show ¬ (false = true) by decide)] at H; exact H
        clear H
        have H := H1
        clear H1
        exact absurd (Option.some.inj H) (by decide)
      ·
       replace c28 := Bool.eq_false_iff.mpr c28
       subst c28
       have H1 : (some false) = some true := by rw [if_neg (show ¬ (false = true) by decide)] at H; exact H
       clear H
       have H := H1
       clear H1
       exact absurd (Option.some.inj H) (by decide)
end Go.Proofs.YtpojnobgijoddaaDoor.A
/- Slices of legs that a law copies and compares. No conditions. -/
namespace Go.Proofs.YtpojnobgijoddaaDoor.Legs
open Go.RowKit YtpojnobgijoddaaDoorW.PrintWords Plain A
def cv (x : S47) : S45 := ⟨x.f0, x.f1, x.f2, x.f3, x.f4⟩
theorem toLegs_ev (l : List (S47)) (hb : l.length ≤ 7036874417766) : Ev (fun k => laws_toLegS.f k l) (l.map cv) := by
  unfold laws_toLegS.f
  refine Ev.pos (by omega) ?_
  refine Ev.pos (by omega) ?_
  exact copy_all laws_toLegS.l0 cv z47 _ (fun k x0 x3 x4 => by simp only [laws_toLegS.l0, laws_toLeg.f, Option.bind_some]; rfl) l (by omega)
theorem eqLegs_ev (l : List (S45)) (hb : l.length ≤ 140737488351232) : Ev (fun k => laws_eqLegS.f k l l) true := by
  unfold laws_eqLegS.f
  refine Ev.pos rfl ?_
  exact eq_all laws_eqLegS.l0 (fun k x0 x4 h0 => by
    simp only [laws_eqLegS.l0, laws_eqLeg.f, if_true, Option.bind_some]
    by_cases h : x4 < (x0.length : Int)
    · rw [if_pos h, if_pos h0, if_pos h, if_pos h]
    · rw [if_neg h, if_neg h]) l hb
end Go.Proofs.YtpojnobgijoddaaDoor.Legs
/- The error of a leg whose ends are placed. -/
namespace Go.Proofs.YtpojnobgijoddaaDoor.Net
open Go.RowKit YtpojnobgijoddaaDoorW.PrintWords YtpojnobgijoddaaDoorW.PrintLast YtpojnobgijoddaaDoorW.PrintMore A Plain
end Go.Proofs.YtpojnobgijoddaaDoor.Net
/- The program's closingLeg, placedLeg, placedAt: the network, and whether it holds what is asked for. -/
namespace Go.Proofs.YtpojnobgijoddaaDoor.Net
open Go.RowKit YtpojnobgijoddaaDoorW.PrintWords YtpojnobgijoddaaDoorW.PrintLast YtpojnobgijoddaaDoorW.PrintMore A Plain
def Gate (ls : L) (b : Bool) (w : World) (e : Ending) (w' : World) : Prop := ∃ g T cA cC, e = .returned (.tuple #[.pointer (some ⟨g, 0, none⟩), .bool b]) ∧ St ls.length T g (Pq (RR ls)) (Xq ls (RR ls)) (Bq (RR ls)) (.slice cA (closeL ls).length cC) w' ∧ Kd.R (Kd.int .i64) 3 w' w.heap.size (fun k => k ≠ g ∧ k ≠ T) (.slice cA (closeL ls).length cC) (closeL ls) ∧ Below w.heap.size w w'
set_option maxHeartbeats 1000000 in
set_option maxRecDepth 100000 in
theorem placedLeg (A : Option Addr) (c : Nat) (ls : L) (i : Int) (w : World) (hL : Sine.Laid w) (hr0 : Kd.C k45 w A ls.length ls) (hc : ls.length ≤ c) (hv : legsB ls = true) (h0 : 0 ≤ i) (h1 : i < ls.length) :
    Calls Tryd.prog 43 #[.slice A ls.length c, .int .i64 i] w (Gate ls (Pq (RR ls) (leg ls i).f0.toNat) w) := by
  have hv' := legsB_iff.mp hv
  have hn := hv'.2
  obtain ⟨K, hK⟩ := areLegs_ev ls (by omega)
  have HA := Aside0.mk (hK K (Nat.le_refl _))
  rw [hv] at HA
  have HW : Aside0 (impl_within.f i 0 ((ls.length : Int) - 1) = some true) := ⟨by rw [within_eq, decide_eq_true (by omega)]⟩
  obtain ⟨k, rfl⟩ := Int.eq_ofNat_of_zero_le h0
  have hg := leg_good hv'.1 k (by omega)
  obtain ⟨a, ha⟩ := Int.eq_ofNat_of_zero_le hg.1.1
  have ha8 : (a : Int) < 8 := by have := hg.1.2; omega
  rw [ha, Int.toNat_natCast]
  obtain ⟨_, e2, h2, _⟩ := at_T45 hr0 (k : Int) h0 h1
  cases e2
  rw [Int.toNat_natCast, show rd_T45 ls (k : Int) = leg ls k from rfl, ha] at h2
  have H2 := Aside0.mk h2
  have HG := Aside0.mk hv'.1
  have HR := Aside0.mk hr0
  have HL := Aside0.mk hL
  have HB := Aside0.mk (Below.refl w.heap.size w)
  clear hK hr0 hL hv hv' hg ha h2
  go_enter Tryd.func43, Tryd.ntmps43
  go_wp2_with (first
    | (go_at_call 32; (with_reducible refine (impl_areLegs.calls K _ _ ls true _ ?s1 ?s2 HA.out).mono ?_); (case s1 => exact Kd.C_below HR.out qz7); (case s2 => exact hc); rintro e w' ⟨rfl, hw⟩; replace HB := Aside0.mk (below_step (show Below w.heap.size w _ from by (repeat (first | exact HB.out | exact Below.refl _ _ | apply below_alloc | apply pw_below_drewN | apply below_drew1)); done) hw); clear hw)
    | (go_at_call 64; (with_reducible refine (impl_within.calls _ _ _ _ _ HW.out).mono ?_); rintro e w' ⟨rfl, ⟨nd, rfl⟩⟩; replace HB := Aside0.mk (pw_below_drewN HB.out nd))
    | ((go_at_call 49; (with_reducible refine (place _ c ls _ ?s1 ?s2 hc hn HG.out (RR ls) rfl).mono ?_); (case s1 => exact HL.out.keep qz7); (case s2 => exact Kd.C_below HR.out qz7); rintro e w' ⟨g, T, cl, rfl, hst, ho, hw⟩; have HO : Aside0 (Kd.R (Kd.int .i64) 3 w' w.heap.size (fun k => k ≠ g ∧ k ≠ T) cl (closeL ls)) := ⟨Kd.R_lower ho (below_size (show Below w.heap.size w _ from by (repeat (first | exact HB.out | exact Below.refl _ _ | apply below_alloc | apply pw_below_drewN | apply below_drew1)); done))⟩; replace HB := Aside0.mk (below_step (show Below w.heap.size w _ from by (repeat (first | exact HB.out | exact Below.refl _ _ | apply below_alloc | apply pw_below_drewN | apply below_drew1)); done) hw); have HS := Aside0.mk hst; clear hst ho hw; obtain ⟨cA, cC, ecl⟩ := Kd.R_slice HO.out; subst ecl); have h2 := Sine.keepc H2.out HB.out; have pa := HS.out.pb a (by omega)))
  go_quiet (fail)
  go_wp2
  go_ret2
  exact ⟨g, T, cA, cC, rfl, HS.out.keep (pw_below_drewN (Below.refl _ _) _), Kd.R_drewN HO.out _, pw_below_drewN HB.out _⟩
end Go.Proofs.YtpojnobgijoddaaDoor.Net
/- A fixed leg, in plain: the reference's FixLeg. -/
namespace Go.Proofs.YtpojnobgijoddaaDoor.Net
open Go.RowKit YtpojnobgijoddaaDoorW.PrintWords YtpojnobgijoddaaDoorW.PrintLast YtpojnobgijoddaaDoorW.PrintMore A Plain
def fixX (x : S45) (fix : Int) : S45 :=
  if fix = 1 then ⟨x.f0, x.f1, x.f2, Int.tmod (wrap64 (x.f3 + 180)) 360, x.f4⟩ else if fix = 2 then ⟨x.f0, x.f1, x.f2, x.f3, wrap64 (-x.f4)⟩ else if fix = 3 then ⟨x.f0, x.f1, wrap64 (x.f2 + 100), x.f3, x.f4⟩ else ⟨x.f0, x.f1, wrap64 (x.f2 - 100), x.f3, x.f4⟩
end Go.Proofs.YtpojnobgijoddaaDoor.Net
/- The program's fixed, walked. -/
namespace Go.Proofs.YtpojnobgijoddaaDoor.Net
open Go Go.RowKit YtpojnobgijoddaaDoorW.PrintWords YtpojnobgijoddaaDoorW.PrintLast YtpojnobgijoddaaDoorW.PrintMore A Plain
end Go.Proofs.YtpojnobgijoddaaDoor.Net
/- The reference's residual of a leg, in plain. -/
namespace Go.Proofs.YtpojnobgijoddaaDoor.Net
open Go.RowKit YtpojnobgijoddaaDoorW.PrintWords Plain A
theorem specRest_eq (x : S45) (h : Good x) (axis : Int) (h0 : 0 ≤ axis) (h2 : axis ≤ 2) (cs : List Int) (h8 : cs.length = 8) (den : Int) : spec_l9Rest.f x.f0 x.f1 x.f2 x.f3 x.f4 axis cs den = some (resM x axis cs den) := by
  unfold spec_l9Rest.f
  rw [measure_eq x h axis h0 h2, Option.bind_some]
  obtain ⟨⟨a0, a8⟩, ⟨d0, d8⟩, _⟩ := h
  rw [if_pos (by omega), if_pos (by omega), if_pos (by omega), if_pos (by omega)]
  rfl
theorem specRest {ls : L} (hn : ls.length ≤ 12) (hg : ∀ x ∈ ls, Good x) (ax : Int) (h0 : 0 ≤ ax) (h2 : ax ≤ 2) {i : Int} (hi : i ∈ usedL ls) : spec_l9Rest.f (rd_T45 ls i).f0 (rd_T45 ls i).f1 (rd_T45 ls i).f2 (rd_T45 ls i).f3 (rd_T45 ls i).f4 ax (coL ls ax) (treesM ls) = some (nT ls ax i) := by
  have hr := usedL_range ls i hi
  obtain ⟨m, rfl⟩ := Int.eq_ofNat_of_zero_le hr.1
  have hx : Good (leg ls (m : Int)) := hg _ (leg_mem (by omega))
  have h := specRest_eq (leg ls (m : Int)) hx ax h0 h2 (coL ls ax) (coL_len ls ax) (treesM ls)
  rw [res_all hn hg ax hi] at h
  exact h
end Go.Proofs.YtpojnobgijoddaaDoor.Net
/- The reference's residuals and squares, in plain. -/
namespace Go.Proofs.YtpojnobgijoddaaDoor.Net
open Go.RowKit YtpojnobgijoddaaDoorW.PrintWords Plain A
theorem squares_loop {ls : L} (hn : ls.length ≤ 12) (hg : ∀ x ∈ ls, Good x) (ax : Int) (h0 : 0 ≤ ax) (h2 : ax ≤ 2) : ∀ (d j : Nat), j + d = (usedL ls).length →
    Ev (fun k => spec_l9Squares.l0 k ls ax (coL ls ax) (treesM ls) (sqTo (resL ls ax) j) (usedL ls) (j : Int)) (redN (SA ls ax) (treesM ls * treesM ls), redD (SA ls ax) (treesM ls * treesM ls)) := by
  have hul := usedL_len ls
  have hrl : (resL ls ax).length = (usedL ls).length := by unfold resL; rw [List.length_map]
  intro d
  induction d with
  | zero =>
    intro j hj
    have ht1 := trees_pos hn hg
    have ht2 := trees_le hn hg
    have hs := SA_bound hn hg ax
    have hsq : treesM ls * treesM ls ≤ 6561 * 6561 := Int.mul_le_mul ht2 ht2 (by omega) (by omega)
    have hsp : 0 < treesM ls * treesM ls := Int.mul_pos (by omega) (by omega)
    have e : sqTo (resL ls ax) j = SA ls ax := by rw [← sqTo_all hn hg ax, hrl, show j = (usedL ls).length by omega]
    rw [e]
    refine Ev.step (f := fun k => (spec_l9Reduce.f k (SA ls ax) (wrap64 (treesM ls * treesM ls))).bind fun bt => some (bt.1, bt.2)) (fun k => ?_) ?_
    · simp only [spec_l9Squares.l0]
      rw [if_neg (by omega)]
    · rw [w64 (by omega) (by omega)]
      exact Ev.bind (l9Reduce_ev (SA ls ax) (treesM ls * treesM ls) hsp (by omega) (by omega) (by omega)) (Ev.now _)
  | succ d ih =>
    intro j hj
    have hlt : j < (usedL ls).length := by omega
    have h := ih (j + 1) (by omega)
    have hm : rd (usedL ls) (j : Int) ∈ usedL ls := by rw [rd_get _ j hlt]; exact List.getElem_mem hlt
    have hr := usedL_range ls _ hm
    have hs := specRest hn hg ax h0 h2 hm
    have e : sqTo (resL ls ax) (j + 1) = wrap64 (sqTo (resL ls ax) j + wrap64 (nT ls ax (rd (usedL ls) (j : Int)) * nT ls ax (rd (usedL ls) (j : Int)))) := by
      rw [sqTo_step _ j (by omega)]
      have e2 : rd (resL ls ax) (j : Int) = nT ls ax (rd (usedL ls) (j : Int)) := by
        rw [rd_get _ j (by omega), rd_get _ j hlt]
        unfold resL
        rw [List.getElem_map]
      rw [e2]
    refine Ev.step (fun k => ?_) h
    simp only [spec_l9Squares.l0]
    rw [if_pos (by omega), if_pos (by omega), if_pos hr.1, if_pos hr.2, hs, Option.bind_some, e, w64 (x := (j : Int) + 1) (by omega) (by omega)]
    rfl
theorem l9Squares_ev {ls : L} (hv : legsB ls = true) (ax : Int) (h0 : 0 ≤ ax) (h2 : ax ≤ 2) : Ev (fun k => spec_l9Squares.f k ls ax) (redN (SA ls ax) (treesM ls * treesM ls), redD (SA ls ax) (treesM ls * treesM ls)) := by
  have h' := legsB_iff.mp hv
  have ht : spec_l9Trees.f ls = some (treesM ls) := by unfold spec_l9Trees.f; rw [if_pos hv]
  have ha : spec_l9Adjust.f ls ax = some (coL ls ax) := by unfold spec_l9Adjust.f; rw [if_pos ⟨hv, h0, h2⟩]
  exact Ev.bindc ha (Ev.bindc ht (Ev.bind (l9Legs_ev h'.2 h'.1) (squares_loop h'.2 h'.1 ax h0 h2 (usedL ls).length 0 (by omega))))
end Go.Proofs.YtpojnobgijoddaaDoor.Net
/- The reference's strain and its comparison of strains, in plain. -/
namespace Go.Proofs.YtpojnobgijoddaaDoor.Net
open Go.RowKit YtpojnobgijoddaaDoorW.PrintWords Plain A Frac
theorem common_ev (a b : Int) (ha : 0 ≤ a) (hb : 0 < b) : Ev (fun k => spec_l10Common.f k a b) (Int.gcd a b : Int) := by
  obtain ⟨z, hz, hs, K, hK⟩ := gcd_loop (g := spec_l10Common.l0) (fin := fun a => a) (fun k a => by
    unfold spec_l10Common.l0; rw [if_pos rfl]) (fun k a b hb => by
    conv => lhs; unfold spec_l10Common.l0
    rw [if_neg hb]) (b.natAbs + 1) a b (by omega)
  have h0 := hs ha (by omega)
  rw [show ((Int.gcd a b : Nat) : Int) = z by omega]
  exact ⟨K, fun k hk => hK k hk⟩
theorem strain_step {ls : L} (hv : legsB ls = true) (ax : Int) (h0 : 0 ≤ ax) (h2 : ax ≤ 2) {num den N : Int} (hR : Red num den N (treesM ls)) (hN : 0 ≤ N) (hN2 : N ≤ 59049000000) :
    ∃ num' den', Red num' den' (N + AM ls ax) (treesM ls) ∧ ∀ v, Ev (fun k => spec_l10Strain.l0 k ls num' den' (ax + 1)) v → Ev (fun k => spec_l10Strain.l0 k ls num den ax) v := by
  have h' := legsB_iff.mp hv
  have ht := trees_pos h'.2 h'.1
  have ht2 := trees_le h'.2 h'.1
  have hsp : 0 < treesM ls * treesM ls := Int.mul_pos (by omega) (by omega)
  have hq := squares_red h'.2 h'.1 (red_red (n := SA ls ax) hsp)
  have hsq := l9Squares_ev hv ax h0 h2
  generalize redN (SA ls ax) (treesM ls * treesM ls) = a at *
  generalize redD (SA ls ax) (treesM ls * treesM ls) = b at *
  have hA := AM_bound h'.2 h'.1 ax
  have hb1 := Red.le (by omega) hA.1 hq
  have hd1 := Red.le (by omega) hN hR
  have hd := hR.1
  have hb := hq.1
  have hg := gcd_small (n := den) hb (by omega)
  have hcm := common_ev den b (by omega) hb
  generalize hgg : Int.gcd den b = g at *
  have e1 : den.tdiv (g : Int) * (g : Int) = den := Int.tdiv_mul_cancel (by rw [← hgg]; exact Int.gcd_dvd_left ..)
  have e2 : b.tdiv (g : Int) * (g : Int) = b := Int.tdiv_mul_cancel (by rw [← hgg]; exact Int.gcd_dvd_right ..)
  have hsum := Red.sum hd hb (g := (g : Int)) (by omega) hR.2.2 hq.2.2 e1 e2
  have q1 := tdiv_small den g (B := 6561) (by omega) (by omega)
  have q2 := tdiv_small b g (B := 6561) (by omega) (by omega)
  have p1 : 0 ≤ den.tdiv (g : Int) := Int.tdiv_nonneg (by omega) (by omega)
  have p2 : 0 ≤ b.tdiv (g : Int) := Int.tdiv_nonneg (by omega) (by omega)
  have w1 := wtdiv den g (by omega) (by omega)
  have w2 := wtdiv b g (by omega) (by omega)
  have hdp : 0 < den.tdiv (g : Int) := by
    rcases Int.lt_or_le 0 (den.tdiv (g : Int)) with c | c
    · exact c
    · exfalso
      rw [show den.tdiv (g : Int) = 0 by omega] at e1
      omega
  generalize hu : den.tdiv (g : Int) = u at *
  generalize htt : b.tdiv (g : Int) = t at *
  have m1 : num * t ≤ 59049000000 * 6561 := Int.mul_le_mul (by omega) (by omega) (by omega) (by omega)
  have m2 : a * u ≤ 59049000000 * 6561 := Int.mul_le_mul (by omega) (by omega) (by omega) (by omega)
  have m3 : u * b ≤ 6561 * 6561 := Int.mul_le_mul (by omega) (by omega) (by omega) (by omega)
  have n1 : 0 ≤ num * t := Int.mul_nonneg (by omega) (by omega)
  have n2 : 0 ≤ a * u := Int.mul_nonneg (by omega) (by omega)
  have n3 : 0 < u * b := Int.mul_pos hdp hb
  have x1 : wrap64 (num * t) = num * t := w64 (by omega) (by omega)
  have x2 : wrap64 (a * u) = a * u := w64 (by omega) (by omega)
  have x3 : wrap64 (u * b) = u * b := w64 (by omega) (by omega)
  have x4 : wrap64 (num * t + a * u) = num * t + a * u := w64 (by omega) (by omega)
  have hred := l9Reduce_ev (num * t + a * u) (u * b) n3 (by omega) (by omega) (by omega)
  have hR2 := Red.change (T := treesM ls) (N := N + AM ls ax) n3 (red_red (n := num * t + a * u) n3) hsum
  refine ⟨_, _, hR2, fun v hv2 => ?_⟩
  have hax : wrap64 (ax + 1) = ax + 1 := w64 (by omega) (by omega)
  refine Ev.step (f := fun k => (spec_l9Squares.f k ls ax).bind fun bt250 => ((spec_l10Common.f k den bt250.2).bind fun t252 => (if t252 = 0 then (none) else ((spec_l10Common.f k den bt250.2).bind fun t253 => (if t253 = 0 then (none) else ((spec_l10Common.f k den bt250.2).bind fun t254 => (if t254 = 0 then (none) else ((spec_l9Reduce.f k (wrap64 ((wrap64 (num * (wrap64 (Int.tdiv bt250.2 t252)))) + (wrap64 (bt250.1 * (wrap64 (Int.tdiv den t253)))))) (wrap64 ((wrap64 (Int.tdiv den t254)) * bt250.2))).bind fun bt255 => (spec_l10Strain.l0 k ls bt255.1 bt255.2 (wrap64 (ax + 1))))))))))) (fun k => ?_) ?_
  · conv => lhs; unfold spec_l10Strain.l0
    rw [if_pos (by omega)]
  · refine Ev.bind hsq (Ev.bind hcm (Ev.neg (by omega) (Ev.bind hcm (Ev.neg (by omega) (Ev.bind hcm (Ev.neg (by omega) ?_))))))
    simp only [w1, w2, htt, hu, x1, x2, x3, x4, hax]
    exact Ev.bind hred hv2
theorem strain_ev {ls : L} (hv : legsB ls = true) : Ev (fun k => spec_l10Strain.f k ls) (sNum ls, sDen ls) := by
  have h' := legsB_iff.mp hv
  have ht := trees_pos h'.2 h'.1
  have a0 := AM_bound h'.2 h'.1 0
  have a1 := AM_bound h'.2 h'.1 1
  have a2 := AM_bound h'.2 h'.1 2
  obtain ⟨n1, d1, r1, s1⟩ := strain_step hv 0 (by decide) (by decide) (num := 0) (den := 1) (N := 0) ⟨by decide, by decide, by omega⟩ (by decide) (by decide)
  obtain ⟨n2, d2, r2, s2⟩ := strain_step hv 1 (by decide) (by decide) r1 (by omega) (by omega)
  obtain ⟨n3, d3, r3, s3⟩ := strain_step hv 2 (by decide) (by decide) r2 (by omega) (by omega)
  have hs := sRed h'.2 h'.1
  rw [show (0 : Int) + AM ls 0 + AM ls 1 + AM ls 2 = sN ls from by unfold sN; omega] at r3
  obtain ⟨e1, e2⟩ := Red.unique (by omega) r3 hs
  rw [← e1, ← e2]
  refine s1 _ (s2 _ (s3 _ ?_))
  refine Ev.step (f := fun _ => some (n3, d3)) (fun k => ?_) (Ev.now _)
  conv => lhs; unfold spec_l10Strain.l0
  rw [if_neg (by omega)]
end Go.Proofs.YtpojnobgijoddaaDoor.Net
/- The best fix, in plain. -/
namespace Go.Proofs.YtpojnobgijoddaaDoor.Net
open Go.RowKit YtpojnobgijoddaaDoorW.PrintWords Plain A Frac
structure BS where
  b : Int
  h : Int
  y : L
def stepB (ls : L) (k : Nat) (st : BS) (fix : Int) : BS := if Good (fixX (leg ls k) fix) ∧ sCmp (ls.set k (fixX (leg ls k) fix)) st.y = -1 then ⟨k, fix, ls.set k (fixX (leg ls k) fix)⟩ else st
def fixTo (ls : L) (k : Nat) (st : BS) : Nat → BS
  | 0 => st
  | m + 1 => stepB ls k (fixTo ls k st m) ((m : Int) + 1)
def bestL (ls : L) (l : List Int) : BS := l.foldl (fun st k => fixTo ls k.toNat st 4) ⟨0, 0, ls⟩
def bestB (ls : L) : BS := bestL ls (usedL ls)
structure BOk (ls : L) (st : BS) : Prop where
  len : st.y.length = ls.length
  good : ∀ x ∈ st.y, Good x
  what : (st.h = 0 ∧ st.b = 0 ∧ st.y = ls) ∨ ∃ k : Nat, st.b = k ∧ k < ls.length ∧ (1 ≤ st.h ∧ st.h ≤ 4) ∧ Good (fixX (leg ls k) st.h) ∧ st.y = ls.set k (fixX (leg ls k) st.h)
theorem BOk.start {ls : L} (hg : ∀ x ∈ ls, Good x) : BOk ls ⟨0, 0, ls⟩ := ⟨rfl, hg, Or.inl ⟨rfl, rfl, rfl⟩⟩
theorem set_good {ls : L} (hg : ∀ x ∈ ls, Good x) (k : Nat) {x : S45} (hx : Good x) : ∀ y ∈ ls.set k x, Good y := fun y hy => by
  rcases List.mem_or_eq_of_mem_set hy with h | h
  · exact hg y h
  · rw [h]; exact hx
theorem BOk.step {ls : L} (hg : ∀ x ∈ ls, Good x) {st : BS} (h : BOk ls st) (k : Nat) (hk : k < ls.length) (fix : Int) (h1 : 1 ≤ fix) (h4 : fix ≤ 4) : BOk ls (stepB ls k st fix) := by
  unfold stepB
  split
  · rename_i c
    exact ⟨List.length_set .., set_good hg k c.1, Or.inr ⟨k, rfl, hk, ⟨h1, h4⟩, c.1, rfl⟩⟩
  · exact h
theorem BOk.fixS {ls : L} (hg : ∀ x ∈ ls, Good x) {st : BS} (h : BOk ls st) (k : Nat) (hk : k < ls.length) : ∀ m : Nat, m ≤ 4 → BOk ls (fixTo ls k st m)
  | 0, _ => h
  | m + 1, hm => (BOk.fixS hg h k hk m (by omega)).step hg k hk _ (by omega) (by omega)
theorem BOk.fold {ls : L} (hg : ∀ x ∈ ls, Good x) : ∀ (l : List Int) (st : BS), BOk ls st → (∀ i ∈ l, 0 ≤ i ∧ i < (ls.length : Int)) → BOk ls (l.foldl (fun st k => fixTo ls k.toNat st 4) st)
  | [], _, h, _ => h
  | k :: l, st, h, hr => by
    have hk := hr k (by simp)
    exact BOk.fold hg l _ (h.fixS hg k.toNat (by omega) 4 (by omega)) (fun i hi => hr i (by simp [hi]))
theorem BOk.list {ls : L} (hg : ∀ x ∈ ls, Good x) (l : List Int) (h : ∀ i ∈ l, 0 ≤ i ∧ i < (ls.length : Int)) : BOk ls (bestL ls l) := BOk.fold hg l _ (BOk.start hg) h
theorem BOk.best {ls : L} (hg : ∀ x ∈ ls, Good x) : BOk ls (bestB ls) := BOk.list hg _ (usedL_range ls)
end Go.Proofs.YtpojnobgijoddaaDoor.Net
/- One Lean function and its proof for each Go function, written by a program out of the translation. No conditions. -/
namespace Go.Proofs.YtpojnobgijoddaaDoor.A
open Go.Proofs.YtpojnobgijoddaaDoor Go.RowKit YtpojnobgijoddaaDoorW.PrintWords YtpojnobgijoddaaDoorW.PrintLast YtpojnobgijoddaaDoorW.PrintMore
attribute [local go_sem] max2_int min2_int max_two min_two max_three min_three max_four min_four   -- for this text's walks alone
mutual
def spec_l10Best.l0 : Nat → List (S45) → Int → Int → Int → Int → Int → Option (Int × Int)
 | 0, _, _, _, _, _, _ => none
 | k + 1, x0, x4, x5, x6, x7, x8 => if x8 < (x0.length : Int) then (spec_l10Best.l1 k x0 x4 x5 x6 x7 x8 1) else (some (x6, x7))
def spec_l10Best.l1 : Nat → List (S45) → Int → Int → Int → Int → Int → Int → Option (Int × Int)
 | 0, _, _, _, _, _, _, _ => none
 | k + 1, x0, x4, x5, x6, x7, x8, x9 => if x9 ≤ 4 then ((spec_l10Can.f k x0 x8 x9).bind fun t492 => (if t492 = true then ((spec_l10Fix.f x0 x8 x9).bind fun t493 => ((spec_l10Strain.f k t493).bind fun bt496 => ((spec_l10Compare.f k bt496.1 bt496.2 x4 x5).bind fun t498 => (if t498 < 0 then (spec_l10Best.l1 k x0 bt496.1 bt496.2 x8 x9 x8 (wrap64 (x9 + 1))) else (spec_l10Best.l1 k x0 x4 x5 x6 x7 x8 (wrap64 (x9 + 1))))))) else (spec_l10Best.l1 k x0 x4 x5 x6 x7 x8 (wrap64 (x9 + 1))))) else (spec_l10Best.l0 k x0 x4 x5 x6 x7 (wrap64 (x8 + 1)))
end
def spec_l10Best.f (k : Nat) (l0 : List (S45)) : Option (Int × Int) := (spec_l10Strain.f k l0).bind fun bt490 => (spec_l10Best.l0 k l0 bt490.1 bt490.2 0 0 0)
theorem spec_l10Best.mono_l : ∀ k, (∀ y0 y1 y2 y3 y4 y5, LeO (spec_l10Best.l0 k y0 y1 y2 y3 y4 y5) (spec_l10Best.l0 (k + 1) y0 y1 y2 y3 y4 y5)) ∧ (∀ y0 y1 y2 y3 y4 y5 y6, LeO (spec_l10Best.l1 k y0 y1 y2 y3 y4 y5 y6) (spec_l10Best.l1 (k + 1) y0 y1 y2 y3 y4 y5 y6))
 | 0 => ⟨fun _ _ _ _ _ _ r h => by simp [spec_l10Best.l0] at h, fun _ _ _ _ _ _ _ r h => by simp [spec_l10Best.l1] at h⟩
 | k + 1 => by
  obtain ⟨ih0, ih1⟩ := spec_l10Best.mono_l k
  refine ⟨?_, ?_⟩
  ·
   intro y0 y1 y2 y3 y4 y5
   unfold spec_l10Best.l0
   repeat' first
   | (with_reducible exact ih0 _ _ _ _ _ _)
   | (with_reducible exact ih1 _ _ _ _ _ _ _)
   | (with_reducible exact spec_l10Can.mono _ _ _ _)
   | (with_reducible exact spec_l10Compare.mono _ _ _ _ _)
   | (with_reducible exact spec_l10Strain.mono _ _)
   | (with_reducible exact LeO.refl _)
   | (with_reducible exact LeO.none _)
   | (with_reducible refine LeO.ite ?_ ?_)
   | (with_reducible refine LeO.bind ?_ (fun _ => ?_))
   | exact ih0 _ _ _ _ _ _
   | exact ih1 _ _ _ _ _ _ _
   | exact spec_l10Can.mono _ _ _ _
   | exact spec_l10Compare.mono _ _ _ _ _
   | exact spec_l10Strain.mono _ _
   | exact LeO.none _
   | refine LeO.ite ?_ ?_
   | refine LeO.bind ?_ (fun _ => ?_)
  ·
   intro y0 y1 y2 y3 y4 y5 y6
   unfold spec_l10Best.l1
   repeat' first
   | (with_reducible exact ih0 _ _ _ _ _ _)
   | (with_reducible exact ih1 _ _ _ _ _ _ _)
   | (with_reducible exact spec_l10Can.mono _ _ _ _)
   | (with_reducible exact spec_l10Compare.mono _ _ _ _ _)
   | (with_reducible exact spec_l10Strain.mono _ _)
   | (with_reducible exact LeO.refl _)
   | (with_reducible exact LeO.none _)
   | (with_reducible refine LeO.ite ?_ ?_)
   | (with_reducible refine LeO.bind ?_ (fun _ => ?_))
   | exact ih0 _ _ _ _ _ _
   | exact ih1 _ _ _ _ _ _ _
   | exact spec_l10Can.mono _ _ _ _
   | exact spec_l10Compare.mono _ _ _ _ _
   | exact spec_l10Strain.mono _ _
   | exact LeO.none _
   | refine LeO.ite ?_ ?_
   | refine LeO.bind ?_ (fun _ => ?_)
theorem spec_l10Best.mono : ∀ a0 k, LeO (spec_l10Best.f k a0) (spec_l10Best.f (k + 1) a0) := by
 intro a0 k
 obtain ⟨ih0, ih1⟩ := spec_l10Best.mono_l k
 unfold spec_l10Best.f
 repeat' first
   | (with_reducible exact ih0 _ _ _ _ _ _)
   | (with_reducible exact ih1 _ _ _ _ _ _ _)
   | (with_reducible exact spec_l10Can.mono _ _ _ _)
   | (with_reducible exact spec_l10Compare.mono _ _ _ _ _)
   | (with_reducible exact spec_l10Strain.mono _ _)
   | (with_reducible exact LeO.refl _)
   | (with_reducible exact LeO.none _)
   | (with_reducible refine LeO.ite ?_ ?_)
   | (with_reducible refine LeO.bind ?_ (fun _ => ?_))
   | exact ih0 _ _ _ _ _ _
   | exact ih1 _ _ _ _ _ _ _
   | exact spec_l10Can.mono _ _ _ _
   | exact spec_l10Compare.mono _ _ _ _ _
   | exact spec_l10Strain.mono _ _
   | exact LeO.none _
   | refine LeO.ite ?_ ?_
   | refine LeO.bind ?_ (fun _ => ?_)
set_option maxHeartbeats 8000000 in
set_option maxRecDepth 100000 in
theorem spec_l10Best.calls (k : Nat) (A0 : Option Addr) (c0 : Nat) (l0 : List (S45)) (r1 : Int) (r2 : Int) (w : World) (hr0 : Kd.C k45 w A0 l0.length l0) (hc0 : l0.length ≤ c0) (h : spec_l10Best.f k l0 = some (r1, r2)) (hL : Net.Sine.Laid w) :
  Calls Tryd.prog 46 #[.slice A0 l0.length c0] w fun e w' => e = .returned (.tuple #[.int .i64 r1, .int .i64 r2]) ∧ Below w.heap.size w w' := by
 have HL := Aside0.mk hL
 clear hL
 have HR0 := Aside0.mk hr0
 have HC0 := Aside0.mk hc0
 clear hr0 hc0
 have HB := Aside0.mk (Below.refl w.heap.size w)
 have H : ((spec_l10Strain.f k l0).bind fun bt490 => (spec_l10Best.l0 k l0 bt490.1 bt490.2 0 0 0)) = some (r1, r2) := h
 clear h
 replace H := Option.bind_eq_some_iff.mp H
 obtain ⟨⟨t490, t491⟩, A20, H⟩ := H
 replace H : (spec_l10Best.l0 k l0 t490 t491 0 0 0) = some (r1, r2) := H
 have A2 := Aside0.mk A20
 clear A20
 have H' := Aside0.mk H
 clear H
 go_enter Tryd.func46, Tryd.ntmps46
 go_wp2_with (first | ((with_reducible refine gate_callee (f := 30) rfl ?_); refine goesL_ (some 14) rfl rfl Tryd.func30 qz4 rfl #[.slice A0 l0.length c0] rfl qz1 ?_; (with_reducible refine (spec_l10Strain.calls k _ _ l0 t490 t491 _ ?side1 ?side2 A2.out ?sideL).mono ?_); (case sideL => exact HL.out.keep qz0); (case side1 => repeat (first | exact HR0.out | (with_reducible refine Kd.C_alloc ?_ _) | (with_reducible refine Kd.C_drewN ?_ _) | (with_reducible refine Kd.C_drew ?_))); (case side2 => exact HC0.out); rintro e w3 ⟨rfl, hb⟩; refine ⟨_, rfl, ?_⟩; have n0_ := Aside0.mk (below_step qz0 hb); clear HB; have HB := n0_; clear n0_; (try clear hb); (try clear hb2); (try clear hk); (try clear hi)))
 go_loopg [4, 5, 6, 7, 8] k (fun kq v4 v5 v6 v7 v8 w' => ∃ (x4_1 : Int) (x5_1 : Int) (x6_1 : Int) (x7_1 : Int) (x8_1 : Int), v4 = .int .i64 x4_1 ∧ v5 = .int .i64 x5_1 ∧ v6 = .int .i64 x6_1 ∧ v7 = .int .i64 x7_1 ∧ v8 = .int .i64 x8_1 ∧ Aside0 (spec_l10Best.l0 kq l0 x4_1 x5_1 x6_1 x7_1 x8_1 = some (r1, r2)) ∧ Aside0 (kq ≤ k) ∧ Aside0 (Below w.heap.size w w'))
 case atStart => exact ⟨(t490), (t491), (0), (0), (0), qz3, qz3, qz3, qz3, qz3, H', ⟨Nat.le_refl _⟩, ⟨by repeat (first | (with_reducible first | exact HB.out | apply below_alloc | apply pw_below_drewN | apply below_drew1) | exact HB.out)⟩⟩
 case round =>
  clear H'
  try clear p2
  try clear c3
  obtain ⟨x4_1, x5_1, x6_1, x7_1, x8_1, rfl, rfl, rfl, rfl, rfl, HA, HK1, HB⟩ := hrel
  cases gk with
  | zero => exact absurd HA.out (by simp [spec_l10Best.l0])
  | succ k1 =>
   have H := HA.out
   clear HA
   simp only [spec_l10Best.l0] at H
   by_cases c4 : x8_1 < (l0.length : Int)
   ·
    rw [if_pos c4] at H
    have c4b0 : decide (x8_1 < (l0.length : Int)) = true := decide_eq_true c4
    clear c4
    have H' := Aside0.mk H
    clear H
    go_wp2
    go_loopg [4, 5, 6, 7, 9] k1 (fun kq v4 v5 v6 v7 v9 w' => ∃ (x4_2 : Int) (x5_2 : Int) (x6_2 : Int) (x7_2 : Int) (x9_2 : Int), v4 = .int .i64 x4_2 ∧ v5 = .int .i64 x5_2 ∧ v6 = .int .i64 x6_2 ∧ v7 = .int .i64 x7_2 ∧ v9 = .int .i64 x9_2 ∧ Aside0 (spec_l10Best.l1 kq l0 x4_2 x5_2 x6_2 x7_2 x8_1 x9_2 = some (r1, r2)) ∧ Aside0 (kq ≤ k1) ∧ Aside0 (Below w.heap.size w w'))
    case atStart => exact ⟨(x4_1), (x5_1), (x6_1), (x7_1), (1), qz3, qz3, qz3, qz3, qz3, H', ⟨Nat.le_refl _⟩, ⟨by repeat (first | (with_reducible first | exact HB.out | apply below_alloc | apply pw_below_drewN | apply below_drew1) | exact HB.out)⟩⟩
    case round =>
     clear H'
     try clear p2
     try clear c3
     try clear c4
     try clear c4b0
     try clear p2
     obtain ⟨x4_2, x5_2, x6_2, x7_2, x9_2, rfl, rfl, rfl, rfl, rfl, HA, HK2, HB⟩ := hrel
     cases gk with
     | zero => exact absurd HA.out (by simp [spec_l10Best.l1])
     | succ k2 =>
      have H := HA.out
      clear HA
      simp only [spec_l10Best.l1] at H
      by_cases c5 : x9_2 ≤ 4
      ·
       rw [if_pos c5] at H
       have c5b0 : decide (x9_2 ≤ 4) = true := decide_eq_true c5
       clear c5
       replace H := Option.bind_eq_some_iff.mp H
       obtain ⟨t492, A60, H⟩ := H
       replace H : (if t492 = true then ((spec_l10Fix.f l0 x8_1 x9_2).bind fun t493 => ((spec_l10Strain.f k2 t493).bind fun bt496 => ((spec_l10Compare.f k2 bt496.1 bt496.2 x4_2 x5_2).bind fun t498 => (if t498 < 0 then (spec_l10Best.l1 k2 l0 bt496.1 bt496.2 x8_1 x9_2 x8_1 (wrap64 (x9_2 + 1))) else (spec_l10Best.l1 k2 l0 x4_2 x5_2 x6_2 x7_2 x8_1 (wrap64 (x9_2 + 1))))))) else (spec_l10Best.l1 k2 l0 x4_2 x5_2 x6_2 x7_2 x8_1 (wrap64 (x9_2 + 1)))) = some (r1, r2) := H
       have A6 := Aside0.mk A60
       clear A60
       by_cases c7 : t492 = true
       ·
        subst c7
        have H1 : ((spec_l10Fix.f l0 x8_1 x9_2).bind fun t493 => ((spec_l10Strain.f k2 t493).bind fun bt496 => ((spec_l10Compare.f k2 bt496.1 bt496.2 x4_2 x5_2).bind fun t498 => (if t498 < 0 then (spec_l10Best.l1 k2 l0 bt496.1 bt496.2 x8_1 x9_2 x8_1 (wrap64 (x9_2 + 1))) else (spec_l10Best.l1 k2 l0 x4_2 x5_2 x6_2 x7_2 x8_1 (wrap64 (x9_2 + 1))))))) = some (r1, r2) := by rw [if_pos rfl] at H; exact H
        clear H
        have H := H1
        clear H1
        replace H := Option.bind_eq_some_iff.mp H
        obtain ⟨t493, A80, H⟩ := H
        replace H : ((spec_l10Strain.f k2 t493).bind fun bt496 => ((spec_l10Compare.f k2 bt496.1 bt496.2 x4_2 x5_2).bind fun t498 => (if t498 < 0 then (spec_l10Best.l1 k2 l0 bt496.1 bt496.2 x8_1 x9_2 x8_1 (wrap64 (x9_2 + 1))) else (spec_l10Best.l1 k2 l0 x4_2 x5_2 x6_2 x7_2 x8_1 (wrap64 (x9_2 + 1)))))) = some (r1, r2) := H
        have A8 := Aside0.mk A80
        clear A80
        replace H := Option.bind_eq_some_iff.mp H
        obtain ⟨⟨t496, t497⟩, A90, H⟩ := H
        replace H : ((spec_l10Compare.f k2 t496 t497 x4_2 x5_2).bind fun t498 => (if t498 < 0 then (spec_l10Best.l1 k2 l0 t496 t497 x8_1 x9_2 x8_1 (wrap64 (x9_2 + 1))) else (spec_l10Best.l1 k2 l0 x4_2 x5_2 x6_2 x7_2 x8_1 (wrap64 (x9_2 + 1))))) = some (r1, r2) := H
        have A9 := Aside0.mk A90
        clear A90
        replace H := Option.bind_eq_some_iff.mp H
        obtain ⟨t498, A100, H⟩ := H
        replace H : (if t498 < 0 then (spec_l10Best.l1 k2 l0 t496 t497 x8_1 x9_2 x8_1 (wrap64 (x9_2 + 1))) else (spec_l10Best.l1 k2 l0 x4_2 x5_2 x6_2 x7_2 x8_1 (wrap64 (x9_2 + 1)))) = some (r1, r2) := H
        have A10 := Aside0.mk A100
        clear A100
        by_cases c11 : t498 < 0
        ·
         rw [if_pos c11] at H
         have c11b0 : decide (t498 < 0) = true := decide_eq_true c11
         clear c11
         have H' := Aside0.mk H
         clear H
         go_wp2_with (first | ((with_reducible refine gate_callee (f := 37) rfl ?_); refine goesL_ (some 30) rfl rfl Tryd.func37 qz4 rfl #[.slice A0 l0.length c0, .int .i64 x8_1, .int .i64 x9_2] rfl qz1 ?_; (with_reducible refine (spec_l10Can.calls k2 _ _ l0 x8_1 x9_2 true _ ?side1 ?side2 A6.out).mono ?_); (case side1 => repeat (first | exact (Kd.C_below HR0.out HB.out) | (with_reducible refine Kd.C_alloc ?_ _) | (with_reducible refine Kd.C_drewN ?_ _) | (with_reducible refine Kd.C_drew ?_))); (case side2 => exact HC0.out); rintro e w12 ⟨rfl, hb⟩; refine ⟨_, rfl, ?_⟩; have n0_ := Aside0.mk (below_step qz0 hb); clear HB; have HB := n0_; clear n0_; (try clear hb); (try clear hb2); (try clear hk); (try clear hi)) | ((with_reducible refine gate_callee (f := 38) rfl ?_); refine goesL_ (some 36) rfl rfl Tryd.func38 qz4 rfl #[.slice A0 l0.length c0, .int .i64 x8_1, .int .i64 x9_2] rfl qz1 ?_; (with_reducible refine (spec_l10Fix.calls _ _ l0 x8_1 x9_2 t493 _ ?side1 ?side2 A8.out).mono ?_); (case side1 => repeat (first | exact (Kd.C_below HR0.out HB.out) | (with_reducible refine Kd.C_alloc ?_ _) | (with_reducible refine Kd.C_drewN ?_ _) | (with_reducible refine Kd.C_drew ?_))); (case side2 => exact HC0.out); rintro e w13 ⟨v494, rfl, ho0, hb⟩; refine ⟨_, rfl, ?_⟩; have n0_ := Aside0.mk (Kd.R_lower ho0 (below_size qz0)); have n1_ := Aside0.mk (below_step qz0 hb); clear HB; have HO495 := n0_; have HB := n1_; clear n0_ n1_; (try clear hb); (try clear hb2); (try clear hk); (try clear hi); (try clear ho0); obtain ⟨Ao14, co14, eo14⟩ := Kd.R_slice HO495.out; subst eo14) | ((with_reducible refine gate_callee (f := 30) rfl ?_); refine goesL_ (some 37) rfl rfl Tryd.func30 qz4 rfl #[.slice Ao14 t493.length co14] rfl qz1 ?_; (with_reducible refine (spec_l10Strain.calls k2 _ _ t493 t496 t497 _ ?side1 ?side2 A9.out ?sideL).mono ?_); (case sideL => exact HL.out.keep qz0); (case side1 => repeat (first | exact (Kd.R_reads' HO495.out).2.2 | (with_reducible refine Kd.C_alloc ?_ _) | (with_reducible refine Kd.C_drewN ?_ _) | (with_reducible refine Kd.C_drew ?_))); (case side2 => exact (Kd.R_reads' HO495.out).2.1); rintro e w15 ⟨rfl, hb⟩; refine ⟨_, rfl, ?_⟩; have n0_ := Aside0.mk (Kd.R_below (by (with_reducible repeat (first | apply Kd.R_alloc | apply Kd.R_drewN | apply Kd.R_drew)); exact HO495.out) hb); have n1_ := Aside0.mk (below_step qz0 hb); clear HO495; clear HB; have HO495 := n0_; have HB := n1_; clear n0_ n1_; (try clear hb); (try clear hb2); (try clear hk); (try clear hi)) | ((with_reducible refine gate_callee (f := 35) rfl ?_); refine goesL_ (some 44) rfl rfl Tryd.func35 qz4 rfl #[.int .i64 t496, .int .i64 t497, .int .i64 x4_2, .int .i64 x5_2] rfl qz1 ?_; (with_reducible refine (spec_l10Compare.calls k2 t496 t497 x4_2 x5_2 t498 _ A10.out).mono ?_); rintro e w' ⟨rfl, ⟨nd, rfl⟩⟩; refine ⟨_, rfl, ?_⟩))
         go_roundg k2
         case measure => have := HK1.out; have := HK2.out; omega
         case rel => exact ⟨(t496), (t497), (x8_1), (x9_2), (wrap64 (x9_2 + 1)), qz3, qz3, qz3, qz3, qz3, H', ⟨by have := HK1.out; have := HK2.out; omega⟩, ⟨by repeat (first | (with_reducible first | exact HB.out | apply below_alloc | apply pw_below_drewN | apply below_drew1) | exact HB.out)⟩⟩
        ·
         rw [if_neg c11] at H
         have c11b0 : decide (t498 < 0) = false := decide_eq_false c11
         clear c11
         have H' := Aside0.mk H
         clear H
         go_wp2_with (first | ((with_reducible refine gate_callee (f := 37) rfl ?_); refine goesL_ (some 30) rfl rfl Tryd.func37 qz4 rfl #[.slice A0 l0.length c0, .int .i64 x8_1, .int .i64 x9_2] rfl qz1 ?_; (with_reducible refine (spec_l10Can.calls k2 _ _ l0 x8_1 x9_2 true _ ?side1 ?side2 A6.out).mono ?_); (case side1 => repeat (first | exact (Kd.C_below HR0.out HB.out) | (with_reducible refine Kd.C_alloc ?_ _) | (with_reducible refine Kd.C_drewN ?_ _) | (with_reducible refine Kd.C_drew ?_))); (case side2 => exact HC0.out); rintro e w16 ⟨rfl, hb⟩; refine ⟨_, rfl, ?_⟩; have n0_ := Aside0.mk (below_step qz0 hb); clear HB; have HB := n0_; clear n0_; (try clear hb); (try clear hb2); (try clear hk); (try clear hi)) | ((with_reducible refine gate_callee (f := 38) rfl ?_); refine goesL_ (some 36) rfl rfl Tryd.func38 qz4 rfl #[.slice A0 l0.length c0, .int .i64 x8_1, .int .i64 x9_2] rfl qz1 ?_; (with_reducible refine (spec_l10Fix.calls _ _ l0 x8_1 x9_2 t493 _ ?side1 ?side2 A8.out).mono ?_); (case side1 => repeat (first | exact (Kd.C_below HR0.out HB.out) | (with_reducible refine Kd.C_alloc ?_ _) | (with_reducible refine Kd.C_drewN ?_ _) | (with_reducible refine Kd.C_drew ?_))); (case side2 => exact HC0.out); rintro e w17 ⟨v494, rfl, ho0, hb⟩; refine ⟨_, rfl, ?_⟩; have n0_ := Aside0.mk (Kd.R_lower ho0 (below_size qz0)); have n1_ := Aside0.mk (below_step qz0 hb); clear HB; have HO495 := n0_; have HB := n1_; clear n0_ n1_; (try clear hb); (try clear hb2); (try clear hk); (try clear hi); (try clear ho0); obtain ⟨Ao18, co18, eo18⟩ := Kd.R_slice HO495.out; subst eo18) | ((with_reducible refine gate_callee (f := 30) rfl ?_); refine goesL_ (some 37) rfl rfl Tryd.func30 qz4 rfl #[.slice Ao18 t493.length co18] rfl qz1 ?_; (with_reducible refine (spec_l10Strain.calls k2 _ _ t493 t496 t497 _ ?side1 ?side2 A9.out ?sideL).mono ?_); (case sideL => exact HL.out.keep qz0); (case side1 => repeat (first | exact (Kd.R_reads' HO495.out).2.2 | (with_reducible refine Kd.C_alloc ?_ _) | (with_reducible refine Kd.C_drewN ?_ _) | (with_reducible refine Kd.C_drew ?_))); (case side2 => exact (Kd.R_reads' HO495.out).2.1); rintro e w19 ⟨rfl, hb⟩; refine ⟨_, rfl, ?_⟩; have n0_ := Aside0.mk (Kd.R_below (by (with_reducible repeat (first | apply Kd.R_alloc | apply Kd.R_drewN | apply Kd.R_drew)); exact HO495.out) hb); have n1_ := Aside0.mk (below_step qz0 hb); clear HO495; clear HB; have HO495 := n0_; have HB := n1_; clear n0_ n1_; (try clear hb); (try clear hb2); (try clear hk); (try clear hi)) | ((with_reducible refine gate_callee (f := 35) rfl ?_); refine goesL_ (some 44) rfl rfl Tryd.func35 qz4 rfl #[.int .i64 t496, .int .i64 t497, .int .i64 x4_2, .int .i64 x5_2] rfl qz1 ?_; (with_reducible refine (spec_l10Compare.calls k2 t496 t497 x4_2 x5_2 t498 _ A10.out).mono ?_); rintro e w' ⟨rfl, ⟨nd, rfl⟩⟩; refine ⟨_, rfl, ?_⟩))
         go_roundg k2
         case measure => have := HK1.out; have := HK2.out; omega
         case rel => exact ⟨(x4_2), (x5_2), (x6_2), (x7_2), (wrap64 (x9_2 + 1)), qz3, qz3, qz3, qz3, qz3, H', ⟨by have := HK1.out; have := HK2.out; omega⟩, ⟨by repeat (first | (with_reducible first | exact HB.out | apply below_alloc | apply pw_below_drewN | apply below_drew1) | exact HB.out)⟩⟩
       ·
        replace c7 := Bool.eq_false_iff.mpr c7
        subst c7
        have H1 : (spec_l10Best.l1 k2 l0 x4_2 x5_2 x6_2 x7_2 x8_1 (wrap64 (x9_2 + 1))) = some (r1, r2) := by rw [if_neg (show ¬ (false = true) by decide)] at H; exact H
        clear H
        have H := H1
        clear H1
        have H' := Aside0.mk H
        clear H
        go_wp2_with (first | ((with_reducible refine gate_callee (f := 37) rfl ?_); refine goesL_ (some 30) rfl rfl Tryd.func37 qz4 rfl #[.slice A0 l0.length c0, .int .i64 x8_1, .int .i64 x9_2] rfl qz1 ?_; (with_reducible refine (spec_l10Can.calls k2 _ _ l0 x8_1 x9_2 false _ ?side1 ?side2 A6.out).mono ?_); (case side1 => repeat (first | exact (Kd.C_below HR0.out HB.out) | (with_reducible refine Kd.C_alloc ?_ _) | (with_reducible refine Kd.C_drewN ?_ _) | (with_reducible refine Kd.C_drew ?_))); (case side2 => exact HC0.out); rintro e w20 ⟨rfl, hb⟩; refine ⟨_, rfl, ?_⟩; have n0_ := Aside0.mk (below_step qz0 hb); clear HB; have HB := n0_; clear n0_; (try clear hb); (try clear hb2); (try clear hk); (try clear hi)))
        go_roundg k2
        case measure => have := HK1.out; have := HK2.out; omega
        case rel => exact ⟨(x4_2), (x5_2), (x6_2), (x7_2), (wrap64 (x9_2 + 1)), qz3, qz3, qz3, qz3, qz3, H', ⟨by have := HK1.out; have := HK2.out; omega⟩, ⟨by repeat (first | (with_reducible first | exact HB.out | apply below_alloc | apply pw_below_drewN | apply below_drew1) | exact HB.out)⟩⟩
      ·
       rw [if_neg c5] at H
       have c5b0 : decide (x9_2 ≤ 4) = false := decide_eq_false c5
       clear c5
       have H' := Aside0.mk H
       clear H
       go_wp2
       go_roundg k2
       case measure => have := HK1.out; have := HK2.out; omega
       case rel => exact ⟨(x4_2), (x5_2), (x6_2), (x7_2), (wrap64 (x8_1 + 1)), qz3, qz3, qz3, qz3, qz3, H', ⟨by have := HK1.out; have := HK2.out; omega⟩, ⟨by repeat (first | (with_reducible first | exact HB.out | apply below_alloc | apply pw_below_drewN | apply below_drew1) | exact HB.out)⟩⟩
   ·
    rw [if_neg c4] at H
    have c4b0 : decide (x8_1 < (l0.length : Int)) = false := decide_eq_false c4
    clear c4
    simp only [Option.some.injEq, Prod.mk.injEq] at H
    obtain ⟨rfl, rfl⟩ := H
    go_wp2
    go_ret2
    exact ⟨by first | rfl | (simp [errW_none, errW_some] <;> rfl) | (simp [*, errW_none, errW_some] <;> rfl), by repeat (first | (with_reducible first | exact HB.out | apply below_alloc | apply pw_below_drewN | apply below_drew1) | exact HB.out)⟩
end Go.Proofs.YtpojnobgijoddaaDoor.A
/- The reference's best fix, in plain. -/
namespace Go.Proofs.YtpojnobgijoddaaDoor.Net
open Go.RowKit YtpojnobgijoddaaDoorW.PrintWords Plain A Frac
theorem cmpS_ev {x y : L} (hx : ∀ z ∈ x, Good z) (nx : x.length ≤ 12) (hy : ∀ z ∈ y, Good z) (ny : y.length ≤ 12) : Ev (fun k => spec_l10Compare.f k (sNum x) (sDen x) (sNum y) (sDen y)) (sCmp x y) := by
  have h1 := s_bound nx hx
  have h2 := s_bound ny hy
  unfold sCmp
  exact compare_ev (by omega) (by omega) (by omega) (by omega) (by unfold big; omega) (by unfold big; omega) (by unfold big; omega) (by unfold big; omega)
end Go.Proofs.YtpojnobgijoddaaDoor.Net
namespace Go.Proofs.YtpojnobgijoddaaDoor.Pure
open Go.RowKit YtpojnobgijoddaaDoorW.PrintWords Plain A Legs
theorem szLegs_any (l : List (S47)) (q : Int) (hq : 0 ≤ q) (hq2 : q ≤ 1048576) (hb : l.length ≤ 140737488351232) : laws_szLegS.f l q = some (if (l.length : Int) ≤ q then q - (l.length : Int) else -1) := by
  unfold laws_szLegS.f
  rw [w64 (by omega) (by omega)]
  by_cases h : (l.length : Int) ≤ q
  · rw [if_neg (by omega), if_pos h]
  · rw [if_pos (by omega), if_neg h]
theorem compareStrains_ev (x y : Net.L) (hx : x.length ≤ 140737488351232) (hy : y.length ≤ 140737488351232) : Ev (fun k => spec_CompareStrains.f k x y) (cmpM x y) := by
  have hstop : Ev (fun k => spec_CompareStrains.j0 k x y true) (0, false) :=
    Ev.step (f := fun _ => some (0, false)) (fun k => by simp only [spec_CompareStrains.j0, if_true]) (Ev.now _)
  refine Ev.bind (Net.l4Legs_ev x hx) ?_
  unfold cmpM
  by_cases h1 : Net.legsB x = true
  · refine Ev.pos h1 (Ev.bind (Net.l4Legs_ev y hy) ?_)
    cases h2 : Net.legsB y
    · rw [if_neg (fun e => absurd e.2 (by decide))]
      exact hstop
    · rw [if_pos ⟨h1, rfl⟩]
      have g1 := Net.legsB_iff.mp h1
      have g2 := Net.legsB_iff.mp h2
      refine Ev.step (f := fun k => (spec_l10Strain.f k x).bind fun bt321 => ((spec_l10Strain.f k y).bind fun bt323 => ((spec_l10Compare.f k bt321.1 bt321.2 bt323.1 bt323.2).bind fun t325 => (some (t325, true))))) (fun k => ?_) (Ev.bind (Net.strain_ev h1) (Ev.bind (Net.strain_ev h2) (Ev.bind (Net.cmpS_ev g1.1 g1.2 g2.1 g2.2) (Ev.now _))))
      simp only [spec_CompareStrains.j0, Bool.not_true, Bool.false_eq_true, if_false]
  · rw [if_neg (fun e => h1 e.1)]
    exact Ev.neg h1 hstop
theorem FnExactCompareStrains (l0 : List (S47)) (l1 : List (S47)) (hb0 : l0.length * 40 ≤ 140737488351232) (_ : ∀ x ∈ l0, (Lit.int .i64 x.f0).wf = true ∧ (Lit.int .i64 x.f1).wf = true ∧ (Lit.int .i64 x.f2).wf = true ∧ (Lit.int .i64 x.f3).wf = true ∧ (Lit.int .i64 x.f4).wf = true) (hb1 : l1.length * 40 ≤ 140737488351232) (_ : ∀ x ∈ l1, (Lit.int .i64 x.f0).wf = true ∧ (Lit.int .i64 x.f1).wf = true ∧ (Lit.int .i64 x.f2).wf = true ∧ (Lit.int .i64 x.f3).wf = true ∧ (Lit.int .i64 x.f4).wf = true) : ∃ k, laws_FnExactCompareStrains.f k l0 l1 = some true := by
  refine Ev.rounds ?_
  have hl : (l0.map cv).length = l0.length := by simp
  have hl1 : (l1.map cv).length = l1.length := by simp
  have hsz := szLegs_any l0 1048576 (by omega) (by omega) (by omega)
  by_cases c : (l0.length : Int) ≤ 1048576
  · rw [if_pos c] at hsz
    have hsz1 := szLegs_any l1 (1048576 - (l0.length : Int)) (by omega) (by omega) (by omega)
    refine Ev.bindc hsz (Ev.neg (by omega) ?_)
    by_cases c1 : (l1.length : Int) ≤ 1048576 - (l0.length : Int)
    · rw [if_pos c1] at hsz1
      have hs := compareStrains_ev (l0.map cv) (l1.map cv) (by omega) (by omega)
      have hi : impl_CompareStrains.f (l0.map cv) (l1.map cv) = some (cmpM (l0.map cv) (l1.map cv)) := by unfold impl_CompareStrains.f; rw [if_pos ⟨by omega, by omega⟩]
      generalize cmpM (l0.map cv) (l1.map cv) = B at *
      obtain ⟨b1, b2⟩ := B
      have hlegs := toLegs_ev l0 (by omega)
      have hlegs1 := toLegs_ev l1 (by omega)
      refine Ev.bindc hsz1 (Ev.neg (by omega) ?_)
      refine Ev.bind hlegs (Ev.bind hlegs1 (Ev.bind hs (Ev.bind hlegs (Ev.bind hlegs1 (Ev.bindc hi (Ev.pos rfl ?_))))))
      refine Ev.step (f := fun k => (laws_toLegS.f k l0).bind fun t346 => ((laws_eqLegS.f k (l0.map cv) t346).bind fun t349 => (if t349 = true then ((laws_toLegS.f k l1).bind fun t350 => ((laws_eqLegS.f k (l1.map cv) t350).bind fun t353 => (if t353 = true then (some true) else (some false)))) else (some false)))) (fun k => ?_) ?_
      · simp only [laws_FnExactCompareStrains.j0, bne_self_eq_false, Bool.false_eq_true, if_false]
      · exact Ev.bind hlegs (Ev.bind (eqLegs_ev _ (by omega)) (Ev.pos rfl (Ev.bind hlegs1 (Ev.bind (eqLegs_ev _ (by omega)) (Ev.pos rfl (Ev.now _))))))
    · rw [if_neg c1] at hsz1
      exact Ev.bindc hsz1 (Ev.pos (by decide) (Ev.now _))
  · rw [if_neg c] at hsz
    exact Ev.bindc hsz (Ev.pos (by decide) (Ev.now _))
end Go.Proofs.YtpojnobgijoddaaDoor.Pure
