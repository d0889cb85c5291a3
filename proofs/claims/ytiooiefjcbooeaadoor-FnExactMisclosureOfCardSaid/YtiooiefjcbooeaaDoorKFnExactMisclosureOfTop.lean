/- The row of the law FnExactMisclosureOf: whatever the input, it returns true; its arguments read as they did. No conditions. -/
import Derived.Outline
import Derived.Test.YtiooiefjcbooeaaDoorRows
import Derived.ProofKit
import Derived.LaidMore
import Derived.OpenShut
import Derived.LaidLaws
import Derived.LaidHandle
import Derived.MakeChecks
import Derived.Stop.Joined
import Derived.Test.YtiooiefjcbooeaaDoorKFnExactMisclosureOfVMore
import Derived.Deep.Slices
import Derived.Deep.Fields
import Derived.ChangeSame
import Derived.SizedLaws
import Derived.Test.YtiooiefjcbooeaaDoorCards
import Derived.Test.YtiooiefjcbooeaaDoorTie
import Derived.OpenVars
import Derived.ChangeVars
import Derived.SevenTiedAt
import Derived.WalkKit
import Derived.ShutString
import Derived.ChangeOld
import Derived.Below
import Derived.Test.YtiooiefjcbooeaaDoorKFnExactMisclosureOf0
import Derived.Test.YtiooiefjcbooeaaDoorKFnExactMisclosureOf1
import Derived.Test.YtiooiefjcbooeaaDoorKFnExactMisclosureOf2
import Derived.Test.YtiooiefjcbooeaaDoorKFnExactMisclosureOf3
import Derived.Test.YtiooiefjcbooeaaDoorKFnExactMisclosureOf4
/- The program's sine over its laid table, the parts of a length, and the shift of a leg. -/
namespace Go.Proofs.YtiooiefjcbooeaaDoor.Net
open Go.RowKit Go.Proofs.YtiooiefjcbooeaaDoorW.PrintWords Go.Proofs.YtiooiefjcbooeaaDoorW.PrintLast Go.Proofs.YtiooiefjcbooeaaDoorW.PrintMore Go.Proofs.YtiooiefjcbooeaaDoor.A
set_option linter.unusedVariables false
set_option linter.unusedSimpArgs false
def Sine.tab : List Int := [0, 17, 35, 52, 70, 87, 105, 122, 139, 156, 174, 191, 208, 225, 242, 259, 276, 292, 309, 326, 342, 358, 375, 391, 407, 423, 438, 454, 469, 485, 500, 515, 530, 545, 559, 574, 588, 602, 616, 629, 643, 656, 669, 682, 695, 707, 719, 731, 743, 755, 766, 777, 788, 799, 809, 819, 829, 839, 848, 857, 866, 875, 883, 891, 899, 906, 914, 921, 927, 934, 940, 946, 951, 956, 961, 966, 970, 974, 978, 982, 985, 988, 990, 993, 995, 996, 998, 999, 999, 1000, 1000]
def Sine.Laid (w : World) : Prop := ∀ i : Nat, i < 91 → w.cell? ⟨0, i, none⟩ = some (.int .i64 (Sine.tab.getD i 0))
def Sine.s (d : Int) : Int := if d ≤ 90 then Sine.tab.getD d.toNat 0 else Sine.tab.getD (180 - d).toNat 0
theorem Sine.getD_bound (i : Nat) : 0 ≤ Sine.tab.getD i 0 ∧ Sine.tab.getD i 0 ≤ 1000 := by
  have h : ∀ x ∈ Sine.tab, 0 ≤ x ∧ x ≤ 1000 := by decide
  by_cases hi : i < Sine.tab.length
  · rw [List.getD_eq_getElem?_getD, List.getElem?_eq_getElem hi]
    exact h _ (List.getElem_mem hi)
  · rw [List.getD_eq_getElem?_getD, List.getElem?_eq_none (by omega)]
    decide
theorem Sine.s_bound (d : Int) : 0 ≤ Sine.s d ∧ Sine.s d ≤ 1000 := by
  unfold Sine.s
  split <;> exact Sine.getD_bound _
theorem Sine.keepc {w W : World} {a : Addr} {v : Value} (h : w.cell? a = some v) (hb : Below w.heap.size w W) : W.cell? a = some v := (hb.cell (World.block_lt_of_cell? w _ h)).trans h
theorem Sine.Laid.keep {w W : World} (h : Sine.Laid w) (hb : Below w.heap.size w W) : Sine.Laid W := fun i hi => Sine.keepc (h i hi) hb
set_option maxHeartbeats 1000000 in
theorem Sine.low (d : Int) (w : World) (hL : Sine.Laid w) (h0 : 0 ≤ d) (h1 : d ≤ 180) :
    Calls Tryd.prog 121 #[.int .i64 d] w fun e w' => e = .returned (.int .i64 (Sine.s d)) ∧ Below w.heap.size w w' := by
  unfold Sine.s
  by_cases hd : d ≤ 90
  · rw [if_pos hd]
    have hm : d % 360 = d := by omega
    have hb0 : (0 : Int) ≤ d := h0
    have hb1 : d < 91 := by omega
    have h := hL d.toNat (by omega)
    generalize Sine.tab.getD d.toNat 0 = x at *
    go_enter Tryd.func121, Tryd.ntmps121
    go_wp2
    go_ret
    exact ⟨rfl, by repeat (first | exact Below.refl _ _ | apply below_alloc)⟩
  · rw [if_neg hd]
    have hm : d % 360 = d := by omega
    have hb0 : (0 : Int) ≤ 180 - d := by omega
    have hb1 : 180 - d < 91 := by omega
    have h := hL (180 - d).toNat (by omega)
    generalize Sine.tab.getD (180 - d).toNat 0 = x at *
    go_enter Tryd.func121, Tryd.ntmps121
    go_wp2
    go_ret
    exact ⟨rfl, by repeat (first | exact Below.refl _ _ | apply below_alloc)⟩
def Sine.f (a : Int) : Int := if a % 360 ≤ 180 then Sine.s (a % 360) else - Sine.s (a % 360 - 180)
set_option maxHeartbeats 1000000 in
theorem Sine.calls (a : Int) (w : World) (hL : Sine.Laid w) (h0 : -1000000 ≤ a) (h1 : a ≤ 1000000) :
    Calls Tryd.prog 121 #[.int .i64 a] w fun e w' => e = .returned (.int .i64 (Sine.f a)) ∧ Below w.heap.size w w' := by
  have hmod : impl_modulo.f a 360 = some (a % 360) := by
    unfold impl_modulo.f
    rw [if_neg (by decide)]
    have e0 : Int.tmod a 360 = a % 360 ∨ Int.tmod a 360 = a % 360 - 360 := by
      rw [Int.tmod_eq_emod]
      split
      · left; omega
      · right; simp
    have e1 : wrap64 (Int.tmod a 360 + 360) = Int.tmod a 360 + 360 := by unfold wrap64; omega
    rw [e1, Int.tmod_eq_emod_of_nonneg (by omega)]
    congr 1
    omega
  have HM := Aside0.mk hmod
  have HL := Aside0.mk hL
  have g0 : 0 ≤ a % 360 := by omega
  have g1 : a % 360 < 360 := by omega
  clear hmod hL
  unfold Sine.f
  generalize a % 360 = d at *
  have keep : ∀ W, Below w.heap.size w W → Sine.Laid W := fun W hb => HL.out.keep hb
  have HK := Aside0.mk keep
  clear keep HL
  by_cases hd : d ≤ 180
  · rw [if_pos hd]
    unfold Sine.s
    by_cases hd9 : d ≤ 90
    · rw [if_pos hd9]
      have hb1 : d < 91 := by omega
      have HT := Aside0.mk (fun W hb => HK.out W hb d.toNat (by omega))
      generalize Sine.tab.getD d.toNat 0 = x at *
      go_enter Tryd.func121, Tryd.ntmps121
      go_wp2_with (go_at_call 123; (with_reducible refine (impl_modulo.calls _ _ _ _ HM.out).mono ?_); rintro e w' ⟨rfl, hq⟩; have HQ := Aside0.mk (show Below w.heap.size w w' from hq.below); have hcell := HT.out w' HQ.out; clear hq)
      go_ret
      exact ⟨rfl, HQ.out⟩
    · rw [if_neg hd9]
      have hb0 : (0 : Int) ≤ 180 - d := by omega
      have hb1 : 180 - d < 91 := by omega
      have HT := Aside0.mk (fun W hb => HK.out W hb (180 - d).toNat (by omega))
      generalize Sine.tab.getD (180 - d).toNat 0 = x at *
      go_enter Tryd.func121, Tryd.ntmps121
      go_wp2_with (go_at_call 123; (with_reducible refine (impl_modulo.calls _ _ _ _ HM.out).mono ?_); rintro e w' ⟨rfl, hq⟩; have HQ := Aside0.mk (show Below w.heap.size w w' from hq.below); have hcell := HT.out w' HQ.out; clear hq)
      go_ret
      exact ⟨rfl, HQ.out⟩
  · rw [if_neg hd]
    have hb0 : (0 : Int) ≤ d - 180 := by omega
    have hb1 : d - 180 ≤ 180 := by omega
    go_enter Tryd.func121, Tryd.ntmps121
    go_wp2_with (first | (go_at_call 123; (with_reducible refine (impl_modulo.calls _ _ _ _ HM.out).mono ?_); rintro e w' ⟨rfl, hq⟩; have HQ := Aside0.mk (show Below w.heap.size w w' from hq.below); clear hq) | (go_at_call 121; (with_reducible refine (Sine.low (d - 180) _ (HK.out _ HQ.out) hb0 hb1).mono ?_); rintro e w' ⟨rfl, hw⟩))
    go_ret
    have hs := Sine.s_bound (d - 180)
    have hn : wrap64 (- Sine.s (d - 180)) = - Sine.s (d - 180) := by unfold wrap64; omega
    exact ⟨by first | rfl | (simp only [hn]; rfl) | (simp [hn]; rfl), below_step HQ.out hw⟩

end Go.Proofs.YtiooiefjcbooeaaDoor.Net

/- What the card's condition on the table of sines gives the walks, and a world that meets it. -/
namespace Go.Proofs.YtiooiefjcbooeaaDoor.LaidT
open Go.ChangeShapes Go.WideShapes Go.RowKit Go.Proofs.YtiooiefjcbooeaaDoor.Net
set_option linter.unusedVariables false
set_option maxRecDepth 100000
def list : List (String × DataW Unit) := [("loop.example/g00933/impl.sines", Rows.laid_loop_example_g00933_impl_sines)]
theorem gN : Tryd.prog.globalNamed "loop.example/g00933/impl.sines" = some 0 := by kernel_rfl
theorem gT : (Tryd.prog.globals[0]?).map (·.type) = some 109 := by kernel_rfl
theorem datum_eq : (Rows.laid_loop_example_g00933_impl_sines : DataW Unit) = .agg (Sine.tab.map fun v => .lit (.int .i64 v)) := rfl
/-- The door's own heap meets the condition. -/
theorem door_met (os : Os) (args : Array Value) : laidMetH Tryd.prog list ((World.doorLaid Tryd.prog 400 os).forCall (fun _ _ => 0) ⟨#[], args, []⟩).memory :=
  laidMetH_of_parts3 (fuel := 8) (laidMet_of_run' 8 (by kernel_rfl) (by kernel_rfl)) (by kernel_rfl) (by kernel_rfl)
theorem of_laid {W : World} (h : laidMetH Tryd.prog list W) : Sine.Laid W := by
  rw [MakeChecks.laidMetH_plain _ _ _ (by kernel_rfl)] at h
  obtain ⟨ps, ⟨g0, t0, cs0, f0, p0, q0, hg0, ht0, hv0, hd0, _, _⟩, _, _⟩ := h
  obtain rfl := Option.some.inj (gN.symm.trans hg0)
  obtain rfl := Option.some.inj (gT.symm.trans ht0)
  obtain ⟨xs, m, rfl, hx, hlen, hn, hel⟩ := DataW.trod_array Tryd.underlying109 hd0
  intro i hi
  have h0 := hel i hi
  have c1 : Tryd.prog.cellsOf 3 = 1 := by kernel_rfl
  obtain ⟨x, hxi⟩ : ∃ x, xs[i]? = some x := ⟨_, List.getElem?_eq_getElem (by omega)⟩
  rw [hxi, c1] at h0
  obtain ⟨k, e1, e2, _⟩ := DataW.trod_int Tryd.underlying3 h0
  have hL : Sine.tab.map (fun v => (.lit (.int .i64 v) : DataW Unit)) = xs.map (·.1) := by
    have := (Prod.mk.inj hx).1
    rw [datum_eq] at this
    exact DataW.agg.inj this
  have hk := congrArg (fun l => l[i]?) hL
  simp only [List.getElem?_map, hxi, Option.map_some] at hk
  have htab : i < Sine.tab.length := hi
  rw [List.getElem?_eq_getElem htab, Option.map_some, e2] at hk
  have hk2 : Sine.tab[i] = k := by simpa using hk
  have hcell := World.var?_cell hg0 hv0 i
  have e3 : cs0.toList[i]? = some (.int .i64 k) := by
    have := congrArg (fun l => l[0]?) e1
    simpa [List.getElem?_take, List.getElem?_drop] using this
  rw [hcell, ← Array.getElem?_toList, e3, List.getD_eq_getElem?_getD, List.getElem?_eq_getElem htab, Option.getD_some, hk2]
end Go.Proofs.YtiooiefjcbooeaaDoor.LaidT

/- The parts of a length and the shift of a leg. -/
namespace Go.Proofs.YtiooiefjcbooeaaDoor.Net
open Go.RowKit Go.Proofs.YtiooiefjcbooeaaDoorW.PrintWords Go.Proofs.YtiooiefjcbooeaaDoorW.PrintLast Go.Proofs.YtiooiefjcbooeaaDoorW.PrintMore Go.Proofs.YtiooiefjcbooeaaDoor.A
set_option linter.unusedVariables false
set_option linter.unusedSimpArgs false
theorem Sine.f_bound (a : Int) : -1000 ≤ Sine.f a ∧ Sine.f a ≤ 1000 := by
  unfold Sine.f
  split
  · have := Sine.s_bound (a % 360); omega
  · have := Sine.s_bound (a % 360 - 180); omega
def rnd (a : Int) : Int := if a < 0 then - ((2 * (- a) + 1000) / 2000) else (2 * a + 1000) / 2000
theorem rounded_eq (a : Int) (h0 : -1000000000000 ≤ a) (h1 : a ≤ 1000000000000) : impl_rounded.f 2 a 1000 = some (rnd a) := by
  have pos : ∀ k b : Int, 0 ≤ b → b ≤ 1000000000000 → ∀ n : Nat, impl_rounded.f (n + 1) b 1000 = some ((2 * b + 1000) / 2000) := by
    intro k b hb0 hb1 n
    have e1 : wrap64 (2 * b) = 2 * b := by unfold wrap64; omega
    have e2 : wrap64 (2 * b + 1000) = 2 * b + 1000 := by unfold wrap64; omega
    have e3 : wrap64 (2 * 1000) = 2000 := by unfold wrap64; omega
    have e4 : Int.tdiv (2 * b + 1000) 2000 = (2 * b + 1000) / 2000 := Int.tdiv_eq_ediv_of_nonneg (by omega)
    have e5 : wrap64 ((2 * b + 1000) / 2000) = (2 * b + 1000) / 2000 := by unfold wrap64; omega
    have n0 : ¬ b < 0 := by omega
    simp only [impl_rounded.f, if_neg n0, e1, e2, e3, e4, e5]
    simp
  unfold rnd
  by_cases h : a < 0
  · have e1 : wrap64 (-a) = -a := by unfold wrap64; omega
    have e5 : wrap64 (-((2 * (- a) + 1000) / 2000)) = -((2 * (- a) + 1000) / 2000) := by unfold wrap64; omega
    rw [if_pos h]
    simp only [impl_rounded.f, if_pos h, e1]
    have := pos 0 (-a) (by omega) (by omega) 0
    simp only [Nat.zero_add, impl_rounded.f] at this
    simp only [this, Option.bind_some, e5]
  · rw [if_neg h]
    exact pos 0 a (by omega) h1 1
set_option maxHeartbeats 1000000 in
theorem cosine (a : Int) (w : World) (hL : Sine.Laid w) (h0 : -100000 ≤ a) (h1 : a ≤ 100000) :
    Calls Tryd.prog 120 #[.int .i64 a] w fun e w' => e = .returned (.int .i64 (Sine.f (a + 90))) ∧ Below w.heap.size w w' := by
  have b0 : -1000000 ≤ a + 90 := by omega
  have b1 : a + 90 ≤ 1000000 := by omega
  have HL := Aside0.mk hL
  clear hL
  go_enter Tryd.func120, Tryd.ntmps120
  go_wp2_with (go_at_call 121; (with_reducible refine (Sine.calls (a + 90) _ ?s1 b0 b1).mono ?_); (case s1 => exact HL.out.keep (by repeat (first | exact Below.refl _ _ | apply below_alloc | apply below_drew1))); rintro e w' ⟨rfl, hw⟩)
  go_ret
  exact ⟨rfl, by first | exact hw | exact below_step (by repeat (first | exact Below.refl _ _ | apply below_alloc | apply below_drew1)) hw⟩
def part (l a : Int) : Int × Int := (rnd (l * Sine.f (a + 90)), rnd (l * Sine.f a))
theorem prod_bound (l a : Int) (h0 : -100000 ≤ l) (h1 : l ≤ 100000) : -100000000 ≤ l * Sine.f a ∧ l * Sine.f a ≤ 100000000 := by
  have hs := Sine.f_bound a
  generalize Sine.f a = s at *
  have a1 : (l + 100000) * (1000 - s) ≥ 0 := Int.mul_nonneg (by omega) (by omega)
  have a2 : (l + 100000) * (s + 1000) ≥ 0 := Int.mul_nonneg (by omega) (by omega)
  have a3 : (100000 - l) * (1000 - s) ≥ 0 := Int.mul_nonneg (by omega) (by omega)
  have a4 : (100000 - l) * (s + 1000) ≥ 0 := Int.mul_nonneg (by omega) (by omega)
  simp only [Int.add_mul, Int.mul_add, Int.sub_mul, Int.mul_sub] at a1 a2 a3 a4
  omega
set_option maxHeartbeats 1000000 in
theorem partOf (l a : Int) (w : World) (hL : Sine.Laid w) (h0 : -100000 ≤ l) (h1 : l ≤ 100000) (h2 : -10000 ≤ a) (h3 : a ≤ 10000) :
    Calls Tryd.prog 112 #[.int .i64 l, .int .i64 a] w fun e w' => e = .returned (.tuple #[.int .i64 (part l a).1, .int .i64 (part l a).2]) ∧ Below w.heap.size w w' := by
  have b0 : -100000 ≤ a := by omega
  have b1 : a ≤ 100000 := by omega
  have b2 : -1000000 ≤ a := by omega
  have b3 : a ≤ 1000000 := by omega
  have p1 := prod_bound l (a + 90) h0 h1
  have p2 := prod_bound l a h0 h1
  have e1 : wrap64 (l * Sine.f (a + 90)) = l * Sine.f (a + 90) := by unfold wrap64; omega
  have e2 : wrap64 (l * Sine.f a) = l * Sine.f a := by unfold wrap64; omega
  have R1 := Aside0.mk (rounded_eq (l * Sine.f (a + 90)) (by omega) (by omega))
  have R2 := Aside0.mk (rounded_eq (l * Sine.f a) (by omega) (by omega))
  have HL := Aside0.mk hL
  unfold part
  clear hL p1 p2 h0 h1 h2 h3
  have HB := Aside0.mk (Below.refl w.heap.size w)
  go_enter Tryd.func112, Tryd.ntmps112
  go_wp2_with (first
    | (go_at_call 120; (with_reducible refine (cosine a _ ?s1 b0 b1).mono ?_); (case s1 => exact HL.out.keep (by repeat (first | exact HB.out | apply below_alloc | apply below_drew1))); rintro e w' ⟨rfl, hw⟩; replace HB := Aside0.mk (below_step (by repeat (first | exact HB.out | apply below_alloc | apply below_drew1)) hw); clear hw)
    | (go_at_call 121; (with_reducible refine (Sine.calls a _ ?s1 b2 b3).mono ?_); (case s1 => exact HL.out.keep (by repeat (first | exact HB.out | apply below_alloc | apply below_drew1))); rintro e w' ⟨rfl, hw⟩; replace HB := Aside0.mk (below_step (by repeat (first | exact HB.out | apply below_alloc | apply below_drew1)) hw); clear hw)
    | (go_at_call 119; (first | (with_reducible refine (impl_rounded.calls 2 _ _ _ _ R1.out).mono ?_) | (with_reducible refine (impl_rounded.calls 2 _ _ _ _ R2.out).mono ?_)); rintro e w' ⟨rfl, hq⟩; have hw := hq.below; clear hq; replace HB := Aside0.mk (below_step (by repeat (first | exact HB.out | apply below_alloc | apply below_drew1)) hw); clear hw))
  exact bodyPost_ret (v := .tuple #[.int .i64 (rnd (l * Sine.f (a + 90))), .int .i64 (rnd (l * Sine.f a))]) (by simp [results, Tryd.results112, go_sem]) rfl ⟨rfl, by repeat (first | exact HB.out | apply below_alloc | apply below_drew1)⟩
theorem mul_bound (l s b : Int) (h0 : -b ≤ l) (h1 : l ≤ b) (hs : -1000 ≤ s ∧ s ≤ 1000) : -(1000 * b) ≤ l * s ∧ l * s ≤ 1000 * b := by
  have a1 : (l + b) * (1000 - s) ≥ 0 := Int.mul_nonneg (by omega) (by omega)
  have a2 : (l + b) * (s + 1000) ≥ 0 := Int.mul_nonneg (by omega) (by omega)
  have a3 : (b - l) * (1000 - s) ≥ 0 := Int.mul_nonneg (by omega) (by omega)
  have a4 : (b - l) * (s + 1000) ≥ 0 := Int.mul_nonneg (by omega) (by omega)
  simp only [Int.add_mul, Int.mul_add, Int.sub_mul, Int.mul_sub] at a1 a2 a3 a4
  have c := Int.mul_comm b s
  omega
theorem rnd_bound (x b : Int) (h0 : -(1000 * b) ≤ x) (h1 : x ≤ 1000 * b) : -b ≤ rnd x ∧ rnd x ≤ b := by
  unfold rnd
  split <;> omega
theorem part_bound (l a b : Int) (h0 : -b ≤ l) (h1 : l ≤ b) : (-b ≤ (part l a).1 ∧ (part l a).1 ≤ b) ∧ (-b ≤ (part l a).2 ∧ (part l a).2 ≤ b) := by
  unfold part
  have h2 := mul_bound l _ b h0 h1 (Sine.f_bound (a + 90))
  have h3 := mul_bound l _ b h0 h1 (Sine.f_bound a)
  exact ⟨rnd_bound _ b h2.1 h2.2, rnd_bound _ b h3.1 h3.2⟩
/-- A leg is valid. -/
def Good (x : S56) : Prop := (0 ≤ x.f0 ∧ x.f0 < 8) ∧ (0 ≤ x.f1 ∧ x.f1 < 8) ∧ x.f0 ≠ x.f1 ∧ (1 ≤ x.f2 ∧ x.f2 ≤ 500) ∧ (0 ≤ x.f3 ∧ x.f3 ≤ 359) ∧ (-90 ≤ x.f4 ∧ x.f4 ≤ 90)
def shift (x : S56) : S34 := ⟨(part (part x.f2 x.f4).1 x.f3).2, (part (part x.f2 x.f4).1 x.f3).1, (part x.f2 x.f4).2⟩
theorem shift_bound (x : S56) (h : Good x) : (-500 ≤ (shift x).f0 ∧ (shift x).f0 ≤ 500) ∧ (-500 ≤ (shift x).f1 ∧ (shift x).f1 ≤ 500) ∧ (-500 ≤ (shift x).f2 ∧ (shift x).f2 ≤ 500) := by
  obtain ⟨_, _, _, h2, h3, h4⟩ := h
  have a := part_bound x.f2 x.f4 500 (by omega) (by omega)
  have b := part_bound (part x.f2 x.f4).1 x.f3 500 a.1.1 a.1.2
  exact ⟨b.2, b.1, a.2⟩
theorem keepz {w W : World} {a : Addr} {v : Value} (h : w.cell? a = some v) (hf : w.frozen? a = false) (hb : Below w.heap.size w W) : W.frozen? a = false := (hb.frozen (World.block_lt_of_cell? w _ h)).trans hf
def legV (x : S56) : Value := .agg #[.int .i64 x.f0, .int .i64 x.f1, .int .i64 x.f2, .int .i64 x.f3, .int .i64 x.f4]
def shV (x : S34) : Value := .agg #[.int .i64 x.f0, .int .i64 x.f1, .int .i64 x.f2]
set_option maxHeartbeats 1000000 in
theorem legShift (x : S56) (w : World) (hL : Sine.Laid w) (h : Good x) :
    Calls Tryd.prog 92 #[.agg #[.int .i64 x.f0, .int .i64 x.f1, .int .i64 x.f2, .int .i64 x.f3, .int .i64 x.f4]] w fun e w' => e = .returned (.agg #[.int .i64 (shift x).f0, .int .i64 (shift x).f1, .int .i64 (shift x).f2]) ∧ Below w.heap.size w w' := by
  obtain ⟨_, _, _, h2, h3, h4⟩ := h
  have a := part_bound x.f2 x.f4 500 (by omega) (by omega)
  have P1 := fun W hl => Aside0.mk (partOf x.f2 x.f4 W hl (by omega) (by omega) (by omega) (by omega))
  have P2 := fun W hl => Aside0.mk (partOf (part x.f2 x.f4).1 x.f3 W hl (by omega) (by omega) (by omega) (by omega))
  have HL := Aside0.mk hL
  have HB := Aside0.mk (Below.refl w.heap.size w)
  clear hL a h2 h3 h4
  unfold shift
  generalize part x.f2 x.f4 = p at *
  generalize part p.1 x.f3 = r at *
  go_enter Tryd.func92, Tryd.ntmps92
  go_wp2_with (first
    | (go_at_call 112; (first | (with_reducible refine (P1 _ ?s1).out.mono ?_) | (with_reducible refine (P2 _ ?s1).out.mono ?_)); (case s1 => exact HL.out.keep (by repeat (first | exact HB.out | apply below_alloc | apply below_drew1))); rintro e w' ⟨rfl, hw⟩; replace HB := Aside0.mk (below_step (by repeat (first | exact HB.out | apply below_alloc | apply below_drew1)) hw)
       have k2 : w'.cell? ⟨w.heap.size, 2, none⟩ = some (.int .i64 x.f2) := Sine.keepc (by first | assumption | (go_simp; done)) hw
       have k3 : w'.cell? ⟨w.heap.size, 3, none⟩ = some (.int .i64 x.f3) := Sine.keepc (by first | assumption | (go_simp; done)) hw
       have k4 : w'.cell? ⟨w.heap.size, 4, none⟩ = some (.int .i64 x.f4) := Sine.keepc (by first | assumption | (go_simp; done)) hw
       have g0 : w'.cell? ⟨w.heap.size + 1, 0, none⟩ = some (.int .i64 0) := Sine.keepc (by first | assumption | (go_simp; done)) hw
       have g1 : w'.cell? ⟨w.heap.size + 1, 1, none⟩ = some (.int .i64 0) := Sine.keepc (by first | assumption | (go_simp; done)) hw
       have g2 : w'.cell? ⟨w.heap.size + 1, 2, none⟩ = some (.int .i64 0) := Sine.keepc (by first | assumption | (go_simp; done)) hw
       have z0 : w'.frozen? ⟨w.heap.size + 1, 0, none⟩ = false := keepz (v := .int .i64 0) (by first | assumption | (go_simp; done)) (by first | assumption | (go_simp; done)) hw
       have z1 : w'.frozen? ⟨w.heap.size + 1, 1, none⟩ = false := keepz (v := .int .i64 0) (by first | assumption | (go_simp; done)) (by first | assumption | (go_simp; done)) hw
       have z2 : w'.frozen? ⟨w.heap.size + 1, 2, none⟩ = false := keepz (v := .int .i64 0) (by first | assumption | (go_simp; done)) (by first | assumption | (go_simp; done)) hw
       clear hw))
  refine bodyPost_ret (v := .agg #[.int .i64 r.2, .int .i64 r.1, .int .i64 p.2]) (by simp [results, Tryd.results92, go_sem, g0, g1, g2]) rfl ⟨rfl, by repeat (first | exact HB.out | apply below_alloc | apply below_drew1 | (refine below_set ?_ (by omega)))⟩

end Go.Proofs.YtiooiefjcbooeaaDoor.Net

/- Trees given by the order in which their vertices came: a walk that does not turn back is unique. Plain Lean, no program. -/
namespace Go.Proofs.YtiooiefjcbooeaaDoor.Tree
variable {V E : Type}

/-- The vertices of a tree: the root and the children. -/
def verts (r : V) (q : List (E × V × V)) : List V := r :: q.map (fun x => x.2.2)
def legs (q : List (E × V × V)) : List E := q.map (fun x => x.1)

/-- A tree: each child is new and hangs by a new leg from a vertex that is there. The last comer stands first. -/
inductive Tr (r : V) : List (E × V × V) → Prop
  | nil : Tr r []
  | cons {q i u s} : Tr r q → u ∈ verts r q → s ∉ verts r q → i ∉ legs q → Tr r ((i, u, s) :: q)

def Joins (q : List (E × V × V)) (i : E) (a b : V) : Prop := (i, a, b) ∈ q ∨ (i, b, a) ∈ q

/-- A walk that does not turn back. -/
inductive Walk (q : List (E × V × V)) : V → Option E → List E → V → Prop
  | nil {a o} : Walk q a o [] a
  | cons {a o i c l b} : Joins q i a c → o ≠ some i → Walk q c (some i) l b → Walk q a o (i :: l) b

/-- The walk. -/
def W [DecidableEq V] : List (E × V × V) → V → V → List E
  | [], _, _ => []
  | (i, u, s) :: q, a, b => if a = s then (if b = s then [] else i :: W q u b) else if b = s then W q a u ++ [i] else W q a b

theorem joins_verts {r : V} {q : List (E × V × V)} (t : Tr r q) {i a c} (h : Joins q i a c) : a ∈ verts r q ∧ c ∈ verts r q ∧ i ∈ legs q := by
  induction t with
  | nil => simp [Joins] at h
  | cons t hu hs hi ih =>
    simp only [Joins, List.mem_cons, Prod.mk.injEq] at h
    have up : ∀ {x : V} {q : List (E × V × V)} {y}, x ∈ verts r q → x ∈ verts r (y :: q) := by
      intro x q y hx
      simp only [verts, List.map_cons, List.mem_cons] at hx ⊢
      rcases hx with h | h
      · exact Or.inl h
      · exact Or.inr (Or.inr h)
    rcases h with (⟨rfl, rfl, rfl⟩ | h) | (⟨rfl, rfl, rfl⟩ | h)
    · exact ⟨up hu, by simp [verts], by simp [legs]⟩
    · obtain ⟨p, q', l⟩ := ih (Or.inl h)
      exact ⟨up p, up q', by simp only [legs, List.map_cons, List.mem_cons] at l ⊢; exact Or.inr l⟩
    · exact ⟨by simp [verts], up hu, by simp [legs]⟩
    · obtain ⟨p, q', l⟩ := ih (Or.inr h)
      exact ⟨up p, up q', by simp only [legs, List.map_cons, List.mem_cons] at l ⊢; exact Or.inr l⟩

theorem W_self [DecidableEq V] (q : List (E × V × V)) (a : V) : W q a a = [] := by
  induction q with
  | nil => rfl
  | cons x q ih =>
    obtain ⟨i, u, s⟩ := x
    simp only [W]
    by_cases h : a = s
    · rw [if_pos h, if_pos h]
    · rw [if_neg h, if_neg h, ih]

theorem W_len [DecidableEq V] (q : List (E × V × V)) (a b : V) : (W q a b).length ≤ q.length := by
  induction q generalizing a b with
  | nil => simp [W]
  | cons x q ih =>
    obtain ⟨i, u, s⟩ := x
    simp only [W, List.length_cons]
    split
    · split
      · simp
      · have := ih u b
        simp only [List.length_cons]; omega
    · split
      · have := ih a u
        simp only [List.length_append, List.length_cons, List.length_nil]; omega
      · have := ih a b
        omega

/-- A walk in the greater tree that starts in the smaller one stays there, or ends at the new leaf. -/
theorem stay {r : V} {q : List (E × V × V)} {i : E} {u s : V} (t : Tr r q) (hs : s ∉ verts r q) (hi : i ∉ legs q)
    {l : List E} : ∀ {a o b}, a ∈ verts r q → Walk ((i, u, s) :: q) a o l b →
      (b ≠ s ∧ b ∈ verts r q ∧ Walk q a o l b) ∨ (b = s ∧ ∃ l', l = l' ++ [i] ∧ Walk q a o l' u) := by
  induction l with
  | nil =>
    intro a o b ha h
    cases h
    exact Or.inl ⟨fun e => hs (e ▸ ha), ha, .nil⟩
  | cons j l ih =>
    intro a o b ha h
    cases h with
    | cons hj ho hw =>
      rename_i c
      simp only [Joins, List.mem_cons, Prod.mk.injEq] at hj
      have step : Joins q j a c → (b ≠ s ∧ b ∈ verts r q ∧ Walk q a o (j :: l) b) ∨ (b = s ∧ ∃ l', j :: l = l' ++ [i] ∧ Walk q a o l' u) := fun hj' => by
        have hv := joins_verts t hj'
        rcases ih hv.2.1 hw with ⟨h1, h2, h3⟩ | ⟨h1, l', h2, h3⟩
        · exact Or.inl ⟨h1, h2, .cons hj' ho h3⟩
        · exact Or.inr ⟨h1, j :: l', by rw [h2]; rfl, .cons hj' ho h3⟩
      rcases hj with (⟨rfl, rfl, rfl⟩ | hj) | (⟨rfl, rfl, rfl⟩ | hj)
      · cases hw with
        | nil => exact Or.inr ⟨rfl, [], rfl, .nil⟩
        | cons hj2 ho2 _ =>
          simp only [Joins, List.mem_cons, Prod.mk.injEq] at hj2
          rcases hj2 with (⟨rfl, _⟩ | hj2) | (⟨rfl, _⟩ | hj2)
          · exact absurd rfl ho2
          · exact absurd (joins_verts t (Or.inl hj2)).1 hs
          · exact absurd rfl ho2
          · exact absurd (joins_verts t (Or.inr hj2)).1 hs
      · exact step (Or.inl hj)
      · exact absurd ha hs
      · exact step (Or.inr hj)

theorem uniq [DecidableEq V] {r : V} {q : List (E × V × V)} (t : Tr r q) {a o l b} (ha : a ∈ verts r q) (h : Walk q a o l b) : l = W q a b := by
  induction t generalizing a o l b with
  | nil =>
    cases h with
    | nil => rfl
    | cons hj _ _ => simp [Joins] at hj
  | cons t hu hs hi ih =>
    rename_i q i u s
    by_cases e : a = s
    · subst e
      cases h with
      | nil => rw [W_self]
      | cons hj ho hw =>
        rename_i j c l
        have hj' : j = i ∧ c = u := by
          simp only [Joins, List.mem_cons, Prod.mk.injEq] at hj
          rcases hj with (⟨rfl, rfl, rfl⟩ | hj) | (⟨rfl, rfl, _⟩ | hj)
          · exact absurd hu hs
          · exact absurd (joins_verts t (Or.inl hj)).1 hs
          · exact ⟨rfl, rfl⟩
          · exact absurd (joins_verts t (Or.inr hj)).1 hs
        obtain ⟨rfl, rfl⟩ := hj'
        rcases stay t hs hi hu hw with ⟨h1, _, h3⟩ | ⟨rfl, l', h2, h3⟩
        · have := ih hu h3
          simp only [W, if_true, if_neg h1]
          rw [this]
        · have := ih hu h3
          rw [W_self] at this
          subst this
          subst h2
          cases hw with
          | cons _ ho2 _ => exact absurd rfl ho2
    · have ha' : a ∈ verts r q := by
        simp only [verts, List.map_cons, List.mem_cons] at ha ⊢
        rcases ha with h | h | h
        · exact Or.inl h
        · exact absurd h e
        · exact Or.inr h
      rcases stay t hs hi ha' h with ⟨h1, _, h3⟩ | ⟨rfl, l', h2, h3⟩
      · rw [ih ha' h3]
        simp only [W, if_neg e, if_neg h1]
      · rw [h2, ih ha' h3]
        simp only [W, if_neg e, if_true]

theorem Walk.weak {q : List (E × V × V)} {a o l b} (h : Walk q a o l b) (o' : Option E) (ho : ∀ i ∈ o', i ∉ l.head?) : Walk q a o' l b := by
  cases h with
  | nil => exact .nil
  | cons hj _ hw =>
    refine .cons hj ?_ hw
    intro e
    subst e
    exact ho _ rfl (by simp)

theorem Walk.legs_mem {r : V} {q : List (E × V × V)} (t : Tr r q) {a o l b} (h : Walk q a o l b) : ∀ j ∈ l, j ∈ legs q := by
  induction h with
  | nil => simp
  | cons hj _ _ ih =>
    intro j hm
    rcases List.mem_cons.mp hm with rfl | hm
    · exact (joins_verts t hj).2.2
    · exact ih j hm

theorem Walk.lift {q : List (E × V × V)} (x : E × V × V) {a o l b} (h : Walk q a o l b) : Walk (x :: q) a o l b := by
  induction h with
  | nil => exact .nil
  | cons hj ho _ ih =>
    refine .cons ?_ ho ih
    rcases hj with hj | hj
    · exact Or.inl (List.mem_cons_of_mem _ hj)
    · exact Or.inr (List.mem_cons_of_mem _ hj)

theorem Walk.snoc {q : List (E × V × V)} {i : E} {a o l u s} (h : Walk q a o l u) (hj : Joins q i u s) (hi : i ∉ l) (ho : o ≠ some i) : Walk q a o (l ++ [i]) s := by
  induction h with
  | nil => exact .cons hj ho .nil
  | cons hj1 ho1 _ ih =>
    exact .cons hj1 ho1 (ih hj (fun h => hi (List.mem_cons_of_mem _ h)) (fun e => hi (by injection e with e; rw [e]; exact List.mem_cons_self)))

theorem walk_W [DecidableEq V] {r : V} {q : List (E × V × V)} (t : Tr r q) {a b} (ha : a ∈ verts r q) (hb : b ∈ verts r q) : Walk q a none (W q a b) b := by
  induction t generalizing a b with
  | nil =>
    simp only [verts, List.map_nil, List.mem_cons, List.not_mem_nil, or_false] at ha hb
    subst ha; subst hb
    exact .nil
  | cons t hu hs hi ih =>
    rename_i q i u s
    have down : ∀ {x}, x ∈ verts r ((i, u, s) :: q) → x ≠ s → x ∈ verts r q := by
      intro x hx e
      simp only [verts, List.map_cons, List.mem_cons] at hx ⊢
      rcases hx with h | h | h
      · exact Or.inl h
      · exact absurd h e
      · exact Or.inr h
    simp only [W]
    by_cases e : a = s
    · subst e
      by_cases e2 : b = a
      · subst e2
        rw [if_pos rfl, if_pos rfl]
        exact .nil
      · rw [if_pos rfl, if_neg e2]
        have h := ih hu (down hb e2)
        refine .cons (Or.inr (List.mem_cons_self)) (by simp) ((h.weak (some i) ?_).lift _)
        intro j hj hm
        cases hj
        exact hi (h.legs_mem t _ (List.mem_of_mem_head? hm))
    · by_cases e2 : b = s
      · subst e2
        rw [if_neg e, if_pos rfl]
        have h := ih (down ha e) hu
        exact (h.lift _).snoc (Or.inl List.mem_cons_self) (fun hm => hi (h.legs_mem t _ hm)) (by simp)
      · rw [if_neg e, if_neg e2]
        exact (ih (down ha e) (down hb e2)).lift _

end Go.Proofs.YtiooiefjcbooeaaDoor.Tree

/- Connection by steps; a step that can be gone round is not needed. Plain Lean, no program. -/
namespace Go.Proofs.YtiooiefjcbooeaaDoor.Conn
variable {V : Type}

inductive Conn (R : V → V → Prop) (x : V) : V → Prop
  | refl : Conn R x x
  | step {y z} : Conn R x y → R y z → Conn R x z

theorem Conn.one {R : V → V → Prop} {x y : V} (h : R x y) : Conn R x y := .step .refl h

theorem Conn.trans {R : V → V → Prop} {x y z : V} (h : Conn R x y) (h' : Conn R y z) : Conn R x z := by
  induction h' with
  | refl => exact h
  | step _ r ih => exact .step ih r

theorem Conn.symm {R : V → V → Prop} (hs : ∀ a b, R a b → R b a) {x y : V} (h : Conn R x y) : Conn R y x := by
  induction h with
  | refl => exact .refl
  | step _ r ih => exact (Conn.one (hs _ _ r)).trans ih

theorem Conn.closed {R : V → V → Prop} {S : V → Prop} (hc : ∀ a b, S a → R a b → S b) {x y : V} (hx : S x) (h : Conn R x y) : S y := by
  induction h with
  | refl => exact hx
  | step _ r ih => exact hc _ _ ih r

theorem Conn.map {R Q : V → V → Prop} (hr : ∀ a b, R a b → Conn Q a b) {x y : V} (h : Conn R x y) : Conn Q x y := by
  induction h with
  | refl => exact .refl
  | step _ r ih => exact ih.trans (hr _ _ r)

/-- A leg between a and b that is reached from o is gone round just where o reaches both of its ends without it. -/
theorem round {R Q : V → V → Prop} (hs : ∀ a b, Q a b → Q b a) {a b o : V} (hr : ∀ x y, R x y → Q x y ∨ (x = a ∧ y = b) ∨ (x = b ∧ y = a))
    (ho : Conn R o a) : Conn Q a b ↔ (Conn Q o a ∧ Conn Q o b) := by
  constructor
  · intro h
    have up : Conn Q o a := ho.map (fun x y r => by
      rcases hr x y r with q | ⟨rfl, rfl⟩ | ⟨rfl, rfl⟩
      · exact .one q
      · exact h
      · exact h.symm hs)
    exact ⟨up, up.trans h⟩
  · rintro ⟨h1, h2⟩
    exact (h1.symm hs).trans h2

end Go.Proofs.YtiooiefjcbooeaaDoor.Conn

/- The growth of the placed stations: rounds over the legs until nothing is placed any more. Plain Lean, no program. -/
namespace Go.Proofs.YtiooiefjcbooeaaDoor.Grow
open Go.Proofs.YtiooiefjcbooeaaDoor.Tree Go.Proofs.YtiooiefjcbooeaaDoor.Conn

abbrev Q := List (Int × Int × Int)
variable (e : Int → Int × Int)

def step (q : Q) (i : Int) : Q :=
  if (e i).1 ∈ verts 0 q ∧ (e i).2 ∉ verts 0 q then (i, (e i).1, (e i).2) :: q
  else if (e i).2 ∈ verts 0 q ∧ (e i).1 ∉ verts 0 q then (i, (e i).2, (e i).1) :: q
  else q

/-- One round over the legs a, a+1, .. (m of them). -/
def sweep : Nat → Int → Q → Q
  | 0, _, q => q
  | m + 1, a, q => sweep m (a + 1) (step e q a)

def grow (n : Nat) : Nat → Q → Q
  | 0, q => q
  | k + 1, q => if (sweep e n 0 q).length = q.length then q else grow n k (sweep e n 0 q)

/-- What holds all along. -/
structure Ok (n : Nat) (q : Q) : Prop where
  tr : Tr (0 : Int) q
  ends : ∀ x ∈ q, (e x.1 = (x.2.1, x.2.2) ∨ e x.1 = (x.2.2, x.2.1)) ∧ 0 ≤ x.1 ∧ x.1 < n

theorem Ok.nil (n : Nat) : Ok e n [] := ⟨.nil, by simp⟩

theorem verts_mono {r : Int} {q : Q} {x s} (h : s ∈ verts r q) : s ∈ verts r (x :: q) := by
  simp only [verts, List.map_cons, List.mem_cons] at h ⊢
  rcases h with h | h
  · exact Or.inl h
  · exact Or.inr (Or.inr h)

theorem mem_child {r : Int} {q : Q} {x} (h : x ∈ q) : x.2.2 ∈ verts r q := by
  simp only [verts, List.mem_cons, List.mem_map]
  exact Or.inr ⟨x, h, rfl⟩

theorem Ok.legs_ends {n : Nat} {q : Q} (h : Ok e n q) {i} (hi : i ∈ legs q) : (e i).1 ∈ verts 0 q ∧ (e i).2 ∈ verts 0 q ∧ Joins q i (e i).1 (e i).2 ∧ 0 ≤ i ∧ i < n := by
  simp only [legs, List.mem_map] at hi
  obtain ⟨⟨j, u, s⟩, hx, rfl⟩ := hi
  obtain ⟨he, h0⟩ := h.ends _ hx
  have hj : Joins q j u s := Or.inl hx
  have hv := joins_verts h.tr hj
  simp only at he h0 ⊢
  rcases he with he | he <;> rw [he]
  · exact ⟨hv.1, hv.2.1, hj, h0⟩
  · exact ⟨hv.2.1, hv.1, Or.inr hx, h0⟩

theorem Ok.step {n : Nat} {q : Q} (h : Ok e n q) {i : Int} (h0 : 0 ≤ i) (h1 : i < n) : Ok e n (step e q i) := by
  unfold Grow.step
  split
  · rename_i c
    refine ⟨.cons h.tr c.1 c.2 (fun hi => c.2 (h.legs_ends e hi).2.1), ?_⟩
    intro x hx
    rcases List.mem_cons.mp hx with rfl | hx
    · exact ⟨Or.inl rfl, h0, h1⟩
    · exact h.ends x hx
  · split
    · rename_i c
      refine ⟨.cons h.tr c.1 c.2 (fun hi => c.2 (h.legs_ends e hi).1), ?_⟩
      intro x hx
      rcases List.mem_cons.mp hx with rfl | hx
      · exact ⟨Or.inr rfl, h0, h1⟩
      · exact h.ends x hx
    · exact h

theorem Ok.sweep {n : Nat} : ∀ {m : Nat} {a : Int} {q : Q}, Ok e n q → 0 ≤ a → a + m ≤ n → Ok e n (sweep e m a q)
  | 0, _, _, h, _, _ => h
  | m + 1, a, _, h, h0, h1 => Ok.sweep (m := m) (h.step e h0 (by omega)) (by omega) (by omega)

theorem step_len (q : Q) (i : Int) : q.length ≤ (step e q i).length := by
  unfold step
  split
  · simp
  · split <;> simp

theorem sweep_len : ∀ (m : Nat) (a : Int) (q : Q), q.length ≤ (sweep e m a q).length
  | 0, _, _ => Nat.le_refl _
  | m + 1, a, q => Nat.le_trans (step_len e q a) (sweep_len m (a + 1) (step e q a))

theorem step_same {q : Q} {i : Int} (h : (step e q i).length = q.length) : step e q i = q ∧ ((e i).1 ∈ verts 0 q ↔ (e i).2 ∈ verts 0 q) := by
  unfold step at h ⊢
  split at h
  · simp at h
  · rename_i c
    split at h
    · simp at h
    · rename_i c2
      rw [if_neg c, if_neg c2]
      refine ⟨rfl, ?_⟩
      by_cases p : (e i).1 ∈ verts 0 q <;> by_cases p2 : (e i).2 ∈ verts 0 q <;> simp_all

theorem sweep_same : ∀ {m : Nat} {a : Int} {q : Q}, (sweep e m a q).length = q.length →
    sweep e m a q = q ∧ ∀ i : Int, a ≤ i → i < a + m → ((e i).1 ∈ verts 0 q ↔ (e i).2 ∈ verts 0 q)
  | 0, a, q, _ => ⟨rfl, fun i h0 h1 => by omega⟩
  | m + 1, a, q, h => by
    have l1 := step_len e q a
    have l2 := sweep_len e m (a + 1) (step e q a)
    simp only [sweep] at h ⊢
    obtain ⟨s1, s2⟩ := step_same e (q := q) (i := a) (by omega)
    rw [s1] at h ⊢
    obtain ⟨t1, t2⟩ := sweep_same (m := m) (a := a + 1) h
    refine ⟨t1, fun i h0 h1 => ?_⟩
    by_cases hi : i = a
    · subst hi; exact s2
    · exact t2 i (by omega) (by omega)

theorem nodup {q : Q} (t : Tr (0 : Int) q) : (verts 0 q).Nodup := by
  induction t with
  | nil => simp [verts]
  | cons _ _ hs _ ih =>
    simp only [verts, List.map_cons, List.nodup_cons, List.mem_cons, not_or] at ih hs ⊢
    exact ⟨⟨fun h => hs.1 h.symm, ih.1⟩, hs.2, ih.2⟩

theorem in_range {n : Nat} {q : Q} (h : Ok e n q) (hr : ∀ i : Int, 0 ≤ i → i < n → 0 ≤ (e i).1 ∧ (e i).1 < 8 ∧ 0 ≤ (e i).2 ∧ (e i).2 < 8) : ∀ s ∈ verts 0 q, 0 ≤ s ∧ s < 8 := by
  intro s hs
  simp only [verts, List.mem_cons, List.mem_map] at hs
  rcases hs with rfl | ⟨x, hx, rfl⟩
  · omega
  · obtain ⟨he, h0, h1⟩ := h.ends x hx
    have := hr _ h0 h1
    rcases he with he | he <;> rw [he] at this <;> simp only at this <;> omega

theorem nodup_len : ∀ {m : Nat} {l : List Int}, l.Nodup → (∀ s ∈ l, 0 ≤ s ∧ s < m) → l.length ≤ m
  | 0, l, _, h => by
    cases l with
    | nil => simp
    | cons a l => have := h a List.mem_cons_self; omega
  | m + 1, l, hn, h => by
    by_cases hm : (m : Int) ∈ l
    · have := nodup_len (m := m) (l := l.erase m) (hn.erase _) (fun s hs => by
        have h1 := h s (List.mem_of_mem_erase hs)
        have h2 : s ≠ m := fun e => by subst e; exact (List.Nodup.not_mem_erase hn) hs
        omega)
      rw [List.length_erase_of_mem hm] at this
      omega
    · have := nodup_len (m := m) (l := l) hn (fun s hs => by
        have h1 := h s hs
        have h2 : s ≠ m := fun e => hm (e ▸ hs)
        omega)
      omega

theorem Ok.len {n : Nat} {q : Q} (h : Ok e n q) (hr : ∀ i : Int, 0 ≤ i → i < n → 0 ≤ (e i).1 ∧ (e i).1 < 8 ∧ 0 ≤ (e i).2 ∧ (e i).2 < 8) : q.length ≤ 7 := by
  have := nodup_len (m := 8) (nodup h.tr) (in_range e h hr)
  simp only [verts, List.length_cons, List.length_map] at this
  omega

/-- The growth ends: what it leaves is sound and closed. -/
theorem grow_end {n : Nat} (hr : ∀ i : Int, 0 ≤ i → i < n → 0 ≤ (e i).1 ∧ (e i).1 < 8 ∧ 0 ≤ (e i).2 ∧ (e i).2 < 8) :
    ∀ (k : Nat) (q : Q), Ok e n q → 8 ≤ k + q.length → Ok e n (grow e n k q) ∧ sweep e n 0 (grow e n k q) = grow e n k q ∧
      ∀ i : Int, 0 ≤ i → i < n → ((e i).1 ∈ verts 0 (grow e n k q) ↔ (e i).2 ∈ verts 0 (grow e n k q))
  | 0, q, h, hk => by have := h.len e hr; omega
  | k + 1, q, h, hk => by
    simp only [grow]
    have hs : Ok e n (sweep e n 0 q) := h.sweep e (by omega) (by omega)
    split
    · rename_i c
      obtain ⟨s1, s2⟩ := sweep_same e c
      exact ⟨h, s1, fun i h0 h1 => s2 i h0 (by omega)⟩
    · rename_i c
      have := sweep_len e n 0 q
      exact grow_end hr k _ hs (by omega)

/-- The stations that the growth reaches are those that are connected to station 0. -/
def Rel (n : Nat) (a b : Int) : Prop := ∃ i : Int, 0 ≤ i ∧ i < n ∧ (e i = (a, b) ∨ e i = (b, a))

theorem Ok.conn {n : Nat} {q : Q} (h : Ok e n q) : ∀ s ∈ verts 0 q, Conn (Rel e n) 0 s := by
  obtain ⟨t, hx⟩ := h
  induction t with
  | nil => intro s hs; simp [verts] at hs; subst hs; exact .refl
  | cons t hu hs hi ih =>
    rename_i q i u s
    intro x hm
    simp only [verts, List.map_cons, List.mem_cons] at hm
    have ih' := ih (fun x h => hx x (List.mem_cons_of_mem _ h))
    rcases hm with rfl | rfl | hm
    · exact .refl
    · obtain ⟨he, h0, h1⟩ := hx (i, u, x) List.mem_cons_self
      exact (ih' u hu).step ⟨i, h0, h1, he⟩
    · exact ih' x (by simp only [verts, List.mem_cons]; exact Or.inr hm)

theorem verts_iff {n : Nat} {q : Q} (h : Ok e n q) (hc : ∀ i : Int, 0 ≤ i → i < n → ((e i).1 ∈ verts 0 q ↔ (e i).2 ∈ verts 0 q)) (s : Int) :
    s ∈ verts 0 q ↔ Conn (Rel e n) 0 s := by
  refine ⟨h.conn e s, fun hs => hs.closed ?_ (by simp [verts])⟩
  rintro a b ha ⟨i, h0, h1, he⟩
  have := hc i h0 h1
  rcases he with he | he <;> rw [he] at this
  · exact this.mp ha
  · exact this.mpr ha

end Go.Proofs.YtiooiefjcbooeaaDoor.Grow

/- The search for a way: the stations in the order in which they are found make a tree. Plain Lean, no program. -/
namespace Go.Proofs.YtiooiefjcbooeaaDoor.Bfs
open Go.Proofs.YtiooiefjcbooeaaDoor.Tree Go.Proofs.YtiooiefjcbooeaaDoor.Conn Go.Proofs.YtiooiefjcbooeaaDoor.Grow

variable (e : Int → Int × Int) (use : Int → Bool) (r : Int)

def other (i a : Int) : Int := (e i).1 + (e i).2 - a

def look (a : Int) (q : Q) (i : Int) : Q :=
  if ((e i).1 ≠ a ∧ (e i).2 ≠ a) ∨ use i = false then q
  else if other e i a ∈ verts r q then q else (i, a, other e i a) :: q

def scan (a : Int) : Nat → Int → Q → Q
  | 0, _, q => q
  | m + 1, b, q => scan a m (b + 1) (look e use r a q b)

def queue (q : Q) : List Int := r :: (q.map (fun x => x.2.2)).reverse

def run (n : Nat) : Nat → Nat → Q → Q
  | 0, _, q => q
  | f + 1, k, q => if k < (queue r q).length then run n f (k + 1) (scan e use r ((queue r q).getD k 0) n 0 q) else q

structure Ok (n : Nat) (q : Q) : Prop where
  tr : Tr r q
  ends : ∀ x ∈ q, (e x.1 = (x.2.1, x.2.2) ∨ e x.1 = (x.2.2, x.2.1)) ∧ (0 ≤ x.1 ∧ x.1 < n) ∧ use x.1 = true

theorem Ok.nil (n : Nat) : Ok e use r n [] := ⟨.nil, by simp⟩

theorem mem_queue (q : Q) (s : Int) : s ∈ queue r q ↔ s ∈ verts r q := by simp [queue, verts]

theorem look_cases {a i : Int} (h : ¬ (((e i).1 ≠ a ∧ (e i).2 ≠ a) ∨ use i = false)) :
    use i = true ∧ (e i = (a, other e i a) ∨ e i = (other e i a, a)) := by
  have hu : use i = true := by
    cases hb : use i
    · exact absurd (Or.inr hb) h
    · rfl
  refine ⟨hu, ?_⟩
  by_cases h1 : (e i).1 = a
  · left
    ext
    · exact h1
    · simp only [other]; omega
  · by_cases h2 : (e i).2 = a
    · right
      ext
      · simp only [other]; omega
      · exact h2
    · exact absurd (Or.inl ⟨h1, h2⟩) h

theorem Ok.legs_ends {n : Nat} {q : Q} (h : Ok e use r n q) {i} (hi : i ∈ legs q) : (e i).1 ∈ verts r q ∧ (e i).2 ∈ verts r q := by
  simp only [legs, List.mem_map] at hi
  obtain ⟨⟨j, u, s⟩, hx, rfl⟩ := hi
  obtain ⟨he, h0⟩ := h.ends _ hx
  have hj : Joins q j u s := Or.inl hx
  have hv := joins_verts h.tr hj
  simp only at he h0 ⊢
  rcases he with he | he <;> rw [he]
  · exact ⟨hv.1, hv.2.1⟩
  · exact ⟨hv.2.1, hv.1⟩

theorem Ok.look {n : Nat} {q : Q} (h : Ok e use r n q) {a i : Int} (ha : a ∈ verts r q) (h0 : 0 ≤ i) (h1 : i < n) : Ok e use r n (look e use r a q i) := by
  unfold Bfs.look
  split
  · exact h
  · rename_i c
    obtain ⟨hu, he⟩ := look_cases e use c
    split
    · exact h
    · rename_i c2
      refine ⟨.cons h.tr ha c2 (fun hi => ?_), ?_⟩
      · have := h.legs_ends e use r hi
        rcases he with he | he <;> rw [he] at this
        · exact c2 this.2
        · exact c2 this.1
      · intro x hx
        rcases List.mem_cons.mp hx with rfl | hx
        · exact ⟨he, ⟨h0, h1⟩, hu⟩
        · exact h.ends x hx

/-- A later state has the earlier one as its tail. -/
def Ext (q q' : Q) : Prop := ∃ p, q' = p ++ q

theorem Ext.refl (q : Q) : Ext q q := ⟨[], rfl⟩
theorem Ext.trans {a b c : Q} (h : Ext a b) (h' : Ext b c) : Ext a c := by
  obtain ⟨p, rfl⟩ := h; obtain ⟨p', rfl⟩ := h'; exact ⟨p' ++ p, by rw [List.append_assoc]⟩

theorem look_ext (a : Int) (q : Q) (i : Int) : Ext q (look e use r a q i) := by
  unfold look
  split
  · exact .refl q
  · split
    · exact .refl q
    · exact ⟨[_], rfl⟩

theorem scan_ext (a : Int) : ∀ (m : Nat) (b : Int) (q : Q), Ext q (scan e use r a m b q)
  | 0, _, q => .refl q
  | m + 1, b, q => (look_ext e use r a q b).trans (scan_ext a m (b + 1) _)

theorem Ext.verts {q q' : Q} (h : Ext q q') {s : Int} (hs : s ∈ Tree.verts r q) : s ∈ Tree.verts r q' := by
  obtain ⟨p, rfl⟩ := h
  simp only [Tree.verts, List.map_append, List.mem_cons, List.mem_append] at hs ⊢
  rcases hs with h | h
  · exact Or.inl h
  · exact Or.inr (Or.inr h)

theorem Ext.queue {q q' : Q} (h : Ext q q') : ∃ t, Bfs.queue r q' = Bfs.queue r q ++ t := by
  obtain ⟨p, rfl⟩ := h
  exact ⟨(p.map (fun x => x.2.2)).reverse, by simp [Bfs.queue]⟩

theorem Ext.queue_getD {q q' : Q} (h : Ext q q') {k : Nat} (hk : k < (Bfs.queue r q).length) : (Bfs.queue r q').getD k 0 = (Bfs.queue r q).getD k 0 := by
  obtain ⟨t, ht⟩ := h.queue r
  rw [ht]
  simp [List.getD_eq_getElem?_getD, List.getElem?_append_left hk]

theorem scan_ok {n : Nat} {a : Int} : ∀ {m : Nat} {b : Int} {q : Q}, Ok e use r n q → a ∈ verts r q → 0 ≤ b → b + m ≤ n → Ok e use r n (scan e use r a m b q)
  | 0, _, _, h, _, _, _ => h
  | m + 1, b, q, h, ha, h0, h1 => scan_ok (m := m) (h.look e use r ha h0 (by omega)) ((look_ext e use r a q b).verts r ha) (by omega) (by omega)

/-- After the scan every leg that may be used from a leads to a found station. -/
theorem scan_done {a : Int} : ∀ {m : Nat} {b : Int} {q : Q} (i c : Int), b ≤ i → i < b + m → use i = true → (e i = (a, c) ∨ e i = (c, a)) → c ∈ verts r (scan e use r a m b q)
  | 0, _, _, i, c, h0, h1, _, _ => by omega
  | m + 1, b, q, i, c, h0, h1, hu, he => by
    simp only [scan]
    by_cases hi : i = b
    · subst hi
      refine (scan_ext e use r a m (i + 1) _).verts r ?_
      have hc : other e i a = c := by
        simp only [other]
        rcases he with he | he <;> rw [he] <;> simp only <;> omega
      unfold look
      split
      · rename_i h
        rcases h with ⟨x, y⟩ | h
        · rcases he with he | he <;> rw [he] at x y
          · exact absurd rfl x
          · exact absurd rfl y
        · rw [hu] at h; cases h
      · rw [hc]
        split
        · assumption
        · simp [verts]
    · exact scan_done (m := m) i c (by omega) (by omega) hu he

def Done (n : Nat) (k : Nat) (q : Q) : Prop := ∀ j, j < k → j < (queue r q).length → ∀ i c : Int, 0 ≤ i → i < n → use i = true →
  (e i = ((queue r q).getD j 0, c) ∨ e i = (c, (queue r q).getD j 0)) → c ∈ verts r q

theorem nodup {q : Q} (t : Tr r q) : (verts r q).Nodup := by
  induction t with
  | nil => simp [verts]
  | cons _ _ hs _ ih =>
    simp only [verts, List.map_cons, List.nodup_cons, List.mem_cons, not_or] at ih hs ⊢
    exact ⟨⟨fun h => hs.1 h.symm, ih.1⟩, hs.2, ih.2⟩

theorem Ok.len {n : Nat} {q : Q} (h : Ok e use r n q) (h0 : 0 ≤ r ∧ r < 8) (hr : ∀ i : Int, 0 ≤ i → i < n → 0 ≤ (e i).1 ∧ (e i).1 < 8 ∧ 0 ≤ (e i).2 ∧ (e i).2 < 8) : q.length ≤ 7 := by
  have := nodup_len (m := 8) (nodup r h.tr) (by
    intro s hs
    simp only [verts, List.mem_cons, List.mem_map] at hs
    rcases hs with rfl | ⟨x, hx, rfl⟩
    · exact h0
    · obtain ⟨he, ⟨h0, h1⟩, _⟩ := h.ends x hx
      have := hr _ h0 h1
      rcases he with he | he <;> rw [he] at this <;> simp only at this <;> omega)
  simp only [verts, List.length_cons, List.length_map] at this
  omega

theorem queue_len (q : Q) : (queue r q).length = q.length + 1 := by simp [queue]

theorem run_end {n : Nat} (h0 : 0 ≤ r ∧ r < 8) (hr : ∀ i : Int, 0 ≤ i → i < n → 0 ≤ (e i).1 ∧ (e i).1 < 8 ∧ 0 ≤ (e i).2 ∧ (e i).2 < 8) :
    ∀ (f k : Nat) (q : Q), Ok e use r n q → Done e use r n k q → 8 < f + k → k ≤ (queue r q).length →
      Ok e use r n (run e use r n f k q) ∧ ∀ a ∈ verts r (run e use r n f k q), ∀ i c : Int, 0 ≤ i → i < n → use i = true → (e i = (a, c) ∨ e i = (c, a)) → c ∈ verts r (run e use r n f k q)
  | 0, k, q, h, hd, hk, hl => by
    have := h.len e use r h0 hr
    have := queue_len r q
    omega
  | f + 1, k, q, h, hd, hk, hl => by
    simp only [run]
    split
    · rename_i c
      have ha : (queue r q).getD k 0 ∈ verts r q := by
        rw [← mem_queue]
        rw [List.getD_eq_getElem?_getD, List.getElem?_eq_getElem c]
        exact List.getElem_mem c
      have hx := scan_ext e use r ((queue r q).getD k 0) n 0 q
      have hq := hx.queue r
      refine run_end h0 hr f (k + 1) _ (scan_ok e use r h ha (by omega) (by omega)) ?_ (by omega) ?_
      · intro j hj hj' i d hi0 hi1 hu he
        have hjl : j < (queue r q).length := by omega
        rw [hx.queue_getD r hjl] at he
        by_cases hjk : j = k
        · subst hjk
          exact scan_done e use r i d hi0 (by omega) hu he
        · exact hx.verts r (hd j (by omega) hjl i d hi0 hi1 hu he)
      · obtain ⟨t, ht⟩ := hq
        rw [ht, List.length_append]; omega
    · rename_i c
      refine ⟨h, ?_⟩
      intro a ha i d hi0 hi1 hu he
      rw [← mem_queue] at ha
      obtain ⟨j, hj, hja⟩ := List.getElem_of_mem ha
      refine hd j (by omega) hj i d hi0 hi1 hu ?_
      rw [List.getD_eq_getElem?_getD, List.getElem?_eq_getElem hj, hja]
      exact he

def RelU (n : Nat) (a b : Int) : Prop := ∃ i : Int, 0 ≤ i ∧ i < n ∧ use i = true ∧ (e i = (a, b) ∨ e i = (b, a))

theorem Ok.conn {n : Nat} {q : Q} (h : Ok e use r n q) : ∀ s ∈ verts r q, Conn (RelU e use n) r s := by
  obtain ⟨t, hx⟩ := h
  induction t with
  | nil => intro s hs; simp [verts] at hs; subst hs; exact .refl
  | cons t hu hs hi ih =>
    rename_i q i u s
    intro x hm
    simp only [verts, List.map_cons, List.mem_cons] at hm
    have ih' := ih (fun x h => hx x (List.mem_cons_of_mem _ h))
    rcases hm with rfl | rfl | hm
    · exact .refl
    · obtain ⟨he, ⟨h0, h1⟩, hu'⟩ := hx (i, u, x) List.mem_cons_self
      exact (ih' u hu).step ⟨i, h0, h1, hu', he⟩
    · exact ih' x (by simp only [verts, List.mem_cons]; exact Or.inr hm)

/-- The search finds just the stations that are connected to its start. -/
theorem found_iff {n : Nat} (h0 : 0 ≤ r ∧ r < 8) (hr : ∀ i : Int, 0 ≤ i → i < n → 0 ≤ (e i).1 ∧ (e i).1 < 8 ∧ 0 ≤ (e i).2 ∧ (e i).2 < 8) (s : Int) :
    s ∈ verts r (run e use r n 9 0 []) ↔ Conn (RelU e use n) r s := by
  obtain ⟨h1, h2⟩ := run_end e use r h0 hr 9 0 [] (Ok.nil e use r n) (by intro j hj; omega) (by omega) (by omega)
  refine ⟨h1.conn e use r s, fun hs => hs.closed ?_ (by simp [verts])⟩
  rintro a b ha ⟨i, hi0, hi1, hu, he⟩
  exact h2 a ha i b hi0 hi1 hu he

/-- The way back from a found station. -/
def back : Q → Int → List Int
  | [], _ => []
  | (i, u, s) :: q, a => if a = s then i :: back q u else back q a

theorem back_eq {q : Q} (t : Tr r q) : ∀ {a}, a ∈ verts r q → back q a = W q a r := by
  induction t with
  | nil => intro a _; rfl
  | cons t hu hs hi ih =>
    rename_i q i u s
    intro a ha
    have hr : ¬ r = s := fun e => hs (by simp [verts, e])
    simp only [back, W]
    by_cases c : a = s
    · rw [if_pos c, if_pos c, if_neg hr, ih hu]
    · rw [if_neg c, if_neg c, if_neg hr]
      refine ih ?_
      simp only [verts, List.map_cons, List.mem_cons] at ha ⊢
      rcases ha with h | h | h
      · exact Or.inl h
      · exact absurd h c
      · exact Or.inr h

end Go.Proofs.YtiooiefjcbooeaaDoor.Bfs

/- The way over tree legs, found by the search, is the one way of the tree. Plain Lean, no program. -/
namespace Go.Proofs.YtiooiefjcbooeaaDoor.Way
open Go.Proofs.YtiooiefjcbooeaaDoor.Tree Go.Proofs.YtiooiefjcbooeaaDoor.Conn Go.Proofs.YtiooiefjcbooeaaDoor.Grow

theorem Walk.map {q q' : Q} (hj : ∀ i a b, Joins q i a b → Joins q' i a b) {a : Int} {o : Option Int} {l : List Int} {b : Int} (h : Walk q a o l b) : Walk q' a o l b := by
  induction h with
  | nil => exact .nil
  | cons h1 h2 _ ih => exact .cons (hj _ _ _ h1) h2 ih

theorem W_rev (q : Q) : ∀ a b : Int, W q b a = (W q a b).reverse := by
  induction q with
  | nil => intro a b; rfl
  | cons x q ih =>
    obtain ⟨i, u, s⟩ := x
    intro a b
    simp only [W]
    by_cases ha : a = s <;> by_cases hb : b = s
    · simp [ha, hb]
    · simp [ha, hb, ih u b]
    · simp [ha, hb, ih a u]
    · simp [ha, hb, ih a b]

variable (e : Int → Int × Int)

theorem conn_tree {n : Nat} {q : Q} (h : Grow.Ok e n q) : ∀ s ∈ verts 0 q, Conn (Bfs.RelU e (fun i => decide (i ∈ legs q)) n) 0 s := by
  obtain ⟨t, hx⟩ := h
  have key : ∀ p : Q, (∀ x ∈ p, x ∈ q) → Tr 0 p → ∀ s ∈ verts 0 p, Conn (Bfs.RelU e (fun i => decide (i ∈ legs q)) n) 0 s := by
    intro p hp t
    induction t with
    | nil => intro s hs; simp [verts] at hs; subst hs; exact .refl
    | cons t hu hs hi ih =>
      rename_i p i u s
      intro x hm
      simp only [verts, List.map_cons, List.mem_cons] at hm
      have ih' := ih (fun x h => hp x (List.mem_cons_of_mem _ h))
      rcases hm with rfl | rfl | hm
      · exact .refl
      · have hm := hp (i, u, x) List.mem_cons_self
        obtain ⟨he, h0, h1⟩ := hx _ hm
        exact (ih' u hu).step ⟨i, h0, h1, decide_eq_true (List.mem_map.mpr ⟨_, hm, rfl⟩), he⟩
      · exact ih' x (by simp only [verts, List.mem_cons]; exact Or.inr hm)
  exact key q (fun _ h => h) t

theorem relU_symm {use : Int → Bool} {n : Nat} (a b : Int) (h : Bfs.RelU e use n a b) : Bfs.RelU e use n b a := by
  obtain ⟨i, h0, h1, hu, he⟩ := h
  exact ⟨i, h0, h1, hu, he.symm⟩

/-- The search over the tree legs from r finds every placed station, and its way back is the tree's way. -/
theorem found {n : Nat} {q : Q} (h : Grow.Ok e n q) (hr : ∀ i : Int, 0 ≤ i → i < n → 0 ≤ (e i).1 ∧ (e i).1 < 8 ∧ 0 ≤ (e i).2 ∧ (e i).2 < 8)
    {r s : Int} (hr0 : r ∈ verts 0 q) (hs : s ∈ verts 0 q) :
    s ∈ verts r (Bfs.run e (fun i => decide (i ∈ legs q)) r n 9 0 []) ∧
      Bfs.back (Bfs.run e (fun i => decide (i ∈ legs q)) r n 9 0 []) s = W q s r := by
  have h8 := in_range e h hr r hr0
  have hf : s ∈ verts r (Bfs.run e (fun i => decide (i ∈ legs q)) r n 9 0 []) := by
    rw [Bfs.found_iff e _ r h8 hr]
    exact ((conn_tree e h r hr0).symm (relU_symm e)).trans (conn_tree e h s hs)
  refine ⟨hf, ?_⟩
  obtain ⟨ok, _⟩ := Bfs.run_end e (fun i => decide (i ∈ legs q)) r h8 hr 9 0 [] (Bfs.Ok.nil e _ r n) (by intro j hj; omega) (by omega) (by omega)
  rw [Bfs.back_eq r ok.tr hf]
  refine uniq h.tr hs (Walk.map ?_ (walk_W ok.tr hf (by simp [verts])))
  intro i a b hj
  have hx : ∀ x ∈ Bfs.run e (fun i => decide (i ∈ legs q)) r n 9 0 [], Joins q x.1 x.2.1 x.2.2 := by
    intro x hx
    obtain ⟨he, _, hu⟩ := ok.ends x hx
    have := (h.legs_ends e (of_decide_eq_true hu)).2.2.1
    rcases he with he | he <;> rw [he] at this
    · exact this
    · exact this.symm
  rcases hj with hj | hj
  · exact hx _ hj
  · exact (hx _ hj).symm

end Go.Proofs.YtiooiefjcbooeaaDoor.Way

/- The way that tries the tree legs in turn and does not turn back ends, and is the tree's way. Plain Lean, no program. -/
namespace Go.Proofs.YtiooiefjcbooeaaDoor.Dfs
open Go.Proofs.YtiooiefjcbooeaaDoor.Tree Go.Proofs.YtiooiefjcbooeaaDoor.Grow

theorem Walk.ext {q : Q} {i : Int} {a : Int} {o : Option Int} {l : List Int} {b c : Int} (h : Walk q a o l b) (hj : Joins q i b c) (hi : l.getLast?.or o ≠ some i) : Walk q a o (l ++ [i]) c := by
  induction h with
  | nil => exact .cons hj hi .nil
  | cons h1 h2 h3 ih =>
    rename_i a o j d l b
    refine .cons h1 h2 (ih hj ?_)
    rw [List.getLast?_cons] at hi
    cases hl : l.getLast? with
    | none => rw [hl] at hi; simpa using hi
    | some z => rw [hl] at hi; simpa using hi

variable (e : Int → Int × Int)

mutual
def dfs (tree : List Int) (dst : Int) : Nat → Int → Int → Option (List Int × Bool)
  | 0, _, _ => none
  | f + 1, fr, last => if fr = dst then some ([], true) else try_ tree dst f fr last tree
  termination_by f => (f, 0)
def try_ (tree : List Int) (dst : Int) (f : Nat) (fr last : Int) : List Int → Option (List Int × Bool)
  | [] => some ([], false)
  | i :: t => if i = last ∨ ((e i).1 ≠ fr ∧ (e i).2 ≠ fr) then try_ tree dst f fr last t
    else (dfs tree dst f ((e i).1 + (e i).2 - fr) i).bind fun x => if x.2 = true then some (i :: x.1, true) else try_ tree dst f fr last t
  termination_by l => (f, l.length + 1)
end

theorem dfs_ok {q : Q} (t : Tr (0 : Int) q) (hx : ∀ x ∈ q, e x.1 = (x.2.1, x.2.2) ∨ e x.1 = (x.2.2, x.2.1)) {tree : List Int} (ht : ∀ i, i ∈ tree ↔ i ∈ legs q) {dst : Int} :
    ∀ (f : Nat) (a fr last : Int) (p : List Int), a ∈ verts 0 q → Walk q a (some (-1)) p fr → p.getLast?.or (some (-1)) = some last → q.length < f + p.length →
      ∃ r ok, dfs e tree dst f fr last = some (r, ok) ∧ (ok = true → Walk q fr (some last) r dst) ∧ (ok = false → ∀ l, ¬ Walk q fr (some last) l dst)
  | 0, a, fr, last, p, ha, hw, hl, hf => by
    have := uniq t ha hw
    have h2 := W_len q a fr
    rw [← this] at h2
    omega
  | f + 1, a, fr, last, p, ha, hw, hl, hf => by
    by_cases hto : fr = dst
    · subst hto
      exact ⟨[], true, by simp [dfs], fun _ => .nil, fun h => by cases h⟩
    · have key : ∀ t' : List Int, (∀ i ∈ t', i ∈ tree) → ∃ r ok, try_ e tree dst f fr last t' = some (r, ok) ∧ (ok = true → Walk q fr (some last) r dst) ∧
          (ok = false → ∀ i ∈ t', ∀ l, ¬ Walk q fr (some last) (i :: l) dst) := by
        intro t'
        induction t' with
        | nil => intro _; exact ⟨[], false, by simp [try_], (fun h => by cases h), fun _ i hi => by simp at hi⟩
        | cons i t' ih =>
          intro hm
          obtain ⟨r, ok, h1, h2, h3⟩ := ih (fun j hj => hm j (List.mem_cons_of_mem _ hj))
          have hit := (ht i).mp (hm i List.mem_cons_self)
          have hends : ∀ b c, Joins q i b c → e i = (b, c) ∨ e i = (c, b) := by
            rintro b c (h | h)
            · exact hx _ h
            · exact (hx _ h).symm
          have hj : Joins q i (e i).1 (e i).2 := by
            simp only [legs, List.mem_map] at hit
            obtain ⟨⟨j, u, s⟩, hmq, rfl⟩ := hit
            rcases hx _ hmq with he | he <;> simp only at he ⊢ <;> rw [he]
            · exact Or.inl hmq
            · exact Or.inr hmq
          by_cases c : i = last ∨ ((e i).1 ≠ fr ∧ (e i).2 ≠ fr)
          · refine ⟨r, ok, by rw [try_, if_pos c]; exact h1, h2, fun hk j hj l hwl => ?_⟩
            rcases List.mem_cons.mp hj with rfl | hj
            · cases hwl with
              | cons hj1 ho1 _ =>
                rcases c with rfl | ⟨c1, c2⟩
                · exact ho1 rfl
                · rcases hends _ _ hj1 with he | he <;> rw [he] at c1 c2
                  · exact c1 rfl
                  · exact c2 rfl
            · exact h3 hk j hj l hwl
          · have c1 : i ≠ last := fun h => c (Or.inl h)
            have hjo : Joins q i fr ((e i).1 + (e i).2 - fr) := by
              by_cases x : (e i).1 = fr
              · have : (e i).1 + (e i).2 - fr = (e i).2 := by omega
                rw [this, ← x]; exact hj
              · by_cases y : (e i).2 = fr
                · have : (e i).1 + (e i).2 - fr = (e i).1 := by omega
                  rw [this, ← y]; exact hj.symm
                · exact absurd (Or.inr ⟨x, y⟩) c
            obtain ⟨r', ok', g1, g2, g3⟩ := dfs_ok t hx ht f a ((e i).1 + (e i).2 - fr) i (p ++ [i]) ha
              (Walk.ext hw hjo (by rw [hl]; intro h; exact c1 (Option.some.inj h).symm)) (by simp) (by simp only [List.length_append, List.length_cons, List.length_nil]; omega)
            cases ok' with
            | true =>
              refine ⟨i :: r', true, by rw [try_, if_neg c, g1]; simp, fun _ => .cons hjo (fun h => c1 (Option.some.inj h).symm) (g2 rfl), fun h => by cases h⟩
            | false =>
              refine ⟨r, ok, by rw [try_, if_neg c, g1]; simp [h1], h2, fun hk j hj' l hwl => ?_⟩
              rcases List.mem_cons.mp hj' with rfl | hj'
              · cases hwl with
                | cons hj1 ho1 hw1 =>
                  rename_i d
                  have hd : (e j).1 + (e j).2 - fr = d := by
                    rcases hends _ _ hj1 with he | he <;> rw [he] <;> simp only <;> omega
                  rw [hd] at g3
                  exact g3 rfl l hw1
              · exact h3 hk j hj' l hwl
      obtain ⟨r, ok, h1, h2, h3⟩ := key tree (fun _ h => h)
      refine ⟨r, ok, by rw [dfs, if_neg hto]; exact h1, h2, fun hk l hwl => ?_⟩
      cases hwl with
      | nil => exact hto rfl
      | cons hj1 ho1 hw1 => exact h3 hk _ ((ht _).mpr (joins_verts t hj1).2.2) _ (.cons hj1 ho1 hw1)

/-- The way between two placed stations. -/
theorem dfs_way {q : Q} (t : Tr (0 : Int) q) (hx : ∀ x ∈ q, (e x.1 = (x.2.1, x.2.2) ∨ e x.1 = (x.2.2, x.2.1)) ∧ 0 ≤ x.1) {tree : List Int} (ht : ∀ i, i ∈ tree ↔ i ∈ legs q)
    {fr dst : Int} (hf : fr ∈ verts 0 q) (hto : dst ∈ verts 0 q) {f : Nat} (hl : q.length < f) : dfs e tree dst f fr (-1) = some (W q fr dst, true) := by
  obtain ⟨r, ok, h1, h2, h3⟩ := dfs_ok e t (fun x h => (hx x h).1) ht (dst := dst) f fr fr (-1) [] hf .nil (by simp) (by simpa using hl)
  have hw : Walk q fr (some (-1)) (W q fr dst) dst := (walk_W t hf hto).weak _ (by
    intro i hi hm
    cases hi
    have := (walk_W t hf hto).legs_mem t _ (List.mem_of_mem_head? hm)
    simp only [legs, List.mem_map] at this
    obtain ⟨x, hm, he⟩ := this
    have := (hx x hm).2
    omega)
  cases ok with
  | true => rw [h1, uniq t hf (h2 rfl)]
  | false => exact absurd hw (h3 rfl _)

end Go.Proofs.YtiooiefjcbooeaaDoor.Dfs

/- Places by the growth, and the sum of the shifts along a way. Plain Lean, no program. -/
namespace Go.Proofs.YtiooiefjcbooeaaDoor.Sum
open Go.Proofs.YtiooiefjcbooeaaDoor.Tree Go.Proofs.YtiooiefjcbooeaaDoor.Grow

variable (e : Int → Int × Int) (sh : Int → Int)

def pl : Q → Int → Int
  | [], _ => 0
  | (i, u, s) :: q, x => if x = s then (if (e i).1 = u then pl q u + sh i else pl q u - sh i) else pl q x

theorem pl_leg {n : Nat} {q : Q} (h : Ok e n q) {i a b : Int} (hj : Joins q i a b) (he : e i = (a, b)) :
    pl e sh q b = pl e sh q a + sh i := by
  obtain ⟨t, hx⟩ := h
  induction t generalizing a b with
  | nil => simp [Joins] at hj
  | cons t hu hs hi ih =>
    rename_i q j u s
    have hv : ∀ {a b}, Joins q i a b → a ≠ s ∧ b ≠ s := fun h => by
      have := joins_verts t h
      exact ⟨fun e => hs (e ▸ this.1), fun e => hs (e ▸ this.2.1)⟩
    have ih' := fun {a b} => @ih a b (hx := fun x h => hx x (List.mem_cons_of_mem _ h))
    obtain ⟨hb, h0, h1⟩ := hx (j, u, s) List.mem_cons_self
    have us : u ≠ s := fun e => hs (e ▸ hu)
    simp only [Joins, List.mem_cons, Prod.mk.injEq] at hj
    simp only [pl]
    rcases hj with (⟨rfl, rfl, rfl⟩ | hj) | (⟨rfl, rfl, rfl⟩ | hj)
    · rw [if_pos rfl, if_neg us, he]; simp
    · have := hv (Or.inl hj)
      rw [if_neg this.1, if_neg this.2]
      exact ih' (Or.inl hj) he
    · rw [if_neg us, if_pos rfl, he]
      simp only
      rw [if_neg (fun e => us e.symm)]; omega
    · have := hv (Or.inr hj)
      rw [if_neg this.1, if_neg this.2]
      exact ih' (Or.inr hj) he

def ws : Int → List Int → Int
  | _, [] => 0
  | a, i :: l => (if (e i).1 = a then sh i else - sh i) + ws ((e i).1 + (e i).2 - a) l

theorem ws_walk {n : Nat} {q : Q} (h : Ok e n q) (hne : ∀ i : Int, 0 ≤ i → i < n → (e i).1 ≠ (e i).2) {a b : Int} {o : Option Int} {l : List Int} (hw : Walk q a o l b) :
    ws e sh a l = pl e sh q b - pl e sh q a := by
  induction hw with
  | nil => simp [ws]
  | cons hj ho hw ih =>
    rename_i a o i c l b
    have hm := (joins_verts h.tr hj).2.2
    have hl := h.legs_ends e hm
    have hn := hne i hl.2.2.2.1 hl.2.2.2.2
    have he : e i = (a, c) ∨ e i = (c, a) := by
      rcases hj with hj | hj
      · exact (h.ends _ hj).1
      · exact (h.ends _ hj).1.symm
    simp only [ws]
    rcases he with he | he
    · have := pl_leg e sh h hj he
      rw [he] at hn ⊢
      simp only at hn ⊢
      rw [if_pos trivial, show a + c - a = c from by omega, ih]; omega
    · have := pl_leg e sh h hj.symm he
      rw [he] at hn ⊢
      simp only at hn ⊢
      rw [if_neg hn, show c + a - a = c from by omega, ih]; omega

theorem ws_append (a : Int) (l m : List Int) : ∀ b, (∃ q o, Walk (V := Int) (E := Int) q a o l b ∧ ∀ x ∈ q, e x.1 = (x.2.1, x.2.2) ∨ e x.1 = (x.2.2, x.2.1)) → ws e sh a (l ++ m) = ws e sh a l + ws e sh b m := by
  rintro b ⟨q, o, hw, hx⟩
  induction hw with
  | nil => simp [ws]
  | cons hj ho hw ih =>
    rename_i a o i c l b
    have he : e i = (a, c) ∨ e i = (c, a) := by
      rcases hj with hj | hj
      · exact hx _ hj
      · exact (hx _ hj).symm
    have hc : (e i).1 + (e i).2 - a = c := by rcases he with he | he <;> rw [he] <;> simp only <;> omega
    simp only [List.cons_append, ws]
    rw [hc, ih]; omega

/-- Going round the loop of a closing leg sums to the leg's error. -/
theorem loop_sum {n : Nat} {q : Q} (h : Ok e n q) (hne : ∀ i : Int, 0 ≤ i → i < n → (e i).1 ≠ (e i).2) {k : Int} (h1 : (e k).1 ∈ verts 0 q) (h2 : (e k).2 ∈ verts 0 q) :
    ws e sh (e k).2 (W q (e k).2 (e k).1 ++ [k]) = sh k - pl e sh q (e k).2 + pl e sh q (e k).1 := by
  have hw := walk_W h.tr h2 h1
  rw [ws_append e sh _ _ _ _ ⟨q, none, hw, fun x hx => (h.ends x hx).1⟩, ws_walk e sh h hne hw]
  simp only [ws]
  rw [if_pos trivial]; omega

/-! Modulo 2^64. -/
variable (w : Int → Int) (hr : ∀ x, (w x - x) % 18446744073709551616 = 0) (hc : ∀ x y, (x - y) % 18446744073709551616 = 0 → w x = w y)

def plw : Q → Int → Int
  | [], _ => 0
  | (i, u, s) :: q, x => if x = s then (if (e i).1 = u then w (plw q u + w (1 * sh i)) else w (plw q u + w (-1 * sh i))) else plw q x

include hr in
theorem plw_mod : ∀ (q : Q) (x : Int), (plw e sh w q x - pl e sh q x) % 18446744073709551616 = 0 := by
  intro q
  induction q with
  | nil => intro x; simp [plw, pl]
  | cons y q ih =>
    obtain ⟨i, u, s⟩ := y
    intro x
    simp only [plw, pl]
    have h1 := hr (1 * sh i)
    have h2 := hr (-1 * sh i)
    have h3 := ih u
    split
    · split
      · have h4 := hr (plw e sh w q u + w (1 * sh i)); omega
      · have h4 := hr (plw e sh w q u + w (-1 * sh i)); omega
    · exact ih x

end Go.Proofs.YtiooiefjcbooeaaDoor.Sum

/- Lists of integers in ascending order. Plain Lean, no program. -/
namespace Go.Proofs.YtiooiefjcbooeaaDoor.Sort

def Asc (l : List Int) : Prop := l.Pairwise (· < ·)

def put : List Int → Int → List Int
  | [], n => [n]
  | x :: l, n => if x < n then x :: put l n else if x = n then x :: l else n :: x :: l

theorem mem_put (l : List Int) (n s : Int) : s ∈ put l n ↔ s = n ∨ s ∈ l := by
  induction l with
  | nil => simp [put]
  | cons x l ih =>
    simp only [put]
    split
    · simp only [List.mem_cons, ih]
      constructor
      · rintro (h | h | h) <;> simp [h]
      · rintro (h | h | h) <;> simp [h]
    · split
      · rename_i h; subst h
        simp only [List.mem_cons]
        constructor
        · rintro (h | h) <;> simp [h]
        · rintro (h | h | h) <;> simp [h]
      · simp only [List.mem_cons]

theorem asc_put {l : List Int} (h : Asc l) (n : Int) : Asc (put l n) := by
  induction l with
  | nil => simp [put, Asc]
  | cons x l ih =>
    have h' := List.pairwise_cons.mp h
    simp only [put]
    split
    · rename_i c
      refine List.pairwise_cons.mpr ⟨fun s hs => ?_, ih h'.2⟩
      rcases (mem_put l n s).mp hs with rfl | hs
      · exact c
      · exact h'.1 s hs
    · split
      · exact h
      · refine List.pairwise_cons.mpr ⟨fun s hs => ?_, h⟩
        rcases List.mem_cons.mp hs with rfl | hs
        · omega
        · have := h'.1 s hs; omega

theorem len_put {l : List Int} {n : Int} (h : n ∉ l) : (put l n).length = l.length + 1 := by
  induction l with
  | nil => rfl
  | cons x l ih =>
    simp only [List.mem_cons, not_or] at h
    simp only [put]
    split
    · simp [ih h.2]
    · rw [if_neg (fun e => h.1 e.symm)]; simp

/-- Two ascending lists with the same members are the same. -/
theorem ext : ∀ {l m : List Int}, Asc l → Asc m → (∀ s, s ∈ l ↔ s ∈ m) → l = m
  | [], [], _, _, _ => rfl
  | [], y :: m, _, _, h => by have := (h y).mpr List.mem_cons_self; simp at this
  | x :: l, [], _, _, h => by have := (h x).mp List.mem_cons_self; simp at this
  | x :: l, y :: m, hl, hm, h => by
    have hl' := List.pairwise_cons.mp hl
    have hm' := List.pairwise_cons.mp hm
    have e : x = y := by
      have h1 := (h x).mp List.mem_cons_self
      have h2 := (h y).mpr List.mem_cons_self
      rcases List.mem_cons.mp h1 with h1 | h1
      · exact h1
      · rcases List.mem_cons.mp h2 with h2 | h2
        · exact h2.symm
        · have a := hm'.1 x h1; have b := hl'.1 y h2; omega
    subst e
    rw [ext hl'.2 hm'.2 (fun s => ?_)]
    have := h s
    simp only [List.mem_cons] at this
    constructor
    · intro hs
      rcases this.mp (Or.inr hs) with rfl | h1
      · have := hl'.1 s hs; omega
      · exact h1
    · intro hs
      rcases this.mpr (Or.inr hs) with rfl | h1
      · have := hm'.1 s hs; omega
      · exact h1

/-- The numbers a, a+1, .. (m of them) that pass a test. -/
def pick (p : Int → Bool) : Nat → Int → List Int
  | 0, _ => []
  | m + 1, a => if p a = true then a :: pick p m (a + 1) else pick p m (a + 1)

theorem mem_pick (p : Int → Bool) : ∀ (m : Nat) (a s : Int), s ∈ pick p m a ↔ (a ≤ s ∧ s < a + m) ∧ p s = true
  | 0, a, s => by
    simp only [pick, List.not_mem_nil, false_iff]
    rintro ⟨h, _⟩; omega
  | m + 1, a, s => by
    have ih := mem_pick p m (a + 1) s
    simp only [pick]
    split
    · rename_i c
      rw [List.mem_cons, ih]
      constructor
      · rintro (rfl | ⟨h, h'⟩)
        · exact ⟨by omega, c⟩
        · exact ⟨by omega, h'⟩
      · rintro ⟨h, h'⟩
        by_cases e : s = a
        · exact Or.inl e
        · exact Or.inr ⟨by omega, h'⟩
    · rename_i c
      rw [ih]
      constructor
      · rintro ⟨h, h'⟩; exact ⟨by omega, h'⟩
      · rintro ⟨h, h'⟩
        have : s ≠ a := fun e => c (e ▸ h')
        exact ⟨by omega, h'⟩

theorem asc_pick (p : Int → Bool) : ∀ (m : Nat) (a : Int), Asc (pick p m a)
  | 0, a => by simp [pick, Asc]
  | m + 1, a => by
    simp only [pick]
    split
    · refine List.pairwise_cons.mpr ⟨fun s hs => ?_, asc_pick p m (a + 1)⟩
      have := (mem_pick p m (a + 1) s).mp hs
      omega
    · exact asc_pick p m (a + 1)

end Go.Proofs.YtiooiefjcbooeaaDoor.Sort

/- The places of the stations: what the program's network holds. -/
namespace Go.Proofs.YtiooiefjcbooeaaDoor.Net
open Go.RowKit Go.Proofs.YtiooiefjcbooeaaDoorW.PrintWords Go.Proofs.YtiooiefjcbooeaaDoorW.PrintLast Go.Proofs.YtiooiefjcbooeaaDoorW.PrintMore Go.Proofs.YtiooiefjcbooeaaDoor.A
open Go.Proofs.YtiooiefjcbooeaaDoor.Tree (verts legs)
open Go.Proofs.YtiooiefjcbooeaaDoor.Grow (Q)
set_option linter.unusedVariables false
set_option linter.unusedSimpArgs false
abbrev L := List S56
def leg (ls : L) (i : Int) : S56 := rd_T56 ls i
def ends (ls : L) (i : Int) : Int × Int := ((leg ls i).f0, (leg ls i).f1)
def plus (a b : S34) (k : Int) : S34 := ⟨wrap64 (a.f0 + wrap64 (k * b.f0)), wrap64 (a.f1 + wrap64 (k * b.f1)), wrap64 (a.f2 + wrap64 (k * b.f2))⟩
/-- The place of a station by the growth. -/
def plq (ls : L) : Q → Int → S34
  | [], _ => z34
  | (i, u, s) :: q, x => if x = s then plus (plq ls q u) (shift (leg ls i)) (if (ends ls i).1 = u then 1 else -1) else plq ls q x
theorem shiftPlus (a b : S34) (k : Int) (w : World) :
    Calls Tryd.prog 91 #[.agg #[.int .i64 a.f0, .int .i64 a.f1, .int .i64 a.f2], .agg #[.int .i64 b.f0, .int .i64 b.f1, .int .i64 b.f2], .int .i64 k] w fun e w' => e = .returned (.agg #[.int .i64 (plus a b k).f0, .int .i64 (plus a b k).f1, .int .i64 (plus a b k).f2]) ∧ Below w.heap.size w w' :=
  (impl_Shift_plus.calls a.f0 a.f1 a.f2 b.f0 b.f1 b.f2 k _ _ _ w rfl).mono fun e w' h => ⟨h.1, h.2⟩
theorem info4 : (Tryd.prog.info? 4).map (fun i => (i.zero, i.size, i.bytes)) = some (some (.bool false), 1, 1) := by kernel_rfl
theorem makeBools (n : Nat) (hn : n ≤ 12) (w : World) : (Instr.makeSlice 61 (.int .i64 (n : Int)) (.int .i64 (n : Int))).run Tryd.prog w = .ok (.slice (some ⟨w.heap.size, 0, none⟩) n n) (w.alloc (.cells (madeCells #[.bool false] n) 4)) := by
  obtain ⟨i0, hi, hzz⟩ := Option.map_eq_some_iff.1 info4
  simp only [Prod.mk.injEq] at hzz
  obtain ⟨hz0, hz1, hz2⟩ := hzz
  have h := run_make (P := Tryd.prog) w 61 4 i0 (.bool false) Tryd.underlying61 hi hz0 .i64 .i64 (n : Int) (n : Int) (by omega) (Int.le_refl _) (by rw [hz2]; omega) (by omega)
  rw [hz1] at h
  simpa [Value.cells] using h
/-- The network's memory: block g holds which stations are placed (P) and where (X), block T the tree legs (B); cl are the closing legs. -/
structure St (n : Nat) (T g : Nat) (P : Nat → Bool) (X : Nat → S34) (B : Nat → Bool) (cl : Value) (W : World) : Prop where
  pb : ∀ s : Nat, s < 8 → W.cell? ⟨g, s, none⟩ = some (.bool (P s))
  px : ∀ s : Nat, s < 8 → W.cell? ⟨g, 8 + s * 3, none⟩ = some (.int .i64 (X s).f0)
  py : ∀ s : Nat, s < 8 → W.cell? ⟨g, 8 + s * 3 + 1, none⟩ = some (.int .i64 (X s).f1)
  pz : ∀ s : Nat, s < 8 → W.cell? ⟨g, 8 + s * 3 + 2, none⟩ = some (.int .i64 (X s).f2)
  tc : W.cell? ⟨g, 32, none⟩ = some (.slice (some ⟨T, 0, none⟩) n n)
  cc : W.cell? ⟨g, 33, none⟩ = some cl
  tb : ∀ i : Nat, i < n → W.cell? ⟨T, i, none⟩ = some (.bool (B i))
  fg : ∀ j, W.frozen? ⟨g, j, none⟩ = false
  ft : ∀ j, W.frozen? ⟨T, j, none⟩ = false
  ne : g ≠ T
  ge : T < W.heap.size
section
variable {n : Nat} {T g : Nat} {P P' : Nat → Bool} {X X' : Nat → S34} {B B' : Nat → Bool} {cl : Value} {w W : World}
theorem St.keep (h : St n T g P X B cl w) (hb : Below w.heap.size w W) : St n T g P X B cl W :=
  have hg : g < w.heap.size := World.block_lt_of_cell? w _ h.tc
  ⟨fun s hs => Sine.keepc (h.pb s hs) hb, fun s hs => Sine.keepc (h.px s hs) hb, fun s hs => Sine.keepc (h.py s hs) hb, fun s hs => Sine.keepc (h.pz s hs) hb, Sine.keepc h.tc hb, Sine.keepc h.cc hb,
    fun i hi => Sine.keepc (h.tb i hi) hb, fun j => (hb.frozen (p := ⟨g, j, none⟩) hg).trans (h.fg j), fun j => (hb.frozen (p := ⟨T, j, none⟩) h.ge).trans (h.ft j), h.ne, Nat.lt_of_lt_of_le h.ge hb.size⟩
theorem St.blocks (h : St n T g P X B cl w) (hg : W.heap[g]? = w.heap[g]?) (hT : W.heap[T]? = w.heap[T]?) (hs : w.heap.size ≤ W.heap.size) : St n T g P X B cl W :=
  have c : ∀ {i : Nat} {v : Value}, w.cell? ⟨g, i, none⟩ = some v → W.cell? ⟨g, i, none⟩ = some v := fun h => (World.cell?_of_block hg).trans h
  ⟨fun s hs => c (h.pb s hs), fun s hs => c (h.px s hs), fun s hs => c (h.py s hs), fun s hs => c (h.pz s hs), c h.tc, c h.cc, fun i hi => (World.cell?_of_block (a := ⟨T, i, none⟩) hT).trans (h.tb i hi),
    fun j => (World.frozen?_of_block (a := ⟨g, j, none⟩) hg).trans (h.fg j), fun j => (World.frozen?_of_block (a := ⟨T, j, none⟩) hT).trans (h.ft j), h.ne, Nat.lt_of_lt_of_le h.ge hs⟩
theorem St.congr (h : St n T g P X B cl W) (hP : ∀ s, s < 8 → P' s = P s) (hX : ∀ s, s < 8 → X' s = X s) (hB : ∀ i, i < n → B' i = B i) : St n T g P' X' B' cl W :=
  ⟨fun s hs => hP s hs ▸ h.pb s hs, fun s hs => hX s hs ▸ h.px s hs, fun s hs => hX s hs ▸ h.py s hs, fun s hs => hX s hs ▸ h.pz s hs, h.tc, h.cc, fun i hi => hB i hi ▸ h.tb i hi, h.fg, h.ft, h.ne, h.ge⟩
theorem far {a b : Addr} {v u : Value} (h : W.cell? b = some u) (hne : a ≠ b) : (W.setCell a v).cell? b = some u := by rw [World.cell?_setCell_other (h := hne)]; exact h
theorem cdrew {a : Addr} {u : Value} (h : W.cell? a = some u) : W.drew.cell? a = some u := h
theorem St.drew (h : St n T g P X B cl W) : St n T g P X B cl W.drew := h.keep (below_drew1 (Below.refl _ _))
theorem same {a : Addr} {v u : Value} (h : W.cell? a = some u) : (W.setCell a v).cell? a = some v := World.cell?_setCell_same' W a v (by rw [h]; rfl)
theorem offne {g i j : Nat} (h : i ≠ j) : (⟨g, i, none⟩ : Addr) ≠ ⟨g, j, none⟩ := fun e => h (by injection e)
theorem blkne {g k i j : Nat} (h : g ≠ k) : (⟨g, i, none⟩ : Addr) ≠ ⟨k, j, none⟩ := fun e => h (by injection e)
theorem frz (a : Addr) (v : Value) (p : Addr) : (W.setCell a v).frozen? p = W.frozen? p := by go_simp
theorem St.setP (h : St n T g P X B cl W) {s : Nat} (hs : s < 8) : St n T g (fun i => if i = s then true else P i) X B cl (W.setCell ⟨g, s, none⟩ (.bool true)) := by
  refine ⟨fun i hi => ?_, fun i hi => far (h.px i hi) (offne (by omega)), fun i hi => far (h.py i hi) (offne (by omega)), fun i hi => far (h.pz i hi) (offne (by omega)), far h.tc (offne (by omega)), far h.cc (offne (by omega)),
    fun i hi => far (h.tb i hi) (blkne h.ne), fun j => (frz _ _ _).trans (h.fg j), fun j => (frz _ _ _).trans (h.ft j), h.ne, by simpa using h.ge⟩
  by_cases e : i = s
  · subst e; rw [if_pos rfl]; exact same (h.pb i hi)
  · rw [if_neg e]; exact far (h.pb i hi) (offne (fun e' => e e'.symm))
theorem St.setB (h : St n T g P X B cl W) {s : Nat} (hs : s < n) : St n T g P X (fun i => if i = s then true else B i) cl (W.setCell ⟨T, s, none⟩ (.bool true)) := by
  have hn := fun e => h.ne (Eq.symm e)
  refine ⟨fun i hi => far (h.pb i hi) (blkne hn), fun i hi => far (h.px i hi) (blkne hn), fun i hi => far (h.py i hi) (blkne hn), fun i hi => far (h.pz i hi) (blkne hn), far h.tc (blkne hn), far h.cc (blkne hn),
    fun i hi => ?_, fun j => (frz _ _ _).trans (h.fg j), fun j => (frz _ _ _).trans (h.ft j), h.ne, by simpa using h.ge⟩
  by_cases e : i = s
  · subst e; simp only [if_true]; exact same (h.tb i hi)
  · rw [if_neg e]; exact far (h.tb i hi) (offne (fun e' => e e'.symm))
theorem St.setC (h : St n T g P X B cl W) (v : Value) : St n T g P X B v (W.setCell ⟨g, 33, none⟩ v) :=
  ⟨fun i hi => far (h.pb i hi) (offne (by omega)), fun i hi => far (h.px i hi) (offne (by omega)), fun i hi => far (h.py i hi) (offne (by omega)), fun i hi => far (h.pz i hi) (offne (by omega)), far h.tc (offne (by omega)), same h.cc,
    fun i hi => far (h.tb i hi) (blkne h.ne), fun j => (frz _ _ _).trans (h.fg j), fun j => (frz _ _ _).trans (h.ft j), h.ne, by simpa using h.ge⟩
theorem St.setX (h : St n T g P X B cl W) {s : Nat} (hs : s < 8) (v : S34) : St n T g P (fun i => if i = s then v else X i) B cl
    (((W.setCell ⟨g, 8 + s * 3, none⟩ (.int .i64 v.f0)).setCell ⟨g, 8 + s * 3 + 1, none⟩ (.int .i64 v.f1)).setCell ⟨g, 8 + s * 3 + 2, none⟩ (.int .i64 v.f2)) := by
  have f3 : ∀ {b : Addr} {u : Value} {x y z : Value}, W.cell? b = some u → (⟨g, 8 + s * 3, none⟩ : Addr) ≠ b → (⟨g, 8 + s * 3 + 1, none⟩ : Addr) ≠ b → (⟨g, 8 + s * 3 + 2, none⟩ : Addr) ≠ b →
      (((W.setCell ⟨g, 8 + s * 3, none⟩ x).setCell ⟨g, 8 + s * 3 + 1, none⟩ y).setCell ⟨g, 8 + s * 3 + 2, none⟩ z).cell? b = some u := fun h h1 h2 h3 => far (far (far h h1) h2) h3
  refine ⟨fun i hi => f3 (h.pb i hi) (offne (by omega)) (offne (by omega)) (offne (by omega)), fun i hi => ?_, fun i hi => ?_, fun i hi => ?_, f3 h.tc (offne (by omega)) (offne (by omega)) (offne (by omega)), f3 h.cc (offne (by omega)) (offne (by omega)) (offne (by omega)),
    fun i hi => f3 (h.tb i hi) (blkne h.ne) (blkne h.ne) (blkne h.ne), fun j => (frz _ _ _).trans ((frz _ _ _).trans ((frz _ _ _).trans (h.fg j))), fun j => (frz _ _ _).trans ((frz _ _ _).trans ((frz _ _ _).trans (h.ft j))), h.ne, by simpa using h.ge⟩
  · by_cases e : i = s
    · subst e; simp only [if_true]; exact far (far (same (h.px i hi)) (offne (by omega))) (offne (by omega))
    · rw [if_neg e]; exact f3 (h.px i hi) (offne (by omega)) (offne (by omega)) (offne (by omega))
  · by_cases e : i = s
    · subst e; simp only [if_true]; exact far (same (far (h.py i hi) (offne (by omega)))) (offne (by omega))
    · rw [if_neg e]; exact f3 (h.py i hi) (offne (by omega)) (offne (by omega)) (offne (by omega))
  · by_cases e : i = s
    · subst e; simp only [if_true]; exact same (far (far (h.pz i hi) (offne (by omega))) (offne (by omega)))
    · rw [if_neg e]; exact f3 (h.pz i hi) (offne (by omega)) (offne (by omega)) (offne (by omega))
end
def Pq (q : Q) (s : Nat) : Bool := decide ((s : Int) ∈ verts 0 q)
def Xq (ls : L) (q : Q) (s : Nat) : S34 := plq ls q s
def Bq (q : Q) (i : Nat) : Bool := decide ((i : Int) ∈ legs q)
theorem Pq_cons (k u s i : Nat) (q : Q) : Pq (((k : Int), (u : Int), (s : Int)) :: q) i = if i = s then true else Pq q i := by
  unfold Pq
  by_cases h : i = s
  · subst h; simp [verts]
  · rw [if_neg h, decide_eq_decide]
    simp only [verts, List.map_cons, List.mem_cons]
    constructor
    · rintro (h1 | h1 | h1)
      · exact Or.inl h1
      · omega
      · exact Or.inr h1
    · rintro (h1 | h1)
      · exact Or.inl h1
      · exact Or.inr (Or.inr h1)
theorem Bq_cons (k u s i : Nat) (q : Q) : Bq (((k : Int), (u : Int), (s : Int)) :: q) i = if i = k then true else Bq q i := by
  unfold Bq
  by_cases h : i = k
  · subst h; simp [legs]
  · rw [if_neg h, decide_eq_decide]
    simp only [legs, List.map_cons, List.mem_cons]
    constructor
    · rintro (h1 | h1)
      · omega
      · exact h1
    · exact Or.inr
theorem Xq_fore {ls : L} {k a d : Nat} {q : Q} {x : S56} (he : ends ls k = ((a : Int), (d : Int))) (hx : leg ls k = x) (i : Nat) : Xq ls (((k : Int), (a : Int), (d : Int)) :: q) i = if i = d then plus (Xq ls q a) (shift x) 1 else Xq ls q i := by
  unfold Xq
  simp only [plq, he, hx, if_true]
  by_cases h : i = d
  · subst h; simp
  · rw [if_neg h, if_neg (by omega)]
theorem Xq_back {ls : L} {k a d : Nat} {q : Q} {x : S56} (he : ends ls k = ((a : Int), (d : Int))) (had : (a : Int) ≠ d) (hx : leg ls k = x) (i : Nat) : Xq ls (((k : Int), (d : Int), (a : Int)) :: q) i = if i = a then plus (Xq ls q d) (shift x) (-1) else Xq ls q i := by
  unfold Xq
  simp only [plq, he, hx, if_neg had]
  by_cases h : i = a
  · subst h; simp
  · rw [if_neg h, if_neg (by omega)]
/-- The start. -/
theorem St.start (ls : L) (w : World) : St ls.length w.heap.size (w.heap.size + 1) (Pq []) (Xq ls []) (Bq []) (.slice none 0 0) ((w.alloc (Obj.cells (madeCells #[Value.bool false] ls.length) 4)).alloc
      (Obj.cells
        #[Value.bool true, Value.bool false, Value.bool false, Value.bool false, Value.bool false, Value.bool false,
          Value.bool false, Value.bool false, Value.int IntKind.i64 0, Value.int IntKind.i64 0, Value.int IntKind.i64 0,
          Value.int IntKind.i64 0, Value.int IntKind.i64 0, Value.int IntKind.i64 0, Value.int IntKind.i64 0,
          Value.int IntKind.i64 0, Value.int IntKind.i64 0, Value.int IntKind.i64 0, Value.int IntKind.i64 0,
          Value.int IntKind.i64 0, Value.int IntKind.i64 0, Value.int IntKind.i64 0, Value.int IntKind.i64 0,
          Value.int IntKind.i64 0, Value.int IntKind.i64 0, Value.int IntKind.i64 0, Value.int IntKind.i64 0,
          Value.int IntKind.i64 0, Value.int IntKind.i64 0, Value.int IntKind.i64 0, Value.int IntKind.i64 0,
          Value.int IntKind.i64 0,
          Value.slice (some { block := w.heap.size, off := 0 }) (List.length ls) (List.length ls), Value.slice none 0 0]
        63)) := by
  refine ⟨?_, ?_, ?_, ?_, ?_, ?_, ?_, ?_, ?_, by omega, by simp; omega⟩
  · intro s hs
    have : s = 0 ∨ s = 1 ∨ s = 2 ∨ s = 3 ∨ s = 4 ∨ s = 5 ∨ s = 6 ∨ s = 7 := by omega
    rcases this with rfl | rfl | rfl | rfl | rfl | rfl | rfl | rfl <;> go_simp <;> first | rfl | simp [verts, Pq]
  · intro s hs
    have : s = 0 ∨ s = 1 ∨ s = 2 ∨ s = 3 ∨ s = 4 ∨ s = 5 ∨ s = 6 ∨ s = 7 := by omega
    rcases this with rfl | rfl | rfl | rfl | rfl | rfl | rfl | rfl <;> go_simp <;> first | rfl | simp [verts, Pq]
  · intro s hs
    have : s = 0 ∨ s = 1 ∨ s = 2 ∨ s = 3 ∨ s = 4 ∨ s = 5 ∨ s = 6 ∨ s = 7 := by omega
    rcases this with rfl | rfl | rfl | rfl | rfl | rfl | rfl | rfl <;> go_simp <;> first | rfl | simp [verts, Pq]
  · intro s hs
    have : s = 0 ∨ s = 1 ∨ s = 2 ∨ s = 3 ∨ s = 4 ∨ s = 5 ∨ s = 6 ∨ s = 7 := by omega
    rcases this with rfl | rfl | rfl | rfl | rfl | rfl | rfl | rfl <;> go_simp <;> first | rfl | simp [verts, Pq]
  · go_simp
  · go_simp
  · intro i hi
    go_simp
    simp [madeCells, legs, Bq, hi, Nat.mod_one]
  · intro j
    go_simp
  · intro j
    go_simp
end Go.Proofs.YtiooiefjcbooeaaDoor.Net

/- The walk of the placing: the program's network holds the growth. -/
namespace Go.Proofs.YtiooiefjcbooeaaDoor.Net
open Go.RowKit Go.Proofs.YtiooiefjcbooeaaDoorW.PrintWords Go.Proofs.YtiooiefjcbooeaaDoorW.PrintLast Go.Proofs.YtiooiefjcbooeaaDoorW.PrintMore Go.Proofs.YtiooiefjcbooeaaDoor.A
open Go.Proofs.YtiooiefjcbooeaaDoor.Tree (verts legs)
open Go.Proofs.YtiooiefjcbooeaaDoor.Grow (Q sweep grow)
set_option linter.unusedVariables false
set_option linter.unusedSimpArgs false
/-- The closing legs among the first k legs. -/
def closeTo (ls : L) (R : Q) : Nat → List Int
  | 0 => []
  | k + 1 => if Pq R (leg ls k).f0.toNat = true ∧ Bq R k = false then closeTo ls R k ++ [(k : Int)] else closeTo ls R k
theorem closeTo_len (ls : L) (R : Q) : ∀ k, (closeTo ls R k).length ≤ k
  | 0 => by simp [closeTo]
  | k + 1 => by
    have := closeTo_len ls R k
    unfold closeTo
    split
    · simp; omega
    · omega
/-- What the placing hands back. -/
def Placed (ls : L) (R : Q) (w : World) (e : Ending) (w' : World) : Prop := ∃ g T cl, e = .returned (.pointer (some ⟨g, 0, none⟩)) ∧ St ls.length T g (Pq R) (Xq ls R) (Bq R) cl w' ∧ Kd.R (Kd.int .i64) 3 w' w.heap.size (fun k => k ≠ g ∧ k ≠ T) cl (closeTo ls R ls.length) ∧ Below w.heap.size w w'
/-- What holds at a round's head, with the rounds that are left. -/
def Left (ls : L) (R : Q) (k : Nat) (b : Bool) (q : Q) : Prop := Grow.Ok (ends ls) ls.length q ∧ (b = true → ∃ f, k = f + 1 ∧ 8 ≤ f + q.length ∧ grow (ends ls) ls.length f q = R) ∧ (b = false → q = R)
/-- What holds within a round, at leg k: the flag b, the growth p since q. -/
def Part (ls : L) (q : Q) (k : Nat) (b : Bool) (p : Q) : Prop := Grow.Ok (ends ls) ls.length p ∧ sweep (ends ls) (ls.length - k) k p = sweep (ends ls) ls.length 0 q ∧ q.length ≤ p.length ∧ b = decide (q.length < p.length)
theorem Part.start {ls : L} {q : Q} (h : Grow.Ok (ends ls) ls.length q) : Part ls q 0 false q := ⟨h, by simp, Nat.le_refl _, by simp⟩
theorem Part.next {ls : L} {q p : Q} {k : Nat} {b : Bool} (h : Part ls q k b p) (hk : k < ls.length) : Part ls q (k + 1) (decide (q.length < (Grow.step (ends ls) p k).length)) (Grow.step (ends ls) p k) := by
  obtain ⟨h1, h2, h3, h4⟩ := h
  refine ⟨h1.step _ (by omega) (by omega), ?_, Nat.le_trans h3 (Grow.step_len _ _ _), rfl⟩
  rw [← h2, show ls.length - k = (ls.length - (k + 1)) + 1 by omega]
  rfl
theorem Part.skip {ls : L} {q p : Q} {k a d : Nat} {b : Bool} (h : Part ls q k b p) (hk : k < ls.length) (he : ends ls k = ((a : Int), (d : Int))) (hs : Pq p a = Pq p d) : Part ls q (k + 1) b p := by
  have h' := h.next hk
  have e : Grow.step (ends ls) p k = p := by
    unfold Grow.step
    simp only [Pq, decide_eq_decide] at hs
    rw [he, if_neg (fun c => c.2 (hs.mp c.1)), if_neg (fun c => c.2 (hs.mpr c.1))]
  rw [e, ← h.2.2.2] at h'
  exact h'
theorem Part.fore {ls : L} {q p : Q} {k a d : Nat} {b : Bool} (h : Part ls q k b p) (hk : k < ls.length) (he : ends ls k = ((a : Int), (d : Int))) (ha : Pq p a = true) (hd : Pq p d = false) : Part ls q (k + 1) true ((k, a, d) :: p) := by
  have h' := h.next hk
  have e : Grow.step (ends ls) p k = ((k : Int), (a : Int), (d : Int)) :: p := by
    unfold Grow.step
    simp only [Pq, decide_eq_true_eq, decide_eq_false_iff_not] at ha hd
    rw [he, if_pos ⟨ha, hd⟩]
  have := h.2.2.1
  rw [e, decide_eq_true (by simp; omega)] at h'
  exact h'
theorem Part.back {ls : L} {q p : Q} {k a d : Nat} {b : Bool} (h : Part ls q k b p) (hk : k < ls.length) (he : ends ls k = ((a : Int), (d : Int))) (ha : Pq p a = false) (hd : Pq p d = true) : Part ls q (k + 1) true ((k, d, a) :: p) := by
  have h' := h.next hk
  have e : Grow.step (ends ls) p k = ((k : Int), (d : Int), (a : Int)) :: p := by
    unfold Grow.step
    simp only [Pq, decide_eq_true_eq, decide_eq_false_iff_not] at ha hd
    rw [he, if_neg (fun c => ha c.1), if_pos ⟨hd, ha⟩]
  have := h.2.2.1
  rw [e, decide_eq_true (by simp; omega)] at h'
  exact h'
theorem ends_range {ls : L} (hg : ∀ x ∈ ls, Good x) : ∀ i : Int, 0 ≤ i → i < ls.length → 0 ≤ (ends ls i).1 ∧ (ends ls i).1 < 8 ∧ 0 ≤ (ends ls i).2 ∧ (ends ls i).2 < 8 := by
  intro i h0 h1
  obtain ⟨k, rfl⟩ := Int.eq_ofNat_of_zero_le h0
  have h := hg (leg ls (k : Int)) (by
    unfold leg rd_T56
    rw [Int.toNat_natCast, List.getD_eq_getElem?_getD, List.getElem?_eq_getElem (show k < ls.length by omega)]
    exact List.getElem_mem _)
  exact ⟨h.1.1, h.1.2, h.2.1.1, h.2.1.2⟩
theorem Left.next {ls : L} (hg : ∀ x ∈ ls, Good x) {R q p : Q} {f : Nat} {b : Bool} (h : Left ls R (f + 1) true q) (hp : Part ls q ls.length b p) : Left ls R f b p := by
  obtain ⟨ok, h1, _⟩ := h
  obtain ⟨f', hf, h8, hR⟩ := h1 rfl
  obtain rfl : f = f' := by omega
  obtain ⟨okp, hs, hl, hb⟩ := hp
  rw [Nat.sub_self] at hs
  have hs : p = sweep (ends ls) ls.length 0 q := hs
  have h7 := ok.len _ (ends_range hg)
  obtain ⟨g, rfl⟩ : ∃ g, f = g + 1 := ⟨f - 1, by omega⟩
  rw [grow, ← hs] at hR
  refine ⟨okp, fun e => ?_, fun e => ?_⟩
  · rw [e] at hb
    have hb := of_decide_eq_true hb.symm
    rw [if_neg (by omega)] at hR
    exact ⟨g, rfl, by omega, hR⟩
  · rw [e] at hb
    have hb := of_decide_eq_false hb.symm
    rw [if_pos (by omega)] at hR
    have := (Grow.sweep_same (ends ls) (m := ls.length) (a := 0) (q := q) (by rw [← hs]; omega)).1
    rw [hs, this, hR]
theorem leg_mem {ls : L} {k : Nat} (h : k < ls.length) : rd_T56 ls (k : Int) ∈ ls := by
  unfold rd_T56
  rw [Int.toNat_natCast, List.getD_eq_getElem?_getD, List.getElem?_eq_getElem h]
  exact List.getElem_mem h
set_option maxHeartbeats 2000000 in
set_option maxRecDepth 100000 in
theorem place (A : Option Addr) (c : Nat) (ls : L) (w : World) (hL : Sine.Laid w) (hr0 : Kd.C k56 w A ls.length ls) (hc0 : ls.length ≤ c) (hn : ls.length ≤ 12) (hg : ∀ x ∈ ls, Good x) (R : Q) (hR : grow (ends ls) ls.length 8 [] = R) :
    Calls Tryd.prog 53 #[.slice A ls.length c] w (Placed ls R w) := by
  have HL := Aside0.mk hL
  have HR := Aside0.mk hr0
  have HG := Aside0.mk hg
  have HB := Aside0.mk (Below.refl w.heap.size w)
  have hmk := makeBools ls.length hn w
  have HS := Aside0.mk (St.start ls w)
  have HQ := Aside0.mk (show Left ls R 9 true [] from ⟨Grow.Ok.nil _ _, fun _ => ⟨8, rfl, by simp, hR⟩, fun h => by cases h⟩)
  clear hL hr0 hg hR
  go_enter Tryd.func53, Tryd.ntmps53
  go_wp2
  clear hmk
  go_loopg [4] 9 (fun kq v4 w' => ∃ (b : Bool) (q : Q), v4 = .bool b ∧ Aside0 (Left ls R kq b q) ∧ Aside0 (St ls.length w.heap.size (w.heap.size + 1) (Pq q) (Xq ls q) (Bq q) (.slice none 0 0) w') ∧ Aside0 (Below w.heap.size w w'))
  case atStart => exact ⟨true, [], rfl, HQ, HS, ⟨by repeat (first | exact HB.out | apply below_alloc | apply below_drew1)⟩⟩
  case round =>
    obtain ⟨b, q, rfl, HA, HS1, HB1⟩ := hrel
    clear HS HQ HB
    cases b with
    | false =>
      go_wp2
      have hq := HA.out.2.2 rfl
      subst hq
      go_loopw [101] (fun v101 w' => ∃ (k : Nat) (cl : Value), k ≤ ls.length ∧ v101 = .int .i64 k ∧ Aside0 (St ls.length w.heap.size (w.heap.size + 1) (Pq q) (Xq ls q) (Bq q) cl w') ∧ Aside0 (Kd.R (Kd.int .i64) 3 w' w.heap.size (fun k => k ≠ w.heap.size + 1 ∧ k ≠ w.heap.size) cl (closeTo ls q k)) ∧ Aside0 (Below w.heap.size w w')) (fun v101 _ => ls.length - (intOf v101).toNat)
      case atStart => exact ⟨0, .slice none 0 0, Nat.zero_le _, rfl, HS1, ⟨Kd.R_nil _ _ _ _ _⟩, HB1⟩
      case round =>
        obtain ⟨k, cl, hk, rfl, HS, HO, HB⟩ := hrel
        clear HS1 HB1
        by_cases hlt : k < ls.length
        · obtain ⟨_, e2, h0, h1, h2, h3, h4⟩ := at_T56 HR.out (k : Int) (by omega) (by omega)
          cases e2
          have HX : Aside0 (Good (leg ls (k : Int))) := ⟨HG.out _ (leg_mem hlt)⟩
          have ek : rd_T56 ls (k : Int) = leg ls k := rfl
          rw [Int.toNat_natCast] at h0 h1 h2 h3 h4
          rw [ek] at h0 h1 h2 h3 h4
          have HC := Aside0.mk (show closeTo ls q (k + 1) = if Pq q (leg ls k).f0.toNat = true ∧ Bq q k = false then closeTo ls q k ++ [(k : Int)] else closeTo ls q k from rfl)
          generalize leg ls (k : Int) = x at *
          obtain ⟨a, ha⟩ := Int.eq_ofNat_of_zero_le HX.out.1.1
          have ha8 : (a : Int) < 8 := by have := HX.out.1.2; omega
          rw [ha] at h0
          rw [ha, Int.toNat_natCast] at HC
          replace h0 := Sine.keepc h0 HB.out
          replace h1 := Sine.keepc h1 HB.out
          replace h2 := Sine.keepc h2 HB.out
          replace h3 := Sine.keepc h3 HB.out
          replace h4 := Sine.keepc h4 HB.out
          go_wp2
          have B1 := below_alloc (Below.refl wr.heap.size wr) (Obj.cells #[Value.int IntKind.i64 ↑a, Value.int IntKind.i64 x.f1, Value.int IntKind.i64 x.f2, Value.int IntKind.i64 x.f3, Value.int IntKind.i64 x.f4] 56)
          replace HB := Aside0.mk (below_step HB.out B1)
          replace HS := Aside0.mk (HS.out.keep B1)
          replace HO := Aside0.mk (Kd.R_alloc HO.out (Obj.cells #[Value.int IntKind.i64 ↑a, Value.int IntKind.i64 x.f1, Value.int IntKind.i64 x.f2, Value.int IntKind.i64 x.f3, Value.int IntKind.i64 x.f4] 56))
          clear B1 h0 h1 h2 h3 h4
          have h0 : (wr.alloc (Obj.cells #[Value.int IntKind.i64 ↑a, Value.int IntKind.i64 x.f1, Value.int IntKind.i64 x.f2, Value.int IntKind.i64 x.f3, Value.int IntKind.i64 x.f4] 56)).cell? ⟨wr.heap.size, 0, none⟩ = some (.int .i64 (a : Int)) := by go_simp
          generalize wr.alloc (Obj.cells #[Value.int IntKind.i64 ↑a, Value.int IntKind.i64 x.f1, Value.int IntKind.i64 x.f2, Value.int IntKind.i64 x.f3, Value.int IntKind.i64 x.f4] 56) = W1 at *
          generalize wr.heap.size = X at *
          have pa := HS.out.pb a (by omega)
          have tc := HS.out.tc
          have cc := HS.out.cc
          have zc := HS.out.fg 33
          have tk := HS.out.tb k hlt
          have k0 : (0 : Int) ≤ (k : Int) := by omega
          have k1 : (k : Int) < (ls.length : Int) := by omega
          by_cases hpa : Pq q a = true
          · rw [hpa] at pa
            by_cases hbk : Bq q k = true
            · rw [hbk] at tk
              go_quiet (fail)
              go_wp2
              exact ⟨⟨k + 1, cl, by omega, by go_num, ⟨HS.out.keep (pw_below_drewN (Below.refl _ _) _)⟩, ⟨by rw [HC.out, if_neg (by simp [hbk])]; exact Kd.R_drewN HO.out _⟩, ⟨pw_below_drewN HB.out _⟩⟩, by simp [intOf]; omega⟩
            · have hbk' : Bq q k = false := by simpa using hbk
              rw [hbk'] at tk
              have hTs : w.heap.size + 1 < W1.heap.size := World.block_lt_of_cell? _ _ tc
              have hcl := closeTo_len ls q k
              have HN1 : Aside0 (∀ b, cl.ownBlock = some b → b ≠ w.heap.size + 1 ∧ b ≠ w.heap.size) := ⟨HO.out.1⟩
              obtain ⟨cA, cC, ecl⟩ := Kd.R_slice HO.out
              subst ecl
              go_quiet (fail)
              go_wp2_with ((with_reducible refine gate_builtin (b := .append) (xs := #[.tmp 127, .tmp 129]) rfl ?_); at_builtin; refine Kd.R_append (Kd.int .i64) (w0 := w) w.heap.size rfl (.tmp 127) (.tmp 129) 38 3 (.int .i64 0) 8 rfl Tryd.underlying38 info3 rfl (by decide) (by omega) (.slice cA (closeTo ls q k).length cC) (closeTo ls q k) (k : Int) [.int .i64 (k : Int)] (fun b => b ≠ w.heap.size + 1 ∧ b ≠ w.heap.size) (fun _ => False) rfl rfl ?aP (fun _ hk => hk.elim) ?aF ?aO ?aB ?aS ?aL ?_
                           (case aP => exact rfl)
                           (case aF => intro b hb; simp only [World.heap_drewN] at hb; omega)
                           (case aO => exact Kd.R_drewN HO.out _)
                           (case aB => exact pw_below_drewN HB.out _)
                           (case aS => simp only [World.heap_drewN]; omega)
                           (case aL => omega)
                           intro v1 w1 ho hb hg hat
                           obtain ⟨A1, c1, ev1⟩ := Kd.R_slice ho
                           subst ev1
                           rw [show (closeTo ls q k ++ [(k : Int)]).length = (closeTo ls q k).length + 1 from by simp] at ho hat
                           have HS5 := Aside0.mk ((HS.out.keep (W := W1.drewN nq) (pw_below_drewN (Below.refl _ _) _)).blocks (W := w1) (hg.block _ (by simp only [World.heap_drewN]; omega) (fun e => (HN1.out _ e.symm).1 rfl)) (hg.block _ (by simp only [World.heap_drewN]; omega) (fun e => (HN1.out _ e.symm).2 rfl)) hg.size)
                           have HB5 := Aside0.mk hb
                           have HO5 := Aside0.mk ho
                           clear ho hb hg hat HO
                           have cc5 := HS5.out.cc
                           have zc5 := HS5.out.fg 33)
              exact ⟨⟨k + 1, _, by omega, by go_num, ⟨HS5.out.setC _⟩, ⟨by rw [HC.out, if_pos ⟨hpa, hbk'⟩]; exact Kd.R_far HO5.out (p := ⟨w.heap.size + 1, 33, none⟩) (fun b hb => hb.1) _⟩, ⟨below_set HB5.out (by omega)⟩⟩, by simp [intOf]; omega⟩
          · have hpa' : Pq q a = false := by simpa using hpa
            rw [hpa'] at pa
            go_quiet (fail)
            go_wp2
            exact ⟨⟨k + 1, cl, by omega, by go_num, ⟨HS.out.keep (pw_below_drewN (Below.refl _ _) _)⟩, ⟨by rw [HC.out, if_neg (by simp [hpa'])]; exact Kd.R_drewN HO.out _⟩, ⟨pw_below_drewN HB.out _⟩⟩, by simp [intOf]; omega⟩
        · obtain rfl : k = ls.length := by omega
          go_wp2
          go_ret
          exact ⟨_, _, cl, rfl, HS.out, HO.out, HB.out⟩
    | true =>
      go_wp2
      go_loopw [4, 21] (fun v4 v21 w' => ∃ (k : Nat) (b : Bool) (p : Q), k ≤ ls.length ∧ v4 = .bool b ∧ v21 = .int .i64 k ∧ Aside0 (Part ls q k b p) ∧ Aside0 (St ls.length w.heap.size (w.heap.size + 1) (Pq p) (Xq ls p) (Bq p) (.slice none 0 0) w') ∧ Aside0 (Below w.heap.size w w')) (fun _ v21 _ => ls.length - (intOf v21).toNat)
      case atStart => exact ⟨0, false, q, Nat.zero_le _, rfl, rfl, ⟨Part.start HA.out.1⟩, HS1, HB1⟩
      case round =>
        obtain ⟨k, b, p, hk, rfl, rfl, HP, HS, HB⟩ := hrel
        clear HS1 HB1
        by_cases hlt : k < ls.length
        · obtain ⟨_, e2, h0, h1, h2, h3, h4⟩ := at_T56 HR.out (k : Int) (by omega) (by omega)
          cases e2
          have HX : Aside0 (Good (leg ls (k : Int))) := ⟨HG.out _ (leg_mem hlt)⟩
          have ek : rd_T56 ls (k : Int) = leg ls k := rfl
          have HE := Aside0.mk (show ends ls k = ((leg ls k).f0, (leg ls k).f1) from rfl)
          rw [Int.toNat_natCast] at h0 h1 h2 h3 h4
          rw [ek] at h0 h1 h2 h3 h4
          generalize hxe : leg ls (k : Int) = x at *
          have HXE := Aside0.mk hxe
          clear hxe ek
          obtain ⟨a, ha⟩ := Int.eq_ofNat_of_zero_le HX.out.1.1
          obtain ⟨d, hd⟩ := Int.eq_ofNat_of_zero_le HX.out.2.1.1
          have ha8 : (a : Int) < 8 := by have := HX.out.1.2; omega
          have hd8 : (d : Int) < 8 := by have := HX.out.2.1.2; omega
          have had := HX.out.2.2.1
          rw [ha, hd] at had
          have LS := fun W (hl : Sine.Laid W) => legShift x W hl HX.out
          rw [ha, hd] at LS
          have HLS := Aside0.mk LS
          clear LS
          rw [ha] at h0 HE
          rw [hd] at h1 HE
          replace h0 := Sine.keepc h0 HB.out
          replace h1 := Sine.keepc h1 HB.out
          replace h2 := Sine.keepc h2 HB.out
          replace h3 := Sine.keepc h3 HB.out
          replace h4 := Sine.keepc h4 HB.out
          go_wp2
          have B1 := below_alloc (Below.refl wr.heap.size wr) (Obj.cells #[Value.int IntKind.i64 ↑a, Value.int IntKind.i64 ↑d, Value.int IntKind.i64 x.f2, Value.int IntKind.i64 x.f3, Value.int IntKind.i64 x.f4] 56)
          replace HB := Aside0.mk (below_step HB.out B1)
          have HSo := HS
          replace HS := Aside0.mk (HS.out.keep B1)
          clear B1 h0 h1 h2 h3 h4
          have h0 : (wr.alloc (Obj.cells #[Value.int IntKind.i64 ↑a, Value.int IntKind.i64 ↑d, Value.int IntKind.i64 x.f2, Value.int IntKind.i64 x.f3, Value.int IntKind.i64 x.f4] 56)).cell? ⟨wr.heap.size, 0, none⟩ = some (.int .i64 (a : Int)) := by go_simp
          have h1 : (wr.alloc (Obj.cells #[Value.int IntKind.i64 ↑a, Value.int IntKind.i64 ↑d, Value.int IntKind.i64 x.f2, Value.int IntKind.i64 x.f3, Value.int IntKind.i64 x.f4] 56)).cell? ⟨wr.heap.size, 1, none⟩ = some (.int .i64 (d : Int)) := by go_simp
          have h2 : (wr.alloc (Obj.cells #[Value.int IntKind.i64 ↑a, Value.int IntKind.i64 ↑d, Value.int IntKind.i64 x.f2, Value.int IntKind.i64 x.f3, Value.int IntKind.i64 x.f4] 56)).cell? ⟨wr.heap.size, 2, none⟩ = some (.int .i64 x.f2) := by go_simp
          have h3 : (wr.alloc (Obj.cells #[Value.int IntKind.i64 ↑a, Value.int IntKind.i64 ↑d, Value.int IntKind.i64 x.f2, Value.int IntKind.i64 x.f3, Value.int IntKind.i64 x.f4] 56)).cell? ⟨wr.heap.size, 3, none⟩ = some (.int .i64 x.f3) := by go_simp
          have h4 : (wr.alloc (Obj.cells #[Value.int IntKind.i64 ↑a, Value.int IntKind.i64 ↑d, Value.int IntKind.i64 x.f2, Value.int IntKind.i64 x.f3, Value.int IntKind.i64 x.f4] 56)).cell? ⟨wr.heap.size, 4, none⟩ = some (.int .i64 x.f4) := by go_simp
          generalize wr.alloc (Obj.cells #[Value.int IntKind.i64 ↑a, Value.int IntKind.i64 ↑d, Value.int IntKind.i64 x.f2, Value.int IntKind.i64 x.f3, Value.int IntKind.i64 x.f4] 56) = W1 at *
          have hgX : w.heap.size + 1 ≠ wr.heap.size := fun e => by have := World.block_lt_of_cell? _ _ HSo.out.tc; simp only at this; omega
          clear HSo
          generalize wr.heap.size = X at *
          have pa := HS.out.pb a (by omega)
          have pd := HS.out.pb d (by omega)
          by_cases hpa : Pq p a = true
          · rw [hpa] at pa
            by_cases hpd : Pq p d = true
            · rw [hpd] at pd
              go_quiet (fail)
              go_wp2
              exact ⟨⟨k + 1, b, p, by omega, rfl, by go_num, ⟨HP.out.skip hlt HE.out (hpa.trans hpd.symm)⟩, ⟨HS.out.keep (pw_below_drewN (Below.refl _ _) _)⟩, ⟨pw_below_drewN HB.out _⟩⟩, by simp [intOf]; omega⟩
            · have hpd' : Pq p d = false := by simpa using hpd
              rw [hpd'] at pd
              have x0 := HS.out.px a (by omega)
              have x1 := HS.out.py a (by omega)
              have x2 := HS.out.pz a (by omega)
              have y0 := HS.out.px d (by omega)
              have y1 := HS.out.py d (by omega)
              have y2 := HS.out.pz d (by omega)
              go_quiet (fail)
              go_wp2
              go_quiet (fail)
              go_wp2_with fail
              go_region_held3 (fun w' => w'.cell? ⟨X, 0, none⟩ = some (.int .i64 (a : Int)) ∧ w'.cell? ⟨X, 1, none⟩ = some (.int .i64 (d : Int)) ∧ w'.cell? ⟨X, 2, none⟩ = some (.int .i64 x.f2) ∧ w'.cell? ⟨X, 3, none⟩ = some (.int .i64 x.f3) ∧ w'.cell? ⟨X, 4, none⟩ = some (.int .i64 x.f4)
                  ∧ w'.cell? ⟨w.heap.size + 1, 8 + a * 3, none⟩ = some (.int .i64 (Xq ls p a).f0) ∧ w'.cell? ⟨w.heap.size + 1, 8 + a * 3 + 1, none⟩ = some (.int .i64 (Xq ls p a).f1) ∧ w'.cell? ⟨w.heap.size + 1, 8 + a * 3 + 2, none⟩ = some (.int .i64 (Xq ls p a).f2))
                ((repeat' refine And.intro ?_ ?_) <;> first
                  | ((with_reducible refine far (far (far ?_ ?_) ?_) ?_) <;> first | exact blkne hgX | exact offne (by omega) | exact Sine.keepc (w := W1) (by assumption) (by (repeat (first | exact Below.refl _ _ | apply pw_below_drewN | apply below_drew1 | exact HB.out | refine below_step ?_ (by assumption))); done))
                  | exact Sine.keepc (w := W1) (by assumption) (by (repeat (first | exact Below.refl _ _ | apply pw_below_drewN | apply below_drew1 | exact HB.out | refine below_step ?_ (by assumption))); done))
                (first
                  | (go_at_call 92; (with_reducible refine (HLS.out _ ?s1).mono ?_); (case s1 => exact HL.out.keep (by (repeat (first | exact Below.refl _ _ | apply pw_below_drewN | apply below_drew1 | exact HB.out | refine below_step ?_ (by assumption))); done)); rintro e w' ⟨rfl, hw1⟩)
                  | (go_at_call 91; (with_reducible refine (shiftPlus (Xq ls p a) (shift x) 1 _).mono ?_); rintro e w' ⟨rfl, hw2⟩
                     have HS2 := Aside0.mk (HS.out.keep (W := w') (by (repeat (first | exact Below.refl _ _ | apply pw_below_drewN | apply below_drew1 | exact HB.out | refine below_step ?_ (by assumption))); done))
                     have HB2 : Aside0 (Below w.heap.size w w') := ⟨by (repeat (first | exact Below.refl _ _ | apply pw_below_drewN | apply below_drew1 | exact HB.out | refine below_step ?_ (by assumption))); done⟩
                     have y0 := HS2.out.px d (by omega)
                     have y1 := HS2.out.py d (by omega)
                     have y2 := HS2.out.pz d (by omega)
                     have z0 := HS2.out.fg (8 + d * 3)
                     have z1 := HS2.out.fg (8 + d * 3 + 1)
                     have z2 := HS2.out.fg (8 + d * 3 + 2)))
              have h1' := far (far (far (Sine.keepc (w := W1) h1 (show Below W1.heap.size W1 w' from by (repeat (first | exact Below.refl _ _ | apply pw_below_drewN | apply below_drew1 | exact HB.out | refine below_step ?_ (by assumption))); done)) (v := .int .i64 (plus (Xq ls p a) (shift x) 1).f0) (blkne (i := 8 + d * 3) hgX)) (v := .int .i64 (plus (Xq ls p a) (shift x) 1).f1) (blkne (i := 8 + d * 3 + 1) hgX)) (v := .int .i64 (plus (Xq ls p a) (shift x) 1).f2) (blkne (i := 8 + d * 3 + 2) hgX)
              have HS3 := Aside0.mk (HS2.out.setX (s := d) (by omega) (plus (Xq ls p a) (shift x) 1))
              have HB3 := Aside0.mk (below_set (below_set (below_set HB2.out (j := 8 + d * 3) (v := .int .i64 (plus (Xq ls p a) (shift x) 1).f0) (g := w.heap.size + 1) (by omega)) (j := 8 + d * 3 + 1) (v := .int .i64 (plus (Xq ls p a) (shift x) 1).f1) (g := w.heap.size + 1) (by omega)) (j := 8 + d * 3 + 2) (v := .int .i64 (plus (Xq ls p a) (shift x) 1).f2) (g := w.heap.size + 1) (by omega))
              clear HS2 HB2 y0 y1 y2 z0 z1 z2 x0 x1 x2 h0 h1 h2 h3 h4 pa pd
              generalize ((w'.setCell { block := w.heap.size + 1, off := 8 + d * 3 } (Value.int IntKind.i64 (plus (Xq ls p a) (shift x) 1).f0)).setCell { block := w.heap.size + 1, off := 8 + d * 3 + 1 } (Value.int IntKind.i64 (plus (Xq ls p a) (shift x) 1).f1)).setCell { block := w.heap.size + 1, off := 8 + d * 3 + 2 } (Value.int IntKind.i64 (plus (Xq ls p a) (shift x) 1).f2) = W3 at *
              have pd := HS3.out.pb d (by omega)
              have zd := HS3.out.fg d
              go_wp2_with fail
              go_region_held3 (fun w' => w'.cell? ⟨X, 1, none⟩ = some (.int .i64 (d : Int)))
                (first
                  | ((with_reducible refine cdrew (far ?_ ?_)) <;> first | exact blkne hgX | exact h1')
                  | exact Sine.keepc (w := W3) h1' (by (repeat (first | exact Below.refl _ _ | apply pw_below_drewN | apply below_drew1 | exact HB.out | refine below_step ?_ (by assumption))); done))
                (first | fail)
              have HS4 := Aside0.mk (HS3.out.setP (s := d) (by omega)).drew
              have HB4 := Aside0.mk (below_drew1 (below_set HB3.out (j := d) (v := .bool true) (g := w.heap.size + 1) (by omega)))
              clear HS3 HB3 pd zd h1'
              generalize (W3.setCell { block := w.heap.size + 1, off := d } (Value.bool true)).drew = W4 at *
              have tc := HS4.out.tc
              have tk := HS4.out.tb k hlt
              have zk := HS4.out.ft k
              have k0 : (0 : Int) ≤ (k : Int) := by omega
              have k1 : (k : Int) < (ls.length : Int) := by omega
              go_wp2
              exact ⟨⟨k + 1, true, ((k : Int), (a : Int), (d : Int)) :: p, by omega, rfl, by go_num, ⟨HP.out.fore hlt HE.out hpa hpd'⟩, ⟨(HS4.out.setB hlt).congr (fun s _ => Pq_cons k a d s p) (fun s _ => Xq_fore HE.out HXE.out s) (fun i _ => Bq_cons k a d i p)⟩, ⟨below_set HB4.out (by omega)⟩⟩, by simp [intOf]; omega⟩
          · have hpa' : Pq p a = false := by simpa using hpa
            rw [hpa'] at pa
            by_cases hpd : Pq p d = true
            · rw [hpd] at pd
              have x0 := HS.out.px d (by omega)
              have x1 := HS.out.py d (by omega)
              have x2 := HS.out.pz d (by omega)
              have y0 := HS.out.px a (by omega)
              have y1 := HS.out.py a (by omega)
              have y2 := HS.out.pz a (by omega)
              go_quiet (fail)
              go_wp2
              go_quiet (fail)
              go_wp2_with fail
              go_region_held3 (fun w' => w'.cell? ⟨X, 0, none⟩ = some (.int .i64 (a : Int)) ∧ w'.cell? ⟨X, 1, none⟩ = some (.int .i64 (d : Int)) ∧ w'.cell? ⟨X, 2, none⟩ = some (.int .i64 x.f2) ∧ w'.cell? ⟨X, 3, none⟩ = some (.int .i64 x.f3) ∧ w'.cell? ⟨X, 4, none⟩ = some (.int .i64 x.f4)
                  ∧ w'.cell? ⟨w.heap.size + 1, 8 + d * 3, none⟩ = some (.int .i64 (Xq ls p d).f0) ∧ w'.cell? ⟨w.heap.size + 1, 8 + d * 3 + 1, none⟩ = some (.int .i64 (Xq ls p d).f1) ∧ w'.cell? ⟨w.heap.size + 1, 8 + d * 3 + 2, none⟩ = some (.int .i64 (Xq ls p d).f2))
                ((repeat' refine And.intro ?_ ?_) <;> first
                  | ((with_reducible refine far (far (far ?_ ?_) ?_) ?_) <;> first | exact blkne hgX | exact offne (by omega) | exact Sine.keepc (w := W1) (by assumption) (by (repeat (first | exact Below.refl _ _ | apply pw_below_drewN | apply below_drew1 | exact HB.out | refine below_step ?_ (by assumption))); done))
                  | exact Sine.keepc (w := W1) (by assumption) (by (repeat (first | exact Below.refl _ _ | apply pw_below_drewN | apply below_drew1 | exact HB.out | refine below_step ?_ (by assumption))); done))
                (first
                  | (go_at_call 92; (with_reducible refine (HLS.out _ ?s1).mono ?_); (case s1 => exact HL.out.keep (by (repeat (first | exact Below.refl _ _ | apply pw_below_drewN | apply below_drew1 | exact HB.out | refine below_step ?_ (by assumption))); done)); rintro e w' ⟨rfl, hw1⟩)
                  | (go_at_call 91; (with_reducible refine (shiftPlus (Xq ls p d) (shift x) (-1) _).mono ?_); rintro e w' ⟨rfl, hw2⟩
                     have HS2 := Aside0.mk (HS.out.keep (W := w') (by (repeat (first | exact Below.refl _ _ | apply pw_below_drewN | apply below_drew1 | exact HB.out | refine below_step ?_ (by assumption))); done))
                     have HB2 : Aside0 (Below w.heap.size w w') := ⟨by (repeat (first | exact Below.refl _ _ | apply pw_below_drewN | apply below_drew1 | exact HB.out | refine below_step ?_ (by assumption))); done⟩
                     have y0 := HS2.out.px a (by omega)
                     have y1 := HS2.out.py a (by omega)
                     have y2 := HS2.out.pz a (by omega)
                     have z0 := HS2.out.fg (8 + a * 3)
                     have z1 := HS2.out.fg (8 + a * 3 + 1)
                     have z2 := HS2.out.fg (8 + a * 3 + 2)))
              have h0' := far (far (far (Sine.keepc (w := W1) h0 (show Below W1.heap.size W1 w' from by (repeat (first | exact Below.refl _ _ | apply pw_below_drewN | apply below_drew1 | exact HB.out | refine below_step ?_ (by assumption))); done)) (v := .int .i64 (plus (Xq ls p d) (shift x) (-1)).f0) (blkne (i := 8 + a * 3) hgX)) (v := .int .i64 (plus (Xq ls p d) (shift x) (-1)).f1) (blkne (i := 8 + a * 3 + 1) hgX)) (v := .int .i64 (plus (Xq ls p d) (shift x) (-1)).f2) (blkne (i := 8 + a * 3 + 2) hgX)
              have HS3 := Aside0.mk (HS2.out.setX (s := a) (by omega) (plus (Xq ls p d) (shift x) (-1)))
              have HB3 := Aside0.mk (below_set (below_set (below_set HB2.out (j := 8 + a * 3) (v := .int .i64 (plus (Xq ls p d) (shift x) (-1)).f0) (g := w.heap.size + 1) (by omega)) (j := 8 + a * 3 + 1) (v := .int .i64 (plus (Xq ls p d) (shift x) (-1)).f1) (g := w.heap.size + 1) (by omega)) (j := 8 + a * 3 + 2) (v := .int .i64 (plus (Xq ls p d) (shift x) (-1)).f2) (g := w.heap.size + 1) (by omega))
              clear HS2 HB2 y0 y1 y2 z0 z1 z2 x0 x1 x2 h0 h1 h2 h3 h4 pd pa
              generalize ((w'.setCell { block := w.heap.size + 1, off := 8 + a * 3 } (Value.int IntKind.i64 (plus (Xq ls p d) (shift x) (-1)).f0)).setCell { block := w.heap.size + 1, off := 8 + a * 3 + 1 } (Value.int IntKind.i64 (plus (Xq ls p d) (shift x) (-1)).f1)).setCell { block := w.heap.size + 1, off := 8 + a * 3 + 2 } (Value.int IntKind.i64 (plus (Xq ls p d) (shift x) (-1)).f2) = W3 at *
              have pa := HS3.out.pb a (by omega)
              have zd := HS3.out.fg a
              go_wp2_with fail
              go_region_held3 (fun w' => w'.cell? ⟨X, 0, none⟩ = some (.int .i64 (a : Int)))
                (first
                  | ((with_reducible refine cdrew (far ?_ ?_)) <;> first | exact blkne hgX | exact h0')
                  | exact Sine.keepc (w := W3) h0' (by (repeat (first | exact Below.refl _ _ | apply pw_below_drewN | apply below_drew1 | exact HB.out | refine below_step ?_ (by assumption))); done))
                (first | fail)
              have HS4 := Aside0.mk (HS3.out.setP (s := a) (by omega)).drew
              have HB4 := Aside0.mk (below_drew1 (below_set HB3.out (j := a) (v := .bool true) (g := w.heap.size + 1) (by omega)))
              clear HS3 HB3 pa zd h0'
              generalize (W3.setCell { block := w.heap.size + 1, off := a } (Value.bool true)).drew = W4 at *
              have tc := HS4.out.tc
              have tk := HS4.out.tb k hlt
              have zk := HS4.out.ft k
              have k0 : (0 : Int) ≤ (k : Int) := by omega
              have k1 : (k : Int) < (ls.length : Int) := by omega
              go_wp2
              exact ⟨⟨k + 1, true, ((k : Int), (d : Int), (a : Int)) :: p, by omega, rfl, by go_num, ⟨HP.out.back hlt HE.out hpa' hpd⟩, ⟨(HS4.out.setB hlt).congr (fun s _ => Pq_cons k d a s p) (fun s _ => Xq_back HE.out had HXE.out s) (fun i _ => Bq_cons k d a i p)⟩, ⟨below_set HB4.out (by omega)⟩⟩, by simp [intOf]; omega⟩
            · have hpd' : Pq p d = false := by simpa using hpd
              rw [hpd'] at pd
              go_quiet (fail)
              go_wp2
              exact ⟨⟨k + 1, b, p, by omega, rfl, by go_num, ⟨HP.out.skip hlt HE.out (hpa'.trans hpd'.symm)⟩, ⟨HS.out.keep (pw_below_drewN (Below.refl _ _) _)⟩, ⟨pw_below_drewN HB.out _⟩⟩, by simp [intOf]; omega⟩
        · obtain rfl : k = ls.length := by omega
          go_wp2
          obtain ⟨f, hf, _⟩ := HA.out.2.1 rfl
          subst hf
          have HN := Aside0.mk (HA.out.next HG.out HP.out)
          go_roundg f
          case measure => omega
          case rel => exact ⟨b, p, rfl, HN, HS, HB⟩
end Go.Proofs.YtiooiefjcbooeaaDoor.Net

/- Plain lemmas on integers that wrap at 64 bits, on answers that come after enough rounds, on tests over all indexes of a list. No program stands here. -/
namespace Go.Proofs.YtiooiefjcbooeaaDoor.Plain
open Go.RowKit Go.Proofs.YtiooiefjcbooeaaDoorW.PrintWords

theorem w64 {x : Int} (h1 : -9223372036854775808 ≤ x) (h2 : x ≤ 9223372036854775807) : wrap64 x = x := by
  unfold wrap64
  omega

theorem wf_bounds {x : Int} (h : (Lit.int .i64 x).wf = true) : -9223372036854775808 ≤ x ∧ x ≤ 9223372036854775807 := by
  simp only [Lit.wf, IntKind.min, IntKind.max, IntKind.signed, IntKind.bits, Bool.and_eq_true, decide_eq_true_eq, if_true] at h
  omega

/-- The product of two numbers that are bounded. -/
theorem mul_bound {x y : Int} (A B : Int) (h1 : -A ≤ x) (h2 : x ≤ A) (h3 : -B ≤ y) (h4 : y ≤ B) : -(A * B) ≤ x * y ∧ x * y ≤ A * B := by
  have e1 : 0 ≤ (A - x) * (B - y) := Int.mul_nonneg (by omega) (by omega)
  have e2 : 0 ≤ (A + x) * (B + y) := Int.mul_nonneg (by omega) (by omega)
  have e3 : 0 ≤ (A - x) * (B + y) := Int.mul_nonneg (by omega) (by omega)
  have e4 : 0 ≤ (A + x) * (B - y) := Int.mul_nonneg (by omega) (by omega)
  simp only [Int.sub_mul, Int.mul_sub, Int.add_mul, Int.mul_add] at e1 e2 e3 e4
  omega

/-! ### Answers after enough rounds -/
theorem Ev.some {α : Type} {g : Nat → Option α} {r : α} (h : ∀ k, g k = some r) : Ev g r := ⟨0, fun k _ => h k⟩
theorem Ev.eq {α : Type} {g f : Nat → Option α} {r : α} (h : Ev f r) (e : ∀ k, g k = f k) : Ev g r := Ev.congr e h
theorem Ev.ite {α : Type} {c : Prop} [Decidable c] {g f : Nat → Option α} {r q : α} (h : c → Ev g r) (k : ¬ c → Ev f q) : Ev (fun n => if c then g n else f n) (if c then r else q) := by
  by_cases hc : c
  · obtain ⟨K, hK⟩ := h hc
    exact ⟨K, fun n hn => by simp only [if_pos hc]; exact hK n hn⟩
  · obtain ⟨K, hK⟩ := k hc
    exact ⟨K, fun n hn => by simp only [if_neg hc]; exact hK n hn⟩
theorem Ev.pos {α : Type} {c : Prop} [Decidable c] {g f : Nat → Option α} {r : α} (hc : c) (h : Ev g r) : Ev (fun n => if c then g n else f n) r := by
  obtain ⟨K, hK⟩ := h
  exact ⟨K, fun n hn => by simp only [if_pos hc]; exact hK n hn⟩
theorem Ev.neg {α : Type} {c : Prop} [Decidable c] {g f : Nat → Option α} {r : α} (hc : ¬ c) (h : Ev f r) : Ev (fun n => if c then g n else f n) r := by
  obtain ⟨K, hK⟩ := h
  exact ⟨K, fun n hn => by simp only [if_neg hc]; exact hK n hn⟩
theorem Ev.bindc {α β : Type} {o : Option α} {f : Nat → α → Option β} {a : α} {r : β} (h : o = Option.some a) (k : Ev (fun n => f n a) r) : Ev (fun n => o.bind (f n)) r := by
  obtain ⟨K, hK⟩ := k
  exact ⟨K, fun n hn => by rw [h]; exact hK n hn⟩
theorem Ev.uniq {α : Type} {g : Nat → Option α} {r q : α} (h : Ev g r) (k : Ev g q) : r = q := by
  obtain ⟨K, h⟩ := h
  obtain ⟨K', k⟩ := k
  have h1 := h (max K K') (by omega)
  have h2 := k (max K K') (by omega)
  rw [h1] at h2
  exact Option.some.inj h2

/-! ### A test of all indexes from one on -/
def allFrom (P : Nat → Bool) : Nat → Nat → Bool
  | _, 0 => true
  | i, d + 1 => P i && allFrom P (i + 1) d
theorem allFrom_iff (P : Nat → Bool) : ∀ (d i : Nat), allFrom P i d = true ↔ ∀ j, i ≤ j → j < i + d → P j = true
  | 0, i => ⟨fun _ j h1 h2 => by omega, fun _ => rfl⟩
  | d + 1, i => by
    rw [allFrom, Bool.and_eq_true, allFrom_iff P d (i + 1)]
    constructor
    · rintro ⟨h0, h1⟩ j hj hj2
      by_cases e : j = i
      · subst e
        exact h0
      · exact h1 j (by omega) (by omega)
    · intro h
      exact ⟨h i (by omega) (by omega), fun j hj hj2 => h j (by omega) (by omega)⟩
theorem allFrom_congr {P Q : Nat → Bool} : ∀ (d i : Nat), (∀ j, i ≤ j → j < i + d → P j = Q j) → allFrom P i d = allFrom Q i d
  | 0, _, _ => rfl
  | d + 1, i, h => by rw [allFrom, allFrom, h i (by omega) (by omega), allFrom_congr d (i + 1) (fun j hj hj2 => h j (by omega) (by omega))]

theorem allFrom_all {α : Type} (l : List α) (d : α) (p : α → Bool) : allFrom (fun i => p (l.getD i d)) 0 l.length = l.all p := by
  rw [Bool.eq_iff_iff, allFrom_iff, List.all_eq_true]
  constructor
  · intro h x hx
    obtain ⟨j, hj, rfl⟩ := List.getElem_of_mem hx
    have := h j (by omega) (by omega)
    simpa [List.getD, hj] using this
  · intro h j _ hj
    have hj' : j < l.length := by omega
    have := h l[j] (List.getElem_mem hj')
    simpa [List.getD, hj'] using this

/-- A number within two others. -/
def inR (x a b : Int) : Bool := if x ≥ a then decide (x ≤ b) else false
theorem inR_iff {x a b : Int} : inR x a b = true ↔ a ≤ x ∧ x ≤ b := by
  unfold inR
  split
  · simp
    omega
  · simp
    omega
theorem inR_false {x a b : Int} : inR x a b = false ↔ ¬ (a ≤ x ∧ x ≤ b) := by
  rw [← inR_iff]
  simp

/-! ### Loops that copy a list, or compare two -/
theorem copy_loop {α β : Type} (L : Nat → List α → List β → Int → Option (List β)) (cv : α → β) (z : α)
    (hL : ∀ k x0 x3 x4, L (k + 1) x0 x3 x4 = if x4 < (x0.length : Int) then (if 0 ≤ x4 then (if x4 < (x3.length : Int) then L k x0 (x3.set x4.toNat (cv (x0.getD x4.toNat z))) (wrap64 (x4 + 1)) else none) else none) else some x3)
    (x0 : List α) (hb : x0.length ≤ 140737488351232) : ∀ (d k i : Nat) (x3 : List β), x3.length = x0.length → i + d = x0.length → d < k → L k x0 x3 (i : Int) = some (x3.take i ++ (x0.drop i).map cv)
  | 0, k, i, x3, h3, hi, hk => by
    obtain ⟨k, rfl⟩ : ∃ m, k = m + 1 := ⟨k - 1, by omega⟩
    rw [hL, if_neg (by omega), List.drop_of_length_le (by omega), List.take_of_length_le (by omega)]
    simp
  | d + 1, k, i, x3, h3, hi, hk => by
    obtain ⟨k, rfl⟩ : ∃ m, k = m + 1 := ⟨k - 1, by omega⟩
    have hil : i < x0.length := by omega
    rw [hL, if_pos (by omega), if_pos (by omega), if_pos (by omega), w64 (by omega) (by omega)]
    have e := copy_loop L cv z hL x0 hb d k (i + 1) (x3.set i (cv (x0.getD i z))) (by simpa using h3) (by omega) (by omega)
    rw [Int.toNat_natCast, show ((i : Int) + 1) = ((i + 1 : Nat) : Int) by omega, e]
    congr 1
    rw [List.drop_eq_getElem_cons hil, List.map_cons]
    have hx3 : i < x3.length := by omega
    rw [List.take_succ_eq_append_getElem (by simpa using hx3), List.take_set_of_le (by omega)]
    simp [List.getD, hil]

theorem copy_all {α β : Type} (L : Nat → List α → List β → Int → Option (List β)) (cv : α → β) (z : α) (z' : β)
    (hL : ∀ k x0 x3 x4, L (k + 1) x0 x3 x4 = if x4 < (x0.length : Int) then (if 0 ≤ x4 then (if x4 < (x3.length : Int) then L k x0 (x3.set x4.toNat (cv (x0.getD x4.toNat z))) (wrap64 (x4 + 1)) else none) else none) else some x3)
    (x0 : List α) (hb : x0.length ≤ 140737488351232) : Ev (fun k => L k x0 (List.replicate ((x0.length : Int) : Int).toNat z') 0) (x0.map cv) :=
  ⟨x0.length + 1, fun k hk => by
    have := copy_loop L cv z hL x0 hb x0.length k 0 (List.replicate x0.length z') (by simp) (by omega) (by omega)
    simpa using this⟩

theorem eq_loop {α : Type} (L : Nat → List α → List α → Int → Option Bool) 
    (hL : ∀ k x0 x4, 0 ≤ x4 → L (k + 1) x0 x0 x4 = if x4 < (x0.length : Int) then L k x0 x0 (wrap64 (x4 + 1)) else some true)
    (x0 : List α) (hb : x0.length ≤ 140737488351232) : ∀ (d k i : Nat), i + d = x0.length → d < k → L k x0 x0 (i : Int) = some true
  | 0, k, i, hi, hk => by
    obtain ⟨k, rfl⟩ : ∃ m, k = m + 1 := ⟨k - 1, by omega⟩
    rw [hL _ _ _ (by omega), if_neg (by omega)]
  | d + 1, k, i, hi, hk => by
    obtain ⟨k, rfl⟩ : ∃ m, k = m + 1 := ⟨k - 1, by omega⟩
    rw [hL _ _ _ (by omega), if_pos (by omega), w64 (by omega) (by omega), show ((i : Int) + 1) = ((i + 1 : Nat) : Int) by omega]
    exact eq_loop L hL x0 hb d k (i + 1) (by omega) (by omega)

theorem eq_all {α : Type} (L : Nat → List α → List α → Int → Option Bool) 
    (hL : ∀ k x0 x4, 0 ≤ x4 → L (k + 1) x0 x0 x4 = if x4 < (x0.length : Int) then L k x0 x0 (wrap64 (x4 + 1)) else some true)
    (x0 : List α) (hb : x0.length ≤ 140737488351232) : Ev (fun k => L k x0 x0 0) true :=
  ⟨x0.length + 1, fun k hk => eq_loop L hL x0 hb x0.length k 0 (by omega) (by omega)⟩

/-- A loop that asks a test of each index, and says no at the first that fails. -/
theorem all_loop (P : Nat → Bool) (n : Nat) (hn : n ≤ 140737488351232) (L : Nat → Int → Option Bool) (fin : Option Bool)
    (hL : ∀ k i, i < n → L (k + 1) (i : Int) = if P i = true then L k (wrap64 (i + 1)) else some false) (hend : ∀ k, L (k + 1) (n : Int) = fin) :
    ∀ (d k i : Nat), i + d = n → d < k → L k (i : Int) = if allFrom P i d = true then fin else some false
  | 0, k, i, hi, hk => by
    obtain ⟨k, rfl⟩ : ∃ m, k = m + 1 := ⟨k - 1, by omega⟩
    obtain rfl : i = n := by omega
    rw [hend, allFrom, if_pos rfl]
  | d + 1, k, i, hi, hk => by
    obtain ⟨k, rfl⟩ : ∃ m, k = m + 1 := ⟨k - 1, by omega⟩
    rw [hL _ _ (by omega), w64 (by omega) (by omega), show ((i : Int) + 1) = ((i + 1 : Nat) : Int) by omega, all_loop P n hn L fin hL hend d k (i + 1) (by omega) (by omega), allFrom]
    cases P i <;> simp

theorem all_ev (P : Nat → Bool) (n : Nat) (hn : n ≤ 140737488351232) (L : Nat → Int → Option Bool) (fin : Option Bool)
    (hL : ∀ k i, i < n → L (k + 1) (i : Int) = if P i = true then L k (wrap64 (i + 1)) else some false) (hend : ∀ k, L (k + 1) (n : Int) = fin) :
    ∃ K, ∀ k, K ≤ k → L k 0 = if allFrom P 0 n = true then fin else some false :=
  ⟨n + 1, fun k hk => all_loop P n hn L fin hL hend n k 0 (by omega) (by omega)⟩

/-! ### Marks: a law writes numbers into what came out, and looks whether they are still there -/
def marks {α : Type} (mk : Int → α) (s : Int) : Int → Nat → List α
  | _, 0 => []
  | a, n + 1 => mk a :: marks mk s (a + s) n
theorem marks_length {α : Type} (mk : Int → α) (s : Int) : ∀ (n : Nat) (a : Int), (marks mk s a n).length = n
  | 0, _ => rfl
  | n + 1, a => by rw [marks, List.length_cons, marks_length mk s n]
theorem marks_snoc {α : Type} (mk : Int → α) (s : Int) : ∀ (n : Nat) (a : Int), marks mk s a (n + 1) = marks mk s a n ++ [mk (a + s * n)]
  | 0, a => by simp [marks]
  | n + 1, a => by
    rw [marks, marks_snoc mk s n (a + s), marks]
    have e : a + s + s * (n : Int) = a + s * ((n + 1 : Nat) : Int) := by rw [Int.natCast_add, Int.mul_add]; omega
    rw [e]
    rfl
theorem marks_get {α : Type} (mk : Int → α) (s : Int) (z : α) : ∀ (n : Nat) (a : Int) (i : Nat), i < n → (marks mk s a n).getD i z = mk (a + s * i)
  | 0, _, _, h => by omega
  | n + 1, a, 0, _ => by simp [marks]
  | n + 1, a, i + 1, h => by
    rw [marks, List.getD_cons_succ, marks_get mk s z n (a + s) i (by omega)]
    have e : a + s + s * (i : Int) = a + s * ((i + 1 : Nat) : Int) := by rw [Int.natCast_add, Int.mul_add]; omega
    rw [e]
theorem mark_bound {a s : Int} {i n : Nat} (h0 : 0 ≤ a) (h1 : a ≤ 1000000000000) (hs : 0 ≤ s) (hs' : s ≤ 100) (hi : i ≤ n) (hn : n ≤ 140737488351232) : 0 ≤ a + s * i ∧ a + s * i ≤ 20000000000000000 := by
  have e1 : 0 ≤ s * (i : Int) := Int.mul_nonneg hs (by omega)
  have e2 : s * (i : Int) ≤ 100 * (i : Int) := Int.mul_le_mul_of_nonneg_right hs' (by omega)
  omega
theorem mark_all {α : Type} (L : Nat → List α → Int → Int → Option (Int × List α)) (mk : Int → α) (s : Int) (hs : 0 ≤ s) (hs' : s ≤ 100)
    (hL : ∀ (k : Nat) (x : List α) (a : Int) (i : Nat), i < x.length → x.length ≤ 140737488351232 → 0 ≤ a → a ≤ 20000000000000000 → L (k + 1) x a (i : Int) = L k (x.set i (mk a)) (a + s) ((i + 1 : Nat) : Int)) (hend : ∀ k x a, L (k + 1) x a (x.length : Int) = some (a, x))
    (l : List α) (a : Int) (hb : l.length ≤ 140737488351232) (h0 : 0 ≤ a) (h1 : a ≤ 1000000000000) : Ev (fun k => L k l a 0) (a + s * l.length, marks mk s a l.length) := by
  have key : ∀ (d i : Nat) (x : List α), x.length = l.length → i + d = l.length → x.take i = marks mk s a i → Ev (fun k => L k x (a + s * i) (i : Int)) (a + s * l.length, marks mk s a l.length) := by
    intro d
    induction d with
    | zero =>
      intro i x hx hi ht
      obtain rfl : i = x.length := by omega
      refine Ev.step (f := fun _ => some (a + s * (x.length : Int), x)) (fun k => hend k x _) ?_
      rw [List.take_of_length_le (Nat.le_refl _)] at ht
      rw [← hx, ← ht]
      exact Ev.now _
    | succ d ih =>
      intro i x hx hi ht
      have hil : i < x.length := by omega
      have hbd := mark_bound h0 h1 hs hs' (show i ≤ l.length by omega) hb
      have e : a + s * (i : Int) + s = a + s * ((i + 1 : Nat) : Int) := by rw [Int.natCast_add, Int.mul_add]; omega
      refine Ev.step (f := fun k => L k (x.set i (mk (a + s * i))) (a + s * ((i + 1 : Nat) : Int)) ((i + 1 : Nat) : Int)) (fun k => by rw [hL k x _ i hil (by omega) hbd.1 hbd.2, e]) ?_
      refine ih (i + 1) _ (by simpa using hx) (by omega) ?_
      rw [List.take_succ_eq_append_getElem (by simpa using hil), List.take_set_of_le (by omega), ht, marks_snoc]
      simp
  have := key l.length 0 l rfl (by omega) rfl
  simpa using this
theorem held_all {α : Type} (H : Nat → List α → Int → Int → Option Int) (mk : Int → α) (z : α) (s : Int) (hs : 0 ≤ s) (hs' : s ≤ 100)
    (hH : ∀ (k : Nat) (x : List α) (a : Int) (i : Nat), i < x.length → x.length ≤ 140737488351232 → 0 ≤ a → a ≤ 20000000000000000 → x.getD i z = mk a → H (k + 1) x a (i : Int) = H k x (a + s) ((i + 1 : Nat) : Int)) (hend : ∀ k x a, H (k + 1) x a (x.length : Int) = some a)
    (n : Nat) (a : Int) (hb : n ≤ 140737488351232) (h0 : 0 ≤ a) (h1 : a ≤ 1000000000000) : Ev (fun k => H k (marks mk s a n) a 0) (a + s * n) := by
  have key : ∀ (d i : Nat), i + d = n → Ev (fun k => H k (marks mk s a n) (a + s * i) (i : Int)) (a + s * n) := by
    intro d
    induction d with
    | zero =>
      intro i hi
      obtain rfl : i = n := by omega
      refine Ev.step (f := fun _ => some (a + s * (i : Int))) (fun k => ?_) (Ev.now _)
      have := hend k (marks mk s a i) (a + s * i)
      rwa [marks_length] at this
    | succ d ih =>
      intro i hi
      have hbd := mark_bound h0 h1 hs hs' (show i ≤ n by omega) hb
      have e : a + s * (i : Int) + s = a + s * ((i + 1 : Nat) : Int) := by rw [Int.natCast_add, Int.mul_add]; omega
      exact Ev.step (fun k => by rw [hH k _ _ i (by rw [marks_length]; omega) (by rw [marks_length]; omega) hbd.1 hbd.2 (marks_get mk s z n a i (by omega)), e]) (ih (i + 1) (by omega))
  have := key n 0 (by omega)
  simpa using this

end Go.Proofs.YtiooiefjcbooeaaDoor.Plain

/- The reference's network, in plain: membership, putting into an ascending list, the shift of a leg, the placing. Conditions: valid legs. -/
namespace Go.Proofs.YtiooiefjcbooeaaDoor.Net
open Go.RowKit Go.Proofs.YtiooiefjcbooeaaDoorW.PrintWords Go.Proofs.YtiooiefjcbooeaaDoorW.PrintLast Go.Proofs.YtiooiefjcbooeaaDoorW.PrintMore Go.Proofs.YtiooiefjcbooeaaDoor.A Go.Proofs.YtiooiefjcbooeaaDoor.Plain
open Go.Proofs.YtiooiefjcbooeaaDoor.Tree (verts legs)
open Go.Proofs.YtiooiefjcbooeaaDoor.Grow (Q sweep grow)
set_option linter.unusedVariables false
set_option linter.unusedSimpArgs false
theorem Ev.step_ge {α : Type} {g f : Nat → Option α} {r : α} (N : Nat) (h : ∀ k, N ≤ k → g (k + 1) = f k) (k : Ev f r) : Ev g r := by
  obtain ⟨K, hK⟩ := k
  refine ⟨max N K + 1, fun m hm => ?_⟩
  obtain ⟨m, rfl⟩ : ∃ x, m = x + 1 := ⟨m - 1, by omega⟩
  rw [h m (by omega)]
  exact hK m (by omega)
theorem has_loop (l : List Int) (n : Int) (hl : l.length ≤ 1000000) : ∀ (d i k : Nat), i + d = l.length → d < k → spec_l1Has.l0 k l n (i : Int) = some (decide (n ∈ l.drop i)) := by
  intro d
  induction d with
  | zero =>
    intro i k hi hk
    obtain ⟨k, rfl⟩ : ∃ m, k = m + 1 := ⟨k - 1, by omega⟩
    simp only [spec_l1Has.l0]
    rw [if_neg (by omega), List.drop_eq_nil_of_le (by omega)]
    simp
  | succ d ih =>
    intro i k hi hk
    obtain ⟨k, rfl⟩ : ∃ m, k = m + 1 := ⟨k - 1, by omega⟩
    have hlt : i < l.length := by omega
    have er : rd l (i : Int) = l[i] := by
      unfold rd
      rw [Int.toNat_natCast, List.getD_eq_getElem?_getD, List.getElem?_eq_getElem hlt]
      rfl
    have e : wrap64 ((i : Int) + 1) = ((i + 1 : Nat) : Int) := by rw [w64 (by omega) (by omega)]; omega
    rw [List.drop_eq_getElem_cons hlt]
    simp only [spec_l1Has.l0]
    by_cases hc : l[i] = n
    · rw [if_pos (by omega), if_pos (by omega), er, if_pos hc, hc]
      simp
    · have hd : decide (n ∈ l[i] :: l.drop (i + 1)) = decide (n ∈ l.drop (i + 1)) := by rw [decide_eq_decide, List.mem_cons]; exact ⟨fun h => h.resolve_left (fun e => hc e.symm), Or.inr⟩
      rw [if_pos (by omega), if_pos (by omega), er, if_neg hc, e, hd]
      exact ih (i + 1) k (by omega) (by omega)
theorem has_at (l : List Int) (n : Int) (hl : l.length ≤ 1000000) (k : Nat) (hk : l.length < k) : spec_l1Has.f k l n = some (decide (n ∈ l)) := has_loop l n hl l.length 0 k (by omega) hk
theorem has_ev (l : List Int) (n : Int) (hl : l.length ≤ 1000000) : Ev (fun k => spec_l1Has.f k l n) (decide (n ∈ l)) := ⟨l.length + 1, fun k hk => has_at l n hl k hk⟩
theorem put_split (n : Int) : ∀ (p s : List Int), (∀ x ∈ p, x < n) → (∀ y ∈ s.head?, n < y) → Sort.put (p ++ s) n = p ++ n :: s
  | [], [], _, _ => rfl
  | [], y :: s, _, h => by
    have := h y rfl
    simp only [List.nil_append, Sort.put]
    rw [if_neg (by omega), if_neg (by omega)]
  | x :: p, s, h, hs => by
    have := h x List.mem_cons_self
    simp only [List.cons_append, Sort.put]
    rw [if_pos this, put_split n p s (fun x hx => h x (List.mem_cons_of_mem _ hx)) hs]
theorem put_loop (l : List Int) (n : Int) (hl : l.length ≤ 1000000) (ha : Sort.Asc l) (hn : n ∉ l) : ∀ (d i k : Nat), i + d = l.length → d < k → (∀ x ∈ l.take i, x < n) → spec_l1Put.l0 k l n (i : Int) = some (Sort.put l n) := by
  intro d
  induction d with
  | zero =>
    intro i k hi hk h
    obtain ⟨k, rfl⟩ : ∃ m, k = m + 1 := ⟨k - 1, by omega⟩
    have e1 : Sort.put l n = l.take i ++ n :: l.drop i := by
      have := put_split n (l.take i) (l.drop i) h (by rw [List.drop_eq_nil_of_le (by omega)]; simp)
      rwa [List.take_append_drop] at this
    simp only [spec_l1Put.l0]
    rw [if_neg (by omega)]
    simp only [Option.bind_some, Int.toNat_natCast]
    rw [if_pos (by omega), if_pos (by omega), if_pos (by simp; omega), if_pos (by simp; omega), if_pos (by simp; omega), e1]
    simp
  | succ d ih =>
    intro i k hi hk h
    obtain ⟨k, rfl⟩ : ∃ m, k = m + 1 := ⟨k - 1, by omega⟩
    have hlt : i < l.length := by omega
    have er : rd l (i : Int) = l[i] := by
      unfold rd
      rw [Int.toNat_natCast, List.getD_eq_getElem?_getD, List.getElem?_eq_getElem hlt]
      rfl
    have e : wrap64 ((i : Int) + 1) = ((i + 1 : Nat) : Int) := by rw [w64 (by omega) (by omega)]; omega
    have hne : l[i] ≠ n := fun e => hn (e ▸ List.getElem_mem hlt)
    by_cases hc : l[i] < n
    · simp only [spec_l1Put.l0]
      rw [if_pos (by omega), if_pos (by omega), er, if_pos hc, e]
      refine ih (i + 1) k (by omega) (by omega) (fun x hx => ?_)
      · rw [List.take_succ_eq_append_getElem hlt, List.mem_append, List.mem_singleton] at hx
        rcases hx with hx | rfl
        · exact h x hx
        · exact hc
    · have e1 : Sort.put l n = l.take i ++ n :: l.drop i := by
        have := put_split n (l.take i) (l.drop i) h (by
          rw [List.drop_eq_getElem_cons hlt]
          intro y hy
          simp only [List.head?_cons, Option.mem_def, Option.some.injEq] at hy
          omega)
        rwa [List.take_append_drop] at this
      simp only [spec_l1Put.l0]
      rw [if_pos (by omega), if_pos (by omega), er, if_neg hc, if_neg hne]
      simp only [Option.bind_some, Int.toNat_natCast]
      rw [if_pos (by omega), if_pos (by simp; omega), if_pos (by simp; omega), if_pos (by simp; omega), e1]
      simp
theorem put_at (l : List Int) (n : Int) (hl : l.length ≤ 1000000) (ha : Sort.Asc l) (hn : n ∉ l) (k : Nat) (hk : l.length < k) : spec_l1Put.f k l n = some (Sort.put l n) := put_loop l n hl ha hn l.length 0 k (by omega) hk (by simp)
/-! ### The shift -/
theorem div_eq (a : Int) (h0 : -1000000000 ≤ a) (h1 : a ≤ 1000000000) : spec_l2Div.f a 1000 = some (rnd a) := by
  unfold spec_l2Div.f rnd
  have e2 : wrap64 (2 * 1000) = 2000 := by unfold wrap64; omega
  by_cases h : a < 0
  · have e1 : wrap64 ((-2) * a) = 2 * (-a) := by unfold wrap64; omega
    have e3 : wrap64 (2 * (-a) + 1000) = 2 * (-a) + 1000 := by unfold wrap64; omega
    have e4 : Int.tdiv (2 * (-a) + 1000) 2000 = (2 * (-a) + 1000) / 2000 := Int.tdiv_eq_ediv_of_nonneg (by omega)
    have e5 : wrap64 ((2 * (-a) + 1000) / 2000) = (2 * (-a) + 1000) / 2000 := by unfold wrap64; omega
    have e6 : wrap64 (-((2 * (-a) + 1000) / 2000)) = -((2 * (-a) + 1000) / 2000) := by unfold wrap64; omega
    rw [if_pos h, e2, if_neg (by decide), e1, e3, e4, e5, e6, if_pos h]
  · have e1 : wrap64 (2 * a) = 2 * a := by unfold wrap64; omega
    have e3 : wrap64 (2 * a + 1000) = 2 * a + 1000 := by unfold wrap64; omega
    have e4 : Int.tdiv (2 * a + 1000) 2000 = (2 * a + 1000) / 2000 := Int.tdiv_eq_ediv_of_nonneg (by omega)
    have e5 : wrap64 ((2 * a + 1000) / 2000) = (2 * a + 1000) / 2000 := by unfold wrap64; omega
    rw [if_neg h, e2, if_neg (by decide), e1, e3, e4, e5, if_neg h]
theorem table_eq : spec_l2Table.f = some Sine.tab := rfl
theorem sine_eq (a : Int) (h0 : -1000000 ≤ a) (h1 : a ≤ 1000000) : spec_l2Sine.f a = some (Sine.f a) := by
  have hm : Int.tmod (wrap64 (Int.tmod a 360 + 360)) 360 = a % 360 := by
    have e0 : Int.tmod a 360 = a % 360 ∨ Int.tmod a 360 = a % 360 - 360 := by
      rw [Int.tmod_eq_emod]
      split
      · left; omega
      · right; simp
    have e1 : wrap64 (Int.tmod a 360 + 360) = Int.tmod a 360 + 360 := by unfold wrap64; omega
    rw [e1, Int.tmod_eq_emod_of_nonneg (by omega)]
    omega
  unfold spec_l2Sine.f Sine.f
  simp only [hm]
  have g0 : 0 ≤ a % 360 := by omega
  have g1 : a % 360 < 360 := by omega
  generalize a % 360 = d at *
  have hlen : (Sine.tab.length : Int) = 91 := rfl
  have w1 : wrap64 (180 - d) = 180 - d := by unfold wrap64; omega
  have w2 : wrap64 (d - 180) = d - 180 := by unfold wrap64; omega
  have w3 : wrap64 (360 - d) = 360 - d := by unfold wrap64; omega
  have hb : ∀ i : Nat, wrap64 (-(Sine.tab.getD i 0)) = -(Sine.tab.getD i 0) := fun i => by have := Sine.getD_bound i; unfold wrap64; omega
  by_cases c1 : d ≤ 90
  · rw [if_pos c1, table_eq, Option.bind_some, if_pos g0, if_pos (by omega), if_pos (by omega)]
    unfold Sine.s rd
    rw [if_pos c1]
  · rw [if_neg c1]
    by_cases c2 : d ≤ 180
    · rw [if_pos c2, table_eq, Option.bind_some, w1, if_pos (by omega), if_pos (by omega), if_pos c2]
      unfold Sine.s rd
      rw [if_neg c1]
    · rw [if_neg c2, if_neg c2]
      by_cases c3 : d ≤ 270
      · rw [if_pos c3, table_eq, Option.bind_some, w2, if_pos (by omega), if_pos (by omega)]
        unfold Sine.s rd
        rw [if_pos (by omega), hb]
      · rw [if_neg c3, table_eq, Option.bind_some, w3, if_pos (by omega), if_pos (by omega)]
        unfold Sine.s rd
        rw [if_neg (by omega), hb, show 180 - (d - 180) = 360 - d by omega]
theorem cosine_eq (a : Int) (h0 : -100000 ≤ a) (h1 : a ≤ 100000) : spec_l2Cosine.f a = some (Sine.f (a + 90)) := by
  unfold spec_l2Cosine.f
  rw [w64 (by omega) (by omega), sine_eq _ (by omega) (by omega)]
  rfl
theorem shift_eq (x : S56) (h : Good x) : spec_l4Shift.f x.f0 x.f1 x.f2 x.f3 x.f4 = some ((shift x).f0, (shift x).f1, (shift x).f2) := by
  obtain ⟨_, _, _, h2, h3, h4⟩ := h
  have a := part_bound x.f2 x.f4 500 (by omega) (by omega)
  have p1 := prod_bound x.f2 (x.f4 + 90) (by omega) (by omega)
  have p2 := prod_bound x.f2 x.f4 (by omega) (by omega)
  have p3 := prod_bound (part x.f2 x.f4).1 (x.f3 + 90) (by omega) (by omega)
  have p4 := prod_bound (part x.f2 x.f4).1 x.f3 (by omega) (by omega)
  have ep : rnd (x.f2 * Sine.f (x.f4 + 90)) = (part x.f2 x.f4).1 := rfl
  unfold spec_l4Shift.f
  rw [cosine_eq _ (by omega) (by omega), Option.bind_some, w64 (by omega) (by omega), div_eq _ (by omega) (by omega), Option.bind_some, ep, sine_eq _ (by omega) (by omega), Option.bind_some, w64 (by omega) (by omega), div_eq _ (by omega) (by omega), Option.bind_some,
    cosine_eq _ (by omega) (by omega), Option.bind_some, w64 (by omega) (by omega), div_eq _ (by omega) (by omega), Option.bind_some, sine_eq _ (by omega) (by omega), Option.bind_some, w64 (by omega) (by omega), div_eq _ (by omega) (by omega), Option.bind_some]
  rfl
/-! ### The placing -/
def plL : Q → List Int
  | [] => [0]
  | (_, _, s) :: q => Sort.put (plL q) s
def trL : Q → List Int
  | [] => []
  | (i, _, _) :: q => Sort.put (trL q) i
def XL (ls : L) (q : Q) : List S34 := (List.range 8).map (Xq ls q)
theorem mem_plL (q : Q) (s : Int) : s ∈ plL q ↔ s ∈ verts 0 q := by
  induction q with
  | nil => simp [plL, verts]
  | cons x q ih =>
    obtain ⟨i, u, t⟩ := x
    simp only [plL, Sort.mem_put, ih, verts, List.map_cons, List.mem_cons]
    constructor
    · rintro (h | h | h)
      · exact Or.inr (Or.inl h)
      · exact Or.inl h
      · exact Or.inr (Or.inr h)
    · rintro (h | h | h)
      · exact Or.inr (Or.inl h)
      · exact Or.inl h
      · exact Or.inr (Or.inr h)
theorem mem_trL (q : Q) (i : Int) : i ∈ trL q ↔ i ∈ legs q := by
  induction q with
  | nil => simp [trL, legs]
  | cons x q ih =>
    obtain ⟨j, u, t⟩ := x
    simp only [trL, Sort.mem_put, ih, legs, List.map_cons, List.mem_cons]
theorem put_len_le (l : List Int) (n : Int) : (Sort.put l n).length ≤ l.length + 1 := by
  induction l with
  | nil => simp [Sort.put]
  | cons x l ih =>
    simp only [Sort.put]
    split
    · simp; omega
    · split <;> simp
theorem asc_plL (q : Q) : Sort.Asc (plL q) := by
  induction q with
  | nil => simp [plL, Sort.Asc]
  | cons x q ih => exact Sort.asc_put ih _
theorem asc_trL (q : Q) : Sort.Asc (trL q) := by
  induction q with
  | nil => simp [trL, Sort.Asc]
  | cons x q ih => exact Sort.asc_put ih _
theorem plL_len (q : Q) : (plL q).length ≤ q.length + 1 := by
  induction q with
  | nil => simp [plL]
  | cons x q ih =>
    obtain ⟨i, u, s⟩ := x
    have := put_len_le (plL q) s
    simp only [plL, List.length_cons]
    omega
theorem trL_len (q : Q) : (trL q).length ≤ q.length := by
  induction q with
  | nil => simp [trL]
  | cons x q ih =>
    obtain ⟨i, u, s⟩ := x
    have := put_len_le (trL q) i
    simp only [trL, List.length_cons]
    omega
theorem XL_len (ls : L) (q : Q) : (XL ls q).length = 8 := by simp [XL]
theorem XL_at (ls : L) (q : Q) (a : Nat) (h : a < 8) : rd_T34 (XL ls q) (a : Int) = Xq ls q a := by
  unfold rd_T34 XL
  rw [Int.toNat_natCast, List.getD_eq_getElem?_getD, List.getElem?_map, List.getElem?_range h]
  rfl
theorem XL_set (ls : L) (q q' : Q) (d : Nat) (v : S34) (h : ∀ i, i < 8 → Xq ls q' i = if i = d then v else Xq ls q i) : (XL ls q).set d v = XL ls q' := by
  apply List.ext_getElem
  · simp [XL]
  · intro i h1 h2
    rw [List.getElem_set]
    simp only [XL, List.getElem_map, List.getElem_range]
    have hi : i < 8 := by simpa [XL] using h2
    rw [h i hi]
    by_cases e : i = d
    · subst e; simp
    · rw [if_neg e, if_neg (fun e' => e e'.symm)]
theorem XL_nil (ls : L) : List.replicate 8 z34 = XL ls [] := rfl
theorem leg_good {ls : L} (hg : ∀ x ∈ ls, Good x) (i : Nat) (hi : i < ls.length) : Good (leg ls (i : Int)) := hg _ (by
  unfold leg rd_T56
  rw [Int.toNat_natCast, List.getD_eq_getElem?_getD, List.getElem?_eq_getElem hi]
  exact List.getElem_mem _)
/-- One leg. -/
theorem one_leg (ls : L) (hn : ls.length ≤ 12) (hg : ∀ x ∈ ls, Good x) (q : Q) (ok : Grow.Ok (ends ls) ls.length q) (i : Nat) (hi : i < ls.length) (b : Bool) (hb : q.length ≤ 7) (r : List S34 × List Int × List Int)
    (h : ∀ b', b' = (b || decide (q.length < (Grow.step (ends ls) q i).length)) → Ev (fun k => spec_l6Place.l1 k ls (XL ls (Grow.step (ends ls) q i)) (plL (Grow.step (ends ls) q i)) (trL (Grow.step (ends ls) q i)) b' ((i + 1 : Nat) : Int)) r) :
    Ev (fun k => spec_l6Place.l1 k ls (XL ls q) (plL q) (trL q) b (i : Int)) r := by
  have b1 : (i : Int) < (ls.length : Int) := Int.ofNat_lt.mpr hi
  have b0 : (0 : Int) ≤ (i : Int) := Int.natCast_nonneg i
  have e : wrap64 ((i : Int) + 1) = ((i + 1 : Nat) : Int) := by rw [w64 (by omega) (by omega)]; omega
  have hgood := leg_good hg i hi
  have hE : ends ls i = ((leg ls i).f0, (leg ls i).f1) := rfl
  have hrd : rd_T56 ls (i : Int) = leg ls i := rfl
  have hsh := shift_eq _ hgood
  generalize hx : leg ls (i : Int) = x at hgood hE hrd hsh
  obtain ⟨⟨a0, a8⟩, ⟨d0, d8⟩, had, _⟩ := hgood
  obtain ⟨a, ha⟩ := Int.eq_ofNat_of_zero_le a0
  obtain ⟨d, hd⟩ := Int.eq_ofNat_of_zero_le d0
  rw [ha, hd] at had hE
  have ka0 : (0 : Int) ≤ (a : Int) := Int.natCast_nonneg a
  have kd0 : (0 : Int) ≤ (d : Int) := Int.natCast_nonneg d
  rw [ha] at a8
  rw [hd] at d8
  have na8 : a < 8 := Int.ofNat_lt.mp a8
  have nd8 : d < 8 := Int.ofNat_lt.mp d8
  have hlen : ((XL ls q).length : Int) = 8 := by rw [XL_len]; rfl
  have ka1 : (a : Int) < ((XL ls q).length : Int) := by rw [hlen]; exact Int.ofNat_lt.mpr na8
  have kd1 : (d : Int) < ((XL ls q).length : Int) := by rw [hlen]; exact Int.ofNat_lt.mpr nd8
  have l1 : (plL q).length ≤ 8 := Nat.le_trans (plL_len q) (Nat.succ_le_succ hb)
  have l2 : (trL q).length ≤ 7 := Nat.le_trans (trL_len q) hb
  have l1m : (plL q).length ≤ 1000000 := Nat.le_trans l1 (by decide)
  have l2m : (trL q).length ≤ 1000000 := Nat.le_trans l2 (by decide)
  have l1k : ∀ {k : Nat}, 20 ≤ k → (plL q).length < k := fun hk => Nat.lt_of_le_of_lt l1 (Nat.lt_of_lt_of_le (by decide : 8 < 20) hk)
  have l2k : ∀ {k : Nat}, 20 ≤ k → (trL q).length < k := fun hk => Nat.lt_of_le_of_lt l2 (Nat.lt_of_lt_of_le (by decide : 7 < 20) hk)
  have A1 := fun k (hk : 20 ≤ k) => has_at (plL q) (a : Int) l1m k (l1k hk)
  have D1 := fun k (hk : 20 ≤ k) => has_at (plL q) (d : Int) l1m k (l1k hk)
  simp only [mem_plL] at A1 D1
  have hitr : ¬ ((a : Int) ∈ verts 0 q ∧ (d : Int) ∈ verts 0 q) → (i : Int) ∉ trL q := by
    intro c h
    rw [mem_trL] at h
    have := ok.legs_ends _ h
    rw [hE] at this
    exact c ⟨this.1, this.2.1⟩
  have na : ∀ {c : Nat}, (c : Int) ∉ verts 0 q → (c : Int) ∉ plL q := fun h h' => h ((mem_plL q _).mp h')
  by_cases pa : (a : Int) ∈ verts 0 q
  · by_cases pd : (d : Int) ∈ verts 0 q
    · have hs : Grow.step (ends ls) q i = q := by
        unfold Grow.step
        rw [hE, if_neg (fun c => c.2 pd), if_neg (fun c => c.2 pa)]
      rw [hs] at h
      refine Ev.step_ge 20 (f := fun k => spec_l6Place.j2 k ls (XL ls q) (plL q) (trL q) b (i : Int) (a : Int) (d : Int) false) (fun k hk => ?_) ?_
      · simp only [spec_l6Place.l1]
        rw [if_pos b1, if_pos b0, hrd, ha, hd, A1 k hk, Option.bind_some, decide_eq_true pa, if_pos rfl, D1 k hk, Option.bind_some, decide_eq_true pd]
        rfl
      refine Ev.step_ge 20 (f := fun k => spec_l6Place.j3 k ls (XL ls q) (plL q) (trL q) b (i : Int) (a : Int) (d : Int) false) (fun k hk => ?_) ?_
      · simp only [spec_l6Place.j2]
        rw [if_neg (by decide), D1 k hk, Option.bind_some, decide_eq_true pd, if_pos rfl, A1 k hk, Option.bind_some, decide_eq_true pa]
        rfl
      refine Ev.step_ge 20 (fun k hk => ?_) (h b (by simp))
      simp only [spec_l6Place.j3]
      rw [if_neg (by decide), e]
    · have hs : Grow.step (ends ls) q i = ((i : Int), (a : Int), (d : Int)) :: q := by
        unfold Grow.step
        rw [hE, if_pos ⟨pa, pd⟩]
      rw [hs] at h
      refine Ev.step_ge 20 (f := fun k => spec_l6Place.j2 k ls (XL ls q) (plL q) (trL q) b (i : Int) (a : Int) (d : Int) true) (fun k hk => ?_) ?_
      · simp only [spec_l6Place.l1]
        rw [if_pos b1, if_pos b0, hrd, ha, hd, A1 k hk, Option.bind_some, decide_eq_true pa, if_pos rfl, D1 k hk, Option.bind_some, decide_eq_false pd]
        rfl
      refine Ev.step_ge 20 (fun k hk => ?_) (h true (by simp))
      simp only [spec_l6Place.j2]
      rw [if_pos trivial, if_pos ka0, if_pos ka1, if_pos b0, if_pos b1, hrd, hsh, Option.bind_some]
      simp only [spec_l4Plus.f, Option.bind_some]
      rw [if_pos kd0, if_pos kd1, put_at _ _ l1m (asc_plL q) (na pd) k (l1k hk), Option.bind_some, put_at _ _ l2m (asc_trL q) (hitr (fun c => pd c.2)) k (l2k hk), Option.bind_some, e, XL_at _ _ _ na8, Int.toNat_natCast]
      rw [← XL_set ls q (((i : Int), (a : Int), (d : Int)) :: q) d (plus (Xq ls q a) (shift x) 1) (fun s _ => Xq_fore hE hx s)]
      rfl
  · by_cases pd : (d : Int) ∈ verts 0 q
    · have hs : Grow.step (ends ls) q i = ((i : Int), (d : Int), (a : Int)) :: q := by
        unfold Grow.step
        rw [hE, if_neg (fun c => pa c.1), if_pos ⟨pd, pa⟩]
      rw [hs] at h
      refine Ev.step_ge 20 (f := fun k => spec_l6Place.j2 k ls (XL ls q) (plL q) (trL q) b (i : Int) (a : Int) (d : Int) false) (fun k hk => ?_) ?_
      · simp only [spec_l6Place.l1]
        rw [if_pos b1, if_pos b0, hrd, ha, hd, A1 k hk, Option.bind_some, decide_eq_false pa, if_neg (by decide)]
      refine Ev.step_ge 20 (f := fun k => spec_l6Place.j3 k ls (XL ls q) (plL q) (trL q) b (i : Int) (a : Int) (d : Int) true) (fun k hk => ?_) ?_
      · simp only [spec_l6Place.j2]
        rw [if_neg (by decide), D1 k hk, Option.bind_some, decide_eq_true pd, if_pos rfl, A1 k hk, Option.bind_some, decide_eq_false pa]
        rfl
      refine Ev.step_ge 20 (fun k hk => ?_) (h true (by simp))
      simp only [spec_l6Place.j3]
      rw [if_pos trivial, if_pos kd0, if_pos kd1, if_pos b0, if_pos b1, hrd, hsh, Option.bind_some]
      simp only [spec_l4Plus.f, Option.bind_some]
      rw [if_pos ka0, if_pos ka1, put_at _ _ l1m (asc_plL q) (na pa) k (l1k hk), Option.bind_some, put_at _ _ l2m (asc_trL q) (hitr (fun c => pa c.1)) k (l2k hk), Option.bind_some, e, XL_at _ _ _ nd8, Int.toNat_natCast]
      rw [← XL_set ls q (((i : Int), (d : Int), (a : Int)) :: q) a (plus (Xq ls q d) (shift x) (-1)) (fun s _ => Xq_back hE had hx s)]
      rfl
    · have hs : Grow.step (ends ls) q i = q := by
        unfold Grow.step
        rw [hE, if_neg (fun c => pa c.1), if_neg (fun c => pd c.1)]
      rw [hs] at h
      refine Ev.step_ge 20 (f := fun k => spec_l6Place.j2 k ls (XL ls q) (plL q) (trL q) b (i : Int) (a : Int) (d : Int) false) (fun k hk => ?_) ?_
      · simp only [spec_l6Place.l1]
        rw [if_pos b1, if_pos b0, hrd, ha, hd, A1 k hk, Option.bind_some, decide_eq_false pa, if_neg (by decide)]
      refine Ev.step_ge 20 (f := fun k => spec_l6Place.j3 k ls (XL ls q) (plL q) (trL q) b (i : Int) (a : Int) (d : Int) false) (fun k hk => ?_) ?_
      · simp only [spec_l6Place.j2]
        rw [if_neg (by decide), D1 k hk, Option.bind_some, decide_eq_false pd, if_neg (by decide)]
      refine Ev.step_ge 20 (fun k hk => ?_) (h b (by simp))
      simp only [spec_l6Place.j3]
      rw [if_neg (by decide), e]
theorem Good.range {ls : L} (hg : ∀ x ∈ ls, Good x) : ∀ i : Int, 0 ≤ i → i < ls.length → 0 ≤ (ends ls i).1 ∧ (ends ls i).1 < 8 ∧ 0 ≤ (ends ls i).2 ∧ (ends ls i).2 < 8 := by
  intro i h0 h1
  obtain ⟨k, rfl⟩ := Int.eq_ofNat_of_zero_le h0
  have h := leg_good hg k (Int.ofNat_lt.mp h1)
  exact ⟨h.1.1, h.1.2, h.2.1.1, h.2.1.2⟩
/-- One round from leg i on. -/
theorem round_ev (ls : L) (hn : ls.length ≤ 12) (hg : ∀ x ∈ ls, Good x) (r : List S34 × List Int × List Int) (q0 : Q) : ∀ (d i : Nat) (q : Q), i + d = ls.length → Grow.Ok (ends ls) ls.length q → q0.length ≤ q.length →
    (Ev (fun k => spec_l6Place.l0 k ls (XL ls (sweep (ends ls) d i q)) (plL (sweep (ends ls) d i q)) (trL (sweep (ends ls) d i q)) (decide (q0.length < (sweep (ends ls) d i q).length))) r) →
    Ev (fun k => spec_l6Place.l1 k ls (XL ls q) (plL q) (trL q) (decide (q0.length < q.length)) (i : Int)) r := by
  intro d
  induction d with
  | zero =>
    intro i q hi ok hq h
    refine Ev.step (fun k => ?_) h
    simp only [spec_l6Place.l1]
    rw [if_neg (fun c => by have := Int.ofNat_lt.mp c; omega)]
    rfl
  | succ d ih =>
    intro i q hi ok hq h
    refine one_leg ls hn hg q ok i (by omega) _ (ok.len _ (Good.range hg)) r (fun b' hb' => ?_)
    have hl := Grow.step_len (ends ls) q i
    have hb2 : b' = decide (q0.length < (Grow.step (ends ls) q i).length) := by
      rw [hb', ← Bool.decide_or, decide_eq_decide]
      omega
    rw [hb2]
    exact ih (i + 1) _ (by omega) (ok.step _ (by omega) (by omega)) (by omega) h
theorem rounds_ev (ls : L) (hn : ls.length ≤ 12) (hg : ∀ x ∈ ls, Good x) (R : Q) : ∀ (f : Nat) (q : Q), Grow.Ok (ends ls) ls.length q → 8 ≤ f + q.length → grow (ends ls) ls.length f q = R → Ev (fun k => spec_l6Place.l0 k ls (XL ls q) (plL q) (trL q) true) (XL ls R, plL R, trL R) := by
  intro f
  induction f with
  | zero =>
    intro q ok h8 hR
    have := ok.len _ (Good.range hg)
    omega
  | succ f ih =>
    intro q ok h8 hR
    refine Ev.step (f := fun k => spec_l6Place.l1 k ls (XL ls q) (plL q) (trL q) (decide (q.length < q.length)) ((0 : Nat) : Int)) (fun k => ?_) ?_
    · simp only [spec_l6Place.l0]
      rw [if_pos trivial, decide_eq_false (Nat.lt_irrefl _)]
      rfl
    · refine round_ev ls hn hg _ q ls.length 0 q (by omega) ok (Nat.le_refl _) ?_
      rw [grow] at hR
      have hl := Grow.sweep_len (ends ls) ls.length 0 q
      by_cases c : (sweep (ends ls) ls.length 0 q).length = q.length
      · rw [if_pos c] at hR
        have hs := (Grow.sweep_same (ends ls) c).1
        have e0 : sweep (ends ls) ls.length ((0 : Nat) : Int) q = q := hs
        rw [e0, decide_eq_false (Nat.lt_irrefl _), hR]
        refine Ev.step (f := fun _ => some (XL ls R, plL R, trL R)) (fun k => ?_) (Ev.now _)
        simp only [spec_l6Place.l0]
        rw [if_neg (by decide)]
      · rw [if_neg c] at hR
        have e1 : decide (q.length < (sweep (ends ls) ls.length ((0 : Nat) : Int) q).length) = true := decide_eq_true (by
          show q.length < (sweep (ends ls) ls.length 0 q).length
          omega)
        rw [e1]
        exact ih _ (ok.sweep _ (by omega) (by omega)) (by show 8 ≤ f + (sweep (ends ls) ls.length 0 q).length; omega) hR
/-- THE PLACING OF THE REFERENCE. -/
theorem place_ev (ls : L) (hn : ls.length ≤ 12) (hg : ∀ x ∈ ls, Good x) (R : Q) (hR : grow (ends ls) ls.length 8 [] = R) : Ev (fun k => spec_l6Place.f k ls) (XL ls R, plL R, trL R) := by
  refine Ev.congr (f := fun k => spec_l6Place.l0 k ls (XL ls []) (plL []) (trL []) true) (fun k => ?_) (rounds_ev ls hn hg R 8 [] (Grow.Ok.nil _ _) (by simp) hR)
  unfold spec_l6Place.f
  rw [if_pos (by decide)]
  rfl
end Go.Proofs.YtiooiefjcbooeaaDoor.Net

/- Valid legs, the closing legs, in plain. Conditions: the lists' lengths. -/
namespace Go.Proofs.YtiooiefjcbooeaaDoor.Net
open Go.RowKit Go.Proofs.YtiooiefjcbooeaaDoorW.PrintWords Go.Proofs.YtiooiefjcbooeaaDoorW.PrintLast Go.Proofs.YtiooiefjcbooeaaDoorW.PrintMore Go.Proofs.YtiooiefjcbooeaaDoor.A Go.Proofs.YtiooiefjcbooeaaDoor.Plain
open Go.Proofs.YtiooiefjcbooeaaDoor.Tree (verts legs)
open Go.Proofs.YtiooiefjcbooeaaDoor.Grow (Q sweep grow)
set_option linter.unusedVariables false
set_option linter.unusedSimpArgs false
instance : DecidablePred Good := fun x => by unfold Good; infer_instance
theorem within_eq (x a b : Int) : impl_within.f x a b = some (decide (a ≤ x ∧ x ≤ b)) := by
  unfold impl_within.f
  by_cases h : x ≥ a
  · rw [if_pos h]; congr 1; rw [decide_eq_decide]; omega
  · rw [if_neg h, decide_eq_false (by omega)]
theorem IsLeg_eq (x : S56) : impl_IsLeg.f x.f0 x.f1 x.f2 x.f3 x.f4 = some (decide (Good x)) := by
  unfold impl_IsLeg.f impl_isStation.f impl_isBearing.f
  simp only [within_eq, Option.bind_some]
  by_cases h0 : 0 ≤ x.f0 ∧ x.f0 ≤ 7
  · rw [decide_eq_true h0, if_pos rfl]
    by_cases h1 : 0 ≤ x.f1 ∧ x.f1 ≤ 7
    · rw [decide_eq_true h1, if_pos rfl]
      by_cases h2 : x.f0 = x.f1
      · rw [if_pos h2, decide_eq_false (fun c => c.2.2.1 h2)]
      · rw [if_neg h2]
        by_cases h3 : 1 ≤ x.f2 ∧ x.f2 ≤ 500
        · rw [decide_eq_true h3, if_pos rfl]
          by_cases h4 : 0 ≤ x.f3 ∧ x.f3 ≤ 359
          · rw [decide_eq_true h4, if_pos rfl]
            congr 1
            rw [decide_eq_decide]
            exact ⟨fun c => ⟨⟨h0.1, by omega⟩, ⟨h1.1, by omega⟩, h2, h3, h4, c⟩, fun c => c.2.2.2.2.2⟩
          · rw [decide_eq_false h4, if_neg (by decide), decide_eq_false (fun c => h4 c.2.2.2.2.1)]
        · rw [decide_eq_false h3, if_neg (by decide), decide_eq_false (fun c => h3 c.2.2.2.1)]
    · rw [decide_eq_false h1, if_neg (by decide), decide_eq_false (fun c => h1 ⟨c.2.1.1, by have := c.2.1.2; omega⟩)]
  · rw [decide_eq_false h0, if_neg (by decide), decide_eq_false (fun c => h0 ⟨c.1.1, by have := c.1.2; omega⟩)]
theorem l4Leg_eq (x : S56) : spec_l4Leg.f x.f0 x.f1 x.f2 x.f3 x.f4 = some (decide (Good x)) := IsLeg_eq x
def legsB (ls : L) : Bool := decide ((∀ x ∈ ls, Good x) ∧ ls.length ≤ 12)
theorem legsB_all (ls : L) : (if allFrom (fun i => decide (Good (ls.getD i z56))) 0 ls.length = true then some (decide ((ls.length : Int) ≤ 12)) else some false) = some (legsB ls) := by
  rw [allFrom_all ls z56 (fun x => decide (Good x))]
  unfold legsB
  by_cases h : ∀ x ∈ ls, Good x
  · rw [if_pos (by simpa using h)]
    congr 1
    rw [decide_eq_decide]
    exact ⟨fun c => ⟨h, by omega⟩, fun c => by have := c.2; omega⟩
  · rw [if_neg (by simpa using h), decide_eq_false (fun c => h c.1)]
theorem areLegs_ev (ls : L) (hb : ls.length ≤ 140737488351232) : Ev (fun k => impl_areLegs.f k ls) (legsB ls) := by
  obtain ⟨K, hK⟩ := all_ev (fun i => decide (Good (ls.getD i z56))) ls.length hb (fun k i => impl_areLegs.l0 k ls ls (ls.length : Int) i) (some (decide ((ls.length : Int) ≤ 12))) (by
      intro k i hi
      simp only [impl_areLegs.l0]
      rw [if_pos (by omega), if_pos (by omega), if_pos (by omega), IsLeg_eq, Option.bind_some]
      rfl) (by
      intro k
      simp only [impl_areLegs.l0]
      rw [if_neg (by omega)])
  refine ⟨K, fun k hk => ?_⟩
  have := hK k hk
  rw [legsB_all] at this
  exact this
theorem l4Legs_ev (ls : L) (hb : ls.length ≤ 140737488351232) : Ev (fun k => spec_l4Legs.f k ls) (legsB ls) := by
  obtain ⟨K, hK⟩ := all_ev (fun i => decide (Good (ls.getD i z56))) ls.length hb (fun k i => spec_l4Legs.l0 k ls i) (some (decide ((ls.length : Int) ≤ 12))) (by
      intro k i hi
      simp only [spec_l4Legs.l0]
      rw [if_pos (by omega), if_pos (by omega), l4Leg_eq, Option.bind_some]
      rfl) (by
      intro k
      simp only [spec_l4Legs.l0]
      rw [if_neg (by omega)])
  refine ⟨K, fun k hk => ?_⟩
  have := hK k hk
  rw [legsB_all] at this
  exact this
/-- The growth of the legs. -/
def RR (ls : L) : Q := grow (ends ls) ls.length 8 []
theorem RR_ok {ls : L} (hg : ∀ x ∈ ls, Good x) : Grow.Ok (ends ls) ls.length (RR ls) ∧ ∀ i : Int, 0 ≤ i → i < ls.length → ((ends ls i).1 ∈ verts 0 (RR ls) ↔ (ends ls i).2 ∈ verts 0 (RR ls)) := by
  have h := Grow.grow_end (ends ls) (Good.range hg) 8 [] (Grow.Ok.nil _ _) (by simp)
  exact ⟨h.1, h.2.2⟩
theorem RR_len {ls : L} (hg : ∀ x ∈ ls, Good x) : (RR ls).length ≤ 7 := (RR_ok hg).1.len _ (Good.range hg)
theorem plL_small {ls : L} (hg : ∀ x ∈ ls, Good x) : (plL (RR ls)).length ≤ 8 := Nat.le_trans (plL_len _) (Nat.succ_le_succ (RR_len hg))
theorem trL_small {ls : L} (hg : ∀ x ∈ ls, Good x) : (trL (RR ls)).length ≤ 7 := Nat.le_trans (trL_len _) (RR_len hg)
theorem Pq_eq (q : Q) (a : Nat) : Pq q a = decide ((a : Int) ∈ plL q) := by
  unfold Pq; rw [decide_eq_decide, mem_plL]
theorem Bq_eq (q : Q) (a : Nat) : Bq q a = decide ((a : Int) ∈ trL q) := by
  unfold Bq; rw [decide_eq_decide, mem_trL]
theorem closing_loop (ls : L) (hn : ls.length ≤ 12) (hg : ∀ x ∈ ls, Good x) (q : Q) (h1 : (plL q).length ≤ 8) (h2 : (trL q).length ≤ 7) : ∀ (d i : Nat), i + d = ls.length → Ev (fun k => spec_l6Closing.l0 k ls (closeTo ls q i) (plL q) (trL q) (i : Int)) (closeTo ls q ls.length) := by
  intro d
  induction d with
  | zero =>
    intro i hi
    obtain rfl : i = ls.length := by omega
    refine Ev.step (f := fun _ => some (closeTo ls q ls.length)) (fun k => ?_) (Ev.now _)
    simp only [spec_l6Closing.l0]
    rw [if_neg (by omega)]
  | succ d ih =>
    intro i hi
    have e : wrap64 ((i : Int) + 1) = ((i + 1 : Nat) : Int) := by rw [w64 (by omega) (by omega)]; omega
    have b1 : (i : Int) < (ls.length : Int) := by omega
    have b0 : (0 : Int) ≤ (i : Int) := by omega
    have hlen := closeTo_len ls q i
    have bl : (closeTo ls q i).length < 17592186044416 := by omega
    have hgood := leg_good hg i (by omega)
    have hrd : rd_T56 ls (i : Int) = leg ls i := rfl
    have hc : closeTo ls q (i + 1) = if Pq q (leg ls i).f0.toNat = true ∧ Bq q i = false then closeTo ls q i ++ [(i : Int)] else closeTo ls q i := rfl
    have h := ih (i + 1) (by omega)
    rw [hc] at h
    generalize leg ls (i : Int) = x at hgood hrd h
    obtain ⟨a, ha⟩ := Int.eq_ofNat_of_zero_le hgood.1.1
    rw [ha, Int.toNat_natCast, Pq_eq, Bq_eq] at h
    refine Ev.step_ge 20 (fun k hk => ?_) h
    simp only [spec_l6Closing.l0]
    rw [if_pos b1, if_pos b0, hrd, ha, has_at _ _ (Nat.le_trans h1 (by decide)) k (Nat.lt_of_le_of_lt h1 (Nat.lt_of_lt_of_le (by decide : 8 < 20) hk)), Option.bind_some]
    by_cases c1 : (a : Int) ∈ plL q
    · rw [decide_eq_true c1, if_pos rfl, has_at _ _ (Nat.le_trans h2 (by decide)) k (Nat.lt_of_le_of_lt h2 (Nat.lt_of_lt_of_le (by decide : 7 < 20) hk)), Option.bind_some]
      by_cases c2 : (i : Int) ∈ trL q
      · rw [decide_eq_true c2, if_pos rfl, e, if_neg (fun h => by cases h.2)]
      · rw [decide_eq_false c2, if_neg (by decide), if_pos bl, e, if_pos ⟨rfl, rfl⟩]
    · rw [decide_eq_false c1, if_neg (by decide), e, if_neg (fun h => by cases h.1)]
def closeL (ls : L) : List Int := closeTo ls (RR ls) ls.length
theorem closing_ev (ls : L) (hn : ls.length ≤ 12) (hg : ∀ x ∈ ls, Good x) : Ev (fun k => spec_l6Closing.f k ls) (closeL ls) := by
  refine Ev.congr (f := fun k => (spec_l6Place.f k ls).bind fun bt193 => spec_l6Closing.l0 k ls [] bt193.2.1 bt193.2.2 0) (fun k => rfl) ?_
  refine Ev.bind (place_ev ls hn hg (RR ls) rfl) ?_
  exact closing_loop ls hn hg (RR ls) (plL_small hg) (trL_small hg) ls.length 0 (by omega)
theorem legsB_iff {ls : L} : legsB ls = true ↔ (∀ x ∈ ls, Good x) ∧ ls.length ≤ 12 := by
  unfold legsB; exact decide_eq_true_iff
/-! ### CountLoops -/
def countM (ls : L) : Int × Bool := if legsB ls = true then ((closeL ls).length, true) else (0, false)
theorem count_ev (ls : L) (hb : ls.length ≤ 140737488351232) : Ev (fun k => spec_CountLoops.f k ls) (countM ls) := by
  refine Ev.bind (l4Legs_ev ls hb) ?_
  unfold countM
  by_cases h : legsB ls = true
  · have h' := legsB_iff.mp h
    rw [if_pos h]
    exact Ev.pos h (Ev.bind (closing_ev ls h'.2 h'.1) (Ev.now _))
  · rw [if_neg h]
    exact Ev.neg h (Ev.now _)
end Go.Proofs.YtiooiefjcbooeaaDoor.Net

/- The loop of a closing leg, as the reference finds it: the way over the tree legs, and the leg. -/
namespace Go.Proofs.YtiooiefjcbooeaaDoor.Net
open Go.RowKit Go.Proofs.YtiooiefjcbooeaaDoorW.PrintWords Go.Proofs.YtiooiefjcbooeaaDoorW.PrintLast Go.Proofs.YtiooiefjcbooeaaDoorW.PrintMore Go.Proofs.YtiooiefjcbooeaaDoor.A Go.Proofs.YtiooiefjcbooeaaDoor.Plain
open Go.Proofs.YtiooiefjcbooeaaDoor.Tree (verts legs W)
open Go.Proofs.YtiooiefjcbooeaaDoor.Dfs (dfs try_)
open Go.Proofs.YtiooiefjcbooeaaDoor.Grow (Q sweep grow)
set_option linter.unusedVariables false
set_option linter.unusedSimpArgs false
theorem rd_at (l : List Int) (i : Nat) (h : i < l.length) : rd l (i : Int) = l[i] := by
  unfold rd
  rw [Int.toNat_natCast, List.getD_eq_getElem?_getD, List.getElem?_eq_getElem h]
  rfl
section
variable (ls : L) (hg : ∀ x ∈ ls, Good x) (tree : List Int) (ht : ∀ i ∈ tree, 0 ≤ i ∧ i < (ls.length : Int)) (hl : tree.length ≤ 1000) (dst : Int)
include hg ht hl
theorem way_of_dfs : ∀ (f : Nat), f ≤ 1000 →
    (∀ fr last r, 0 ≤ fr → fr < 8 → dfs (ends ls) tree dst f fr last = some r → r.1.length ≤ f ∧ Ev (fun k => spec_l8Way.f k ls tree fr dst last) r) := by
  intro f
  induction f with
  | zero => intro hf fr last r h0 h8 h; simp [dfs] at h
  | succ f ihf =>
    intro hf
    have ihf := ihf (by omega)
    have inner : ∀ (fr last : Int), 0 ≤ fr → fr < 8 → ∀ (d j : Nat) r, j + d = tree.length → try_ (ends ls) tree dst f fr last (tree.drop j) = some r → r.1.length ≤ f + 1 ∧ Ev (fun k => spec_l8Way.l0 k ls tree fr dst last (j : Int)) r := by
      intro fr last h0 h8 d
      induction d with
      | zero =>
        intro j r hj h
        rw [List.drop_eq_nil_of_le (by omega), try_] at h
        obtain rfl := Option.some.inj h
        refine ⟨by simp, Ev.step (f := fun _ => some ([], false)) (fun k => ?_) (Ev.now _)⟩
        simp only [spec_l8Way.l0]
        rw [if_neg (by omega)]
      | succ d ih =>
        intro j r hj h
        have hlt : j < tree.length := by omega
        have er := rd_at tree j hlt
        have hin := ht _ (List.getElem_mem hlt)
        rw [List.drop_eq_getElem_cons hlt, try_] at h
        have e : wrap64 ((j : Int) + 1) = ((j + 1 : Nat) : Int) := by rw [w64 (by omega) (by omega)]; omega
        have bj : (j : Int) < (tree.length : Int) := Int.ofNat_lt.mpr hlt
        have bj0 : (0 : Int) ≤ (j : Int) := Int.natCast_nonneg j
        obtain ⟨i, hi⟩ := Int.eq_ofNat_of_zero_le hin.1
        rw [hi] at hin h er
        have hgi := leg_good hg i (Int.ofNat_lt.mp hin.2)
        have hrd : rd_T56 ls (i : Int) = leg ls i := rfl
        have hE : ends ls i = ((leg ls i).f0, (leg ls i).f1) := rfl
        rw [hE] at h
        obtain ⟨⟨a0, a8⟩, ⟨b0, b8⟩, _⟩ := hgi
        generalize leg ls (i : Int) = x at *
        simp only at h
        have next : ∀ r, try_ (ends ls) tree dst f fr last (tree.drop (j + 1)) = some r → r.1.length ≤ f + 1 ∧ Ev (fun k => spec_l8Way.j1 k ls tree fr dst last (j : Int) (i : Int) true) r := by
          intro r hr
          obtain ⟨h1, h2⟩ := ih (j + 1) r (by omega) hr
          refine ⟨h1, Ev.step (fun k => ?_) h2⟩
          simp only [spec_l8Way.j1]
          rw [if_pos trivial, e]
        by_cases c1 : (i : Int) = last
        · rw [if_pos (Or.inl c1)] at h
          obtain ⟨h1, h2⟩ := next r h
          refine ⟨h1, Ev.step (fun k => ?_) h2⟩
          simp only [spec_l8Way.l0]
          rw [if_pos bj, if_pos bj0, er, if_pos c1]
        · by_cases c2 : x.f0 = fr ∨ x.f1 = fr
          · rw [if_neg (by
              rintro (c | ⟨c3, c4⟩)
              · exact c1 c
              · rcases c2 with c2 | c2
                · exact c3 c2
                · exact c4 c2)] at h
            have hstep : ∀ r, Ev (fun k => spec_l8Way.j1 k ls tree fr dst last (j : Int) (i : Int) false) r → Ev (fun k => spec_l8Way.l0 k ls tree fr dst last (j : Int)) r := by
              intro r hr
              refine Ev.step (fun k => ?_) hr
              simp only [spec_l8Way.l0]
              rw [if_pos bj, if_pos bj0, er, if_neg c1, if_pos hin.1, if_pos hin.2, hrd]
              by_cases c3 : x.f0 = fr
              · rw [if_pos c3]
              · rw [if_neg c3, c2.resolve_left c3]
                simp
            have ho : wrap64 ((wrap64 (x.f0 + x.f1)) - fr) = x.f0 + x.f1 - fr := by rw [w64 (x := x.f0 + x.f1) (by omega) (by omega), w64 (by omega) (by omega)]
            have ho8 : 0 ≤ x.f0 + x.f1 - fr ∧ x.f0 + x.f1 - fr < 8 := by rcases c2 with c2 | c2 <;> omega
            cases hd : dfs (ends ls) tree dst f (x.f0 + x.f1 - fr) i with
            | none => rw [hd] at h; cases h
            | some y =>
              rw [hd, Option.bind_some] at h
              obtain ⟨l1, l2⟩ := ihf _ _ y ho8.1 ho8.2 hd
              by_cases c5 : y.2 = true
              · rw [if_pos c5] at h
                obtain rfl := Option.some.inj h
                refine ⟨by simp; omega, hstep _ ?_⟩
                refine Ev.step (f := fun k => (spec_l8Way.f k ls tree (x.f0 + x.f1 - fr) dst (i : Int)).bind fun bt344 => (if bt344.2 = true then ((some (([(i : Int)] : List Int) : List Int)).bind fun y348 => (if y348.length + bt344.1.length < 17592186044416 then (some ((y348 ++ bt344.1), true)) else (none))) else (spec_l8Way.l0 k ls tree fr dst last (wrap64 ((j : Int) + 1))))) (fun k => ?_) ?_
                · simp only [spec_l8Way.j1]
                  rw [if_neg (by decide), if_pos hin.1, if_pos hin.2, hrd, ho]
                · refine Ev.bind l2 (Ev.pos c5 ?_)
                  refine Ev.bindc rfl (Ev.pos (by simp; omega) (Ev.now _))
              · rw [if_neg c5] at h
                obtain ⟨h1, h2⟩ := ih (j + 1) r (by omega) h
                refine ⟨h1, hstep _ ?_⟩
                refine Ev.step (f := fun k => (spec_l8Way.f k ls tree (x.f0 + x.f1 - fr) dst (i : Int)).bind fun bt344 => (if bt344.2 = true then ((some (([(i : Int)] : List Int) : List Int)).bind fun y348 => (if y348.length + bt344.1.length < 17592186044416 then (some ((y348 ++ bt344.1), true)) else (none))) else (spec_l8Way.l0 k ls tree fr dst last (wrap64 ((j : Int) + 1))))) (fun k => ?_) ?_
                · simp only [spec_l8Way.j1]
                  rw [if_neg (by decide), if_pos hin.1, if_pos hin.2, hrd, ho]
                · refine Ev.bind l2 (Ev.neg c5 ?_)
                  rw [e]
                  exact h2
          · rw [if_pos (Or.inr ⟨fun c => c2 (Or.inl c), fun c => c2 (Or.inr c)⟩)] at h
            obtain ⟨h1, h2⟩ := next r h
            refine ⟨h1, Ev.step (fun k => ?_) h2⟩
            simp only [spec_l8Way.l0]
            rw [if_pos bj, if_pos bj0, er, if_neg c1, if_pos hin.1, if_pos hin.2, hrd, if_neg (fun c => c2 (Or.inl c)), show (x.f1 != fr) = true from by simpa using fun c => c2 (Or.inr c)]
    intro fr last r h0 h8 h
    rw [dfs] at h
    by_cases c : fr = dst
    · rw [if_pos c] at h
      obtain rfl := Option.some.inj h
      refine ⟨by simp, Ev.step (f := fun _ => some ([], true)) (fun k => ?_) (Ev.now _)⟩
      simp only [spec_l8Way.f]
      rw [if_pos c]
    · rw [if_neg c] at h
      obtain ⟨h1, h2⟩ := inner fr last h0 h8 tree.length 0 r (by omega) (by simpa using h)
      refine ⟨h1, Ev.step (fun k => ?_) h2⟩
      simp only [spec_l8Way.f]
      rw [if_neg c]
      rfl
end
theorem mem_closeTo (ls : L) (q : Q) : ∀ (n : Nat) (i : Int), i ∈ closeTo ls q n ↔ ∃ k : Nat, i = k ∧ k < n ∧ Pq q (leg ls k).f0.toNat = true ∧ Bq q k = false
  | 0, i => by simp [closeTo]
  | n + 1, i => by
    have ih := mem_closeTo ls q n i
    unfold closeTo
    split
    · rename_i c
      rw [List.mem_append, ih, List.mem_singleton]
      constructor
      · rintro (⟨k, h1, h2, h3⟩ | rfl)
        · exact ⟨k, h1, by omega, h3⟩
        · exact ⟨n, rfl, by omega, c⟩
      · rintro ⟨k, h1, h2, h3⟩
        by_cases e : k = n
        · exact Or.inr (by rw [h1, e])
        · exact Or.inl ⟨k, h1, by omega, h3⟩
    · rename_i c
      rw [ih]
      constructor
      · rintro ⟨k, h1, h2, h3⟩
        exact ⟨k, h1, by omega, h3⟩
      · rintro ⟨k, h1, h2, h3⟩
        by_cases e : k = n
        · exact absurd (e ▸ h3) c
        · exact ⟨k, h1, by omega, h3⟩
/-- A closing leg: its index, its ends, and that it is no tree leg. -/
theorem mem_closeL {ls : L} (hg : ∀ x ∈ ls, Good x) {i : Int} (h : i ∈ closeL ls) : 0 ≤ i ∧ i < (ls.length : Int) ∧ (ends ls i).1 ∈ verts 0 (RR ls) ∧ (ends ls i).2 ∈ verts 0 (RR ls) ∧ i ∉ legs (RR ls) := by
  obtain ⟨k, rfl, h1, h2, h3⟩ := (mem_closeTo ls (RR ls) ls.length i).mp h
  have hk := (leg_good hg k h1).1.1
  have hv : (ends ls k).1 ∈ verts 0 (RR ls) := by
    have := of_decide_eq_true h2
    rwa [Int.toNat_of_nonneg hk] at this
  exact ⟨by omega, by omega, hv, ((RR_ok hg).2 k (by omega) (by omega)).mp hv, of_decide_eq_false h3⟩
theorem RR_ends {ls : L} (hg : ∀ x ∈ ls, Good x) : ∀ x ∈ RR ls, (ends ls x.1 = (x.2.1, x.2.2) ∨ ends ls x.1 = (x.2.2, x.2.1)) ∧ 0 ≤ x.1 := fun x hx => by
  have := (RR_ok hg).1.ends x hx
  exact ⟨this.1, this.2.1⟩
theorem trL_range {ls : L} (hg : ∀ x ∈ ls, Good x) : ∀ i ∈ trL (RR ls), 0 ≤ i ∧ i < (ls.length : Int) := fun i hi => by
  have := (RR_ok hg).1.legs_ends (ends ls) ((mem_trL _ _).mp hi)
  exact ⟨this.2.2.2.1, this.2.2.2.2⟩
theorem way_ev {ls : L} (hn : ls.length ≤ 12) (hg : ∀ x ∈ ls, Good x) {a b : Int} (ha : a ∈ verts 0 (RR ls)) (hb : b ∈ verts 0 (RR ls)) : Ev (fun k => spec_l8Way.f k ls (trL (RR ls)) a b (-1)) (W (RR ls) a b, true) := by
  have h8 := Grow.in_range (ends ls) (RR_ok hg).1 (Good.range hg) a ha
  have hl := RR_len hg
  have ht := trL_small hg
  exact (way_of_dfs ls hg (trL (RR ls)) (trL_range hg) (by omega) b 8 (by omega) a (-1) _ h8.1 h8.2 (Dfs.dfs_way (ends ls) (RR_ok hg).1.tr (RR_ends hg) (fun i => mem_trL _ i) ha hb (by omega))).2
def loopL (ls : L) (i : Int) : List Int := W (RR ls) (ends ls i).2 (ends ls i).1 ++ [i]
theorem loop_ev {ls : L} (hn : ls.length ≤ 12) (hg : ∀ x ∈ ls, Good x) {i : Int} (hi : i ∈ closeL ls) : Ev (fun k => spec_l8Legs.f k ls i) (loopL ls i) := by
  obtain ⟨h0, h1, h2, h3, _⟩ := mem_closeL hg hi
  refine Ev.bind (place_ev ls hn hg (RR ls) rfl) (Ev.pos h0 (Ev.pos h1 ?_))
  refine Ev.bind (way_ev hn hg h3 h2) ?_
  have := Tree.W_len (RR ls) (ends ls i).2 (ends ls i).1
  have hl := RR_len hg
  exact Ev.pos (show (W (RR ls) (ends ls i).2 (ends ls i).1).length < 17592186044416 by omega) (Ev.now _)
theorem closingB_ev (ls : L) (i : Int) (hb : ls.length ≤ 140737488351232) : Ev (fun k => spec_l8Closing.f k ls i) (legsB ls && decide (i ∈ closeL ls)) := by
  refine Ev.bind (l4Legs_ev ls hb) ?_
  cases h : legsB ls
  · exact Ev.neg (by decide) (Ev.now _)
  · have h' := legsB_iff.mp h
    have hl := closeTo_len ls (RR ls) ls.length
    refine Ev.pos rfl (Ev.bind (closing_ev ls h'.2 h'.1) (Ev.bind (has_ev _ _ ?_) (Ev.now _)))
    unfold closeL
    omega
/-! ### Places without wraps -/
theorem pl_bound {ls : L} (sh : Int → Int) (hs : ∀ i, 0 ≤ i → i < (ls.length : Int) → -500 ≤ sh i ∧ sh i ≤ 500) : ∀ {q : Q}, (∀ x ∈ q, 0 ≤ x.1 ∧ x.1 < (ls.length : Int)) → ∀ x, -(500 * (q.length : Int)) ≤ Sum.pl (ends ls) sh q x ∧ Sum.pl (ends ls) sh q x ≤ 500 * (q.length : Int)
  | [], _, x => by simp [Sum.pl]
  | (i, u, s) :: q, h, x => by
    have hi := hs i (h _ List.mem_cons_self).1 (h _ List.mem_cons_self).2
    have ih := pl_bound sh hs (q := q) (fun x hx => h x (List.mem_cons_of_mem _ hx))
    have h1 := ih u
    have h2 := ih x
    simp only [Sum.pl, List.length_cons]
    split
    · split <;> omega
    · omega
theorem plus_exact {a b : S34} (ha : (-1000000 ≤ a.f0 ∧ a.f0 ≤ 1000000) ∧ (-1000000 ≤ a.f1 ∧ a.f1 ≤ 1000000) ∧ (-1000000 ≤ a.f2 ∧ a.f2 ≤ 1000000)) (hb : (-1000000 ≤ b.f0 ∧ b.f0 ≤ 1000000) ∧ (-1000000 ≤ b.f1 ∧ b.f1 ≤ 1000000) ∧ (-1000000 ≤ b.f2 ∧ b.f2 ≤ 1000000)) :
    plus a b 1 = ⟨a.f0 + b.f0, a.f1 + b.f1, a.f2 + b.f2⟩ ∧ plus a b (-1) = ⟨a.f0 - b.f0, a.f1 - b.f1, a.f2 - b.f2⟩ := by
  unfold plus
  constructor
  · rw [Int.one_mul, Int.one_mul, Int.one_mul, w64 (x := b.f0) (by omega) (by omega), w64 (x := b.f1) (by omega) (by omega), w64 (x := b.f2) (by omega) (by omega), w64 (by omega) (by omega), w64 (by omega) (by omega), w64 (by omega) (by omega)]
  · rw [w64 (x := -1 * b.f0) (by omega) (by omega), w64 (x := -1 * b.f1) (by omega) (by omega), w64 (x := -1 * b.f2) (by omega) (by omega), w64 (by omega) (by omega), w64 (by omega) (by omega), w64 (by omega) (by omega)]
    congr 1 <;> omega
def sh0 (ls : L) (i : Int) : Int := (shift (leg ls i)).f0
def sh1 (ls : L) (i : Int) : Int := (shift (leg ls i)).f1
def sh2 (ls : L) (i : Int) : Int := (shift (leg ls i)).f2
theorem sh_bound {ls : L} (hg : ∀ x ∈ ls, Good x) (i : Int) (h0 : 0 ≤ i) (h1 : i < (ls.length : Int)) : (-500 ≤ sh0 ls i ∧ sh0 ls i ≤ 500) ∧ (-500 ≤ sh1 ls i ∧ sh1 ls i ≤ 500) ∧ (-500 ≤ sh2 ls i ∧ sh2 ls i ≤ 500) := by
  obtain ⟨k, rfl⟩ := Int.eq_ofNat_of_zero_le h0
  exact shift_bound _ (leg_good hg k (Int.ofNat_lt.mp h1))
theorem plq_pl {ls : L} (hg : ∀ x ∈ ls, Good x) : ∀ {q : Q}, q.length ≤ 100 → (∀ x ∈ q, 0 ≤ x.1 ∧ x.1 < (ls.length : Int)) → ∀ x, plq ls q x = ⟨Sum.pl (ends ls) (sh0 ls) q x, Sum.pl (ends ls) (sh1 ls) q x, Sum.pl (ends ls) (sh2 ls) q x⟩
  | [], _, _, x => rfl
  | (i, u, s) :: q, hl, h, x => by
    have hi := sh_bound hg i (h _ List.mem_cons_self).1 (h _ List.mem_cons_self).2
    have hr := fun x hx => h x (List.mem_cons_of_mem (i, u, s) hx)
    have hl' : q.length ≤ 100 := by simp only [List.length_cons] at hl; omega
    have ih := plq_pl hg hl' hr
    have b0 := pl_bound (sh0 ls) (fun i a b => (sh_bound hg i a b).1) hr u
    have b1 := pl_bound (sh1 ls) (fun i a b => (sh_bound hg i a b).2.1) hr u
    have b2 := pl_bound (sh2 ls) (fun i a b => (sh_bound hg i a b).2.2) hr u
    simp only [plq, Sum.pl]
    by_cases c : x = s
    · simp only [if_pos c]
      rw [ih u]
      have ex := plus_exact (a := ⟨Sum.pl (ends ls) (sh0 ls) q u, Sum.pl (ends ls) (sh1 ls) q u, Sum.pl (ends ls) (sh2 ls) q u⟩) (b := shift (leg ls i)) ⟨by simp only; omega, by simp only; omega, by simp only; omega⟩ ⟨by have := hi.1; unfold sh0 at this; omega, by have := hi.2.1; unfold sh1 at this; omega, by have := hi.2.2; unfold sh2 at this; omega⟩
      by_cases c2 : (ends ls i).1 = u
      · simp only [if_pos c2]
        rw [ex.1]; rfl
      · simp only [if_neg c2]
        rw [ex.2]; rfl
    · simp only [if_neg c]
      exact ih x
end Go.Proofs.YtiooiefjcbooeaaDoor.Net

/- The error of a leg whose ends are placed. -/
namespace Go.Proofs.YtiooiefjcbooeaaDoor.Net
open Go.RowKit Go.Proofs.YtiooiefjcbooeaaDoorW.PrintWords Go.Proofs.YtiooiefjcbooeaaDoorW.PrintLast Go.Proofs.YtiooiefjcbooeaaDoorW.PrintMore Go.Proofs.YtiooiefjcbooeaaDoor.A Go.Proofs.YtiooiefjcbooeaaDoor.Plain
set_option linter.unusedVariables false
set_option linter.unusedSimpArgs false
def errM (X : Nat → S34) (x : S56) : S34 := plus (plus (shift x) (X x.f1.toNat) (-1)) (X x.f0.toNat) 1
set_option maxHeartbeats 2000000 in
set_option maxRecDepth 100000 in
theorem errorOf {n T g : Nat} {P : Nat → Bool} {X : Nat → S34} {B : Nat → Bool} {cl : Value} (x : S56) (w : World) (hL : Sine.Laid w) (hS : St n T g P X B cl w) (h : Good x) :
    Calls Tryd.prog 63 #[.pointer (some ⟨g, 0, none⟩), .agg #[.int .i64 x.f0, .int .i64 x.f1, .int .i64 x.f2, .int .i64 x.f3, .int .i64 x.f4]] w fun e w' => e = .returned (.agg #[.int .i64 (errM X x).f0, .int .i64 (errM X x).f1, .int .i64 (errM X x).f2]) ∧ Below w.heap.size w w' := by
  have LS := fun W (hl : Sine.Laid W) => legShift x W hl h
  obtain ⟨⟨a0, a8⟩, ⟨d0, d8⟩, had, _⟩ := h
  unfold errM
  obtain ⟨a, ha⟩ := Int.eq_ofNat_of_zero_le a0
  obtain ⟨d, hd⟩ := Int.eq_ofNat_of_zero_le d0
  rw [ha, hd] at LS
  rw [ha] at a8
  rw [hd] at d8
  rw [ha, hd, Int.toNat_natCast, Int.toNat_natCast]
  have HLS := Aside0.mk LS
  have HL := Aside0.mk hL
  have HS := Aside0.mk hS
  have HB := Aside0.mk (Below.refl w.heap.size w)
  clear LS hL hS a0 d0 had
  go_enter Tryd.func63, Tryd.ntmps63
  go_wp2
  have hgw : g < w.heap.size := World.block_lt_of_cell? _ _ HS.out.tc
  have h0 : ((w.alloc (Obj.cells #[Value.int IntKind.i64 ↑a, Value.int IntKind.i64 ↑d, Value.int IntKind.i64 x.f2, Value.int IntKind.i64 x.f3, Value.int IntKind.i64 x.f4] 56)).alloc (Obj.cells #[Value.int IntKind.i64 0, Value.int IntKind.i64 0, Value.int IntKind.i64 0] 34)).cell? ⟨w.heap.size, 0, none⟩ = some (.int .i64 (a : Int)) := by go_simp
  have h1 : ((w.alloc (Obj.cells #[Value.int IntKind.i64 ↑a, Value.int IntKind.i64 ↑d, Value.int IntKind.i64 x.f2, Value.int IntKind.i64 x.f3, Value.int IntKind.i64 x.f4] 56)).alloc (Obj.cells #[Value.int IntKind.i64 0, Value.int IntKind.i64 0, Value.int IntKind.i64 0] 34)).cell? ⟨w.heap.size, 1, none⟩ = some (.int .i64 (d : Int)) := by go_simp
  have h2 : ((w.alloc (Obj.cells #[Value.int IntKind.i64 ↑a, Value.int IntKind.i64 ↑d, Value.int IntKind.i64 x.f2, Value.int IntKind.i64 x.f3, Value.int IntKind.i64 x.f4] 56)).alloc (Obj.cells #[Value.int IntKind.i64 0, Value.int IntKind.i64 0, Value.int IntKind.i64 0] 34)).cell? ⟨w.heap.size, 2, none⟩ = some (.int .i64 x.f2) := by go_simp
  have h3 : ((w.alloc (Obj.cells #[Value.int IntKind.i64 ↑a, Value.int IntKind.i64 ↑d, Value.int IntKind.i64 x.f2, Value.int IntKind.i64 x.f3, Value.int IntKind.i64 x.f4] 56)).alloc (Obj.cells #[Value.int IntKind.i64 0, Value.int IntKind.i64 0, Value.int IntKind.i64 0] 34)).cell? ⟨w.heap.size, 3, none⟩ = some (.int .i64 x.f3) := by go_simp
  have h4 : ((w.alloc (Obj.cells #[Value.int IntKind.i64 ↑a, Value.int IntKind.i64 ↑d, Value.int IntKind.i64 x.f2, Value.int IntKind.i64 x.f3, Value.int IntKind.i64 x.f4] 56)).alloc (Obj.cells #[Value.int IntKind.i64 0, Value.int IntKind.i64 0, Value.int IntKind.i64 0] 34)).cell? ⟨w.heap.size, 4, none⟩ = some (.int .i64 x.f4) := by go_simp
  have g0 : ((w.alloc (Obj.cells #[Value.int IntKind.i64 ↑a, Value.int IntKind.i64 ↑d, Value.int IntKind.i64 x.f2, Value.int IntKind.i64 x.f3, Value.int IntKind.i64 x.f4] 56)).alloc (Obj.cells #[Value.int IntKind.i64 0, Value.int IntKind.i64 0, Value.int IntKind.i64 0] 34)).cell? ⟨w.heap.size + 1, 0, none⟩ = some (.int .i64 0) := by go_simp
  have g1 : ((w.alloc (Obj.cells #[Value.int IntKind.i64 ↑a, Value.int IntKind.i64 ↑d, Value.int IntKind.i64 x.f2, Value.int IntKind.i64 x.f3, Value.int IntKind.i64 x.f4] 56)).alloc (Obj.cells #[Value.int IntKind.i64 0, Value.int IntKind.i64 0, Value.int IntKind.i64 0] 34)).cell? ⟨w.heap.size + 1, 1, none⟩ = some (.int .i64 0) := by go_simp
  have g2 : ((w.alloc (Obj.cells #[Value.int IntKind.i64 ↑a, Value.int IntKind.i64 ↑d, Value.int IntKind.i64 x.f2, Value.int IntKind.i64 x.f3, Value.int IntKind.i64 x.f4] 56)).alloc (Obj.cells #[Value.int IntKind.i64 0, Value.int IntKind.i64 0, Value.int IntKind.i64 0] 34)).cell? ⟨w.heap.size + 1, 2, none⟩ = some (.int .i64 0) := by go_simp
  have z0 : ((w.alloc (Obj.cells #[Value.int IntKind.i64 ↑a, Value.int IntKind.i64 ↑d, Value.int IntKind.i64 x.f2, Value.int IntKind.i64 x.f3, Value.int IntKind.i64 x.f4] 56)).alloc (Obj.cells #[Value.int IntKind.i64 0, Value.int IntKind.i64 0, Value.int IntKind.i64 0] 34)).frozen? ⟨w.heap.size + 1, 0, none⟩ = false := by go_simp
  have z1 : ((w.alloc (Obj.cells #[Value.int IntKind.i64 ↑a, Value.int IntKind.i64 ↑d, Value.int IntKind.i64 x.f2, Value.int IntKind.i64 x.f3, Value.int IntKind.i64 x.f4] 56)).alloc (Obj.cells #[Value.int IntKind.i64 0, Value.int IntKind.i64 0, Value.int IntKind.i64 0] 34)).frozen? ⟨w.heap.size + 1, 1, none⟩ = false := by go_simp
  have z2 : ((w.alloc (Obj.cells #[Value.int IntKind.i64 ↑a, Value.int IntKind.i64 ↑d, Value.int IntKind.i64 x.f2, Value.int IntKind.i64 x.f3, Value.int IntKind.i64 x.f4] 56)).alloc (Obj.cells #[Value.int IntKind.i64 0, Value.int IntKind.i64 0, Value.int IntKind.i64 0] 34)).frozen? ⟨w.heap.size + 1, 2, none⟩ = false := by go_simp
  replace HB : Aside0 (Below w.heap.size w ((w.alloc (Obj.cells #[Value.int IntKind.i64 ↑a, Value.int IntKind.i64 ↑d, Value.int IntKind.i64 x.f2, Value.int IntKind.i64 x.f3, Value.int IntKind.i64 x.f4] 56)).alloc (Obj.cells #[Value.int IntKind.i64 0, Value.int IntKind.i64 0, Value.int IntKind.i64 0] 34))) := ⟨below_alloc (below_alloc HB.out _) _⟩
  replace HS := Aside0.mk (HS.out.keep HB.out)
  generalize ((w.alloc (Obj.cells #[Value.int IntKind.i64 ↑a, Value.int IntKind.i64 ↑d, Value.int IntKind.i64 x.f2, Value.int IntKind.i64 x.f3, Value.int IntKind.i64 x.f4] 56)).alloc (Obj.cells #[Value.int IntKind.i64 0, Value.int IntKind.i64 0, Value.int IntKind.i64 0] 34)) = W1 at *
  have p0 := HS.out.px a (by omega)
  have p1 := HS.out.py a (by omega)
  have p2 := HS.out.pz a (by omega)
  have q0 := HS.out.px d (by omega)
  have q1 := HS.out.py d (by omega)
  have q2 := HS.out.pz d (by omega)
  have n1 : w.heap.size + 1 ≠ w.heap.size := by omega
  have n2 : w.heap.size + 1 ≠ g := by omega
  go_region_held3 (fun w' => w'.cell? ⟨w.heap.size, 0, none⟩ = some (.int .i64 (a : Int)) ∧ w'.cell? ⟨w.heap.size, 1, none⟩ = some (.int .i64 (d : Int)) ∧ w'.cell? ⟨w.heap.size, 2, none⟩ = some (.int .i64 x.f2) ∧ w'.cell? ⟨w.heap.size, 3, none⟩ = some (.int .i64 x.f3) ∧ w'.cell? ⟨w.heap.size, 4, none⟩ = some (.int .i64 x.f4) ∧ w'.cell? ⟨g, 8 + a * 3, none⟩ = some (.int .i64 (X a).f0) ∧ w'.cell? ⟨g, 8 + a * 3 + 1, none⟩ = some (.int .i64 (X a).f1) ∧ w'.cell? ⟨g, 8 + a * 3 + 2, none⟩ = some (.int .i64 (X a).f2) ∧ w'.cell? ⟨g, 8 + d * 3, none⟩ = some (.int .i64 (X d).f0) ∧ w'.cell? ⟨g, 8 + d * 3 + 1, none⟩ = some (.int .i64 (X d).f1) ∧ w'.cell? ⟨g, 8 + d * 3 + 2, none⟩ = some (.int .i64 (X d).f2))
    ((repeat' refine And.intro ?_ ?_) <;> first
      | ((with_reducible refine far (far (far ?_ ?_) ?_) ?_) <;> first | exact blkne n1 | exact blkne n2 | exact Sine.keepc (w := W1) (by assumption) (by (repeat (first | exact Below.refl _ _ | apply pw_below_drewN | apply below_drew1 | exact HB.out | refine below_step ?_ (by assumption))); done))
      | exact Sine.keepc (w := W1) (by assumption) (by (repeat (first | exact Below.refl _ _ | apply pw_below_drewN | apply below_drew1 | exact HB.out | refine below_step ?_ (by assumption))); done))
    (first
      | (go_at_call 92; (with_reducible refine (HLS.out _ ?s1).mono ?_); (case s1 => exact HL.out.keep (by (repeat (first | exact Below.refl _ _ | apply pw_below_drewN | apply below_drew1 | exact HB.out | refine below_step ?_ (by assumption))); done)); rintro e w' ⟨rfl, hw1⟩)
      | (go_at_call 91; (with_reducible refine (shiftPlus (shift x) (X d) (-1) _).mono ?_); rintro e w' ⟨rfl, hw2⟩)
      | (go_at_call 91; (with_reducible refine (shiftPlus (plus (shift x) (X d) (-1)) (X a) 1 _).mono ?_); rintro e w' ⟨rfl, hw3⟩
         have HB3 : Aside0 (Below w.heap.size w w') := ⟨by (repeat (first | exact Below.refl _ _ | apply pw_below_drewN | apply below_drew1 | exact HB.out | refine below_step ?_ (by assumption))); done⟩
         have y0 := Sine.keepc (w := W1) g0 (show Below W1.heap.size W1 w' from by (repeat (first | exact Below.refl _ _ | apply pw_below_drewN | apply below_drew1 | exact HB.out | refine below_step ?_ (by assumption))); done)
         have u0 := keepz (w := W1) g0 z0 (show Below W1.heap.size W1 w' from by (repeat (first | exact Below.refl _ _ | apply pw_below_drewN | apply below_drew1 | exact HB.out | refine below_step ?_ (by assumption))); done)
         have y1 := Sine.keepc (w := W1) g1 (show Below W1.heap.size W1 w' from by (repeat (first | exact Below.refl _ _ | apply pw_below_drewN | apply below_drew1 | exact HB.out | refine below_step ?_ (by assumption))); done)
         have u1 := keepz (w := W1) g1 z1 (show Below W1.heap.size W1 w' from by (repeat (first | exact Below.refl _ _ | apply pw_below_drewN | apply below_drew1 | exact HB.out | refine below_step ?_ (by assumption))); done)
         have y2 := Sine.keepc (w := W1) g2 (show Below W1.heap.size W1 w' from by (repeat (first | exact Below.refl _ _ | apply pw_below_drewN | apply below_drew1 | exact HB.out | refine below_step ?_ (by assumption))); done)
         have u2 := keepz (w := W1) g2 z2 (show Below W1.heap.size W1 w' from by (repeat (first | exact Below.refl _ _ | apply pw_below_drewN | apply below_drew1 | exact HB.out | refine below_step ?_ (by assumption))); done)))
  go_wp2
  exact bodyPost_ret (v := .agg #[.int .i64 (plus (plus (shift x) (X d) (-1)) (X a) 1).f0, .int .i64 (plus (plus (shift x) (X d) (-1)) (X a) 1).f1, .int .i64 (plus (plus (shift x) (X d) (-1)) (X a) 1).f2]) (by simp [results, Tryd.results63, go_sem, y0, y1, y2]) rfl ⟨rfl, by repeat (first | exact HB3.out | apply below_drew1 | (refine below_set ?_ (by omega)))⟩
end Go.Proofs.YtiooiefjcbooeaaDoor.Net

/- The program's closingLeg, placedLeg, placedAt: the network, and whether it holds what is asked for. -/
namespace Go.Proofs.YtiooiefjcbooeaaDoor.Net
open Go.RowKit Go.Proofs.YtiooiefjcbooeaaDoorW.PrintWords Go.Proofs.YtiooiefjcbooeaaDoorW.PrintLast Go.Proofs.YtiooiefjcbooeaaDoorW.PrintMore Go.Proofs.YtiooiefjcbooeaaDoor.A Go.Proofs.YtiooiefjcbooeaaDoor.Plain
set_option linter.unusedVariables false
set_option linter.unusedSimpArgs false
theorem idx_loop (l : List Int) (n : Int) (hl : l.length ≤ 1000000) : ∀ (d i k : Nat), i + d = l.length → d < k → ∃ r, slices_Index_int_int.l0 k l n (l.length : Int) (i : Int) = some r ∧ (r ≥ 0 ↔ n ∈ l.drop i) := by
  intro d
  induction d with
  | zero =>
    intro i k hi hk
    obtain ⟨k, rfl⟩ : ∃ m, k = m + 1 := ⟨k - 1, by omega⟩
    refine ⟨-1, ?_, ?_⟩
    · simp only [slices_Index_int_int.l0]
      rw [if_neg (by omega)]
    · rw [List.drop_eq_nil_of_le (by omega)]
      simp
  | succ d ih =>
    intro i k hi hk
    obtain ⟨k, rfl⟩ : ∃ m, k = m + 1 := ⟨k - 1, by omega⟩
    have hlt : i < l.length := by omega
    have er : rd l (i : Int) = l[i] := by
      unfold rd
      rw [Int.toNat_natCast, List.getD_eq_getElem?_getD, List.getElem?_eq_getElem hlt]
      rfl
    have e : wrap64 ((i : Int) + 1) = ((i + 1 : Nat) : Int) := by rw [w64 (by omega) (by omega)]; omega
    rw [List.drop_eq_getElem_cons hlt]
    by_cases hc : n = l[i]
    · refine ⟨(i : Int), ?_, ?_⟩
      · simp only [slices_Index_int_int.l0]
        rw [if_pos (by omega), if_pos (by omega), if_pos (by omega), er, if_pos hc]
      · exact ⟨fun _ => by rw [hc]; exact List.mem_cons_self, fun _ => by omega⟩
    · obtain ⟨r, h1, h2⟩ := ih (i + 1) k (by omega) (by omega)
      refine ⟨r, ?_, ?_⟩
      · simp only [slices_Index_int_int.l0]
        rw [if_pos (by omega), if_pos (by omega), if_pos (by omega), er, if_neg hc, e, h1]
      · rw [h2, List.mem_cons]
        exact ⟨Or.inr, fun h => h.resolve_left hc⟩
theorem hasI_at (l : List Int) (n : Int) (hl : l.length ≤ 1000000) (k : Nat) (hk : l.length < k) : impl_has.f k l n = some (decide (n ∈ l)) := by
  obtain ⟨r, h1, h2⟩ := idx_loop l n hl l.length 0 k (by omega) hk
  have h1' : slices_Index_int_int.f k l n = some r := h1
  simp only [impl_has.f, slices_Contains_int_int.f, h1', Option.bind_some]
  congr 1
  rw [decide_eq_decide, h2, List.drop_zero]
/-- What such a function hands back for valid legs. -/
def Gate (ls : L) (b : Bool) (w : World) (e : Ending) (w' : World) : Prop := ∃ g T cA cC, e = .returned (.tuple #[.pointer (some ⟨g, 0, none⟩), .bool b]) ∧ St ls.length T g (Pq (RR ls)) (Xq ls (RR ls)) (Bq (RR ls)) (.slice cA (closeL ls).length cC) w' ∧ Kd.R (Kd.int .i64) 3 w' w.heap.size (fun k => k ≠ g ∧ k ≠ T) (.slice cA (closeL ls).length cC) (closeL ls) ∧ Below w.heap.size w w'
theorem closeL_len (ls : L) : (closeL ls).length ≤ ls.length := closeTo_len ls (RR ls) ls.length
set_option maxHeartbeats 1000000 in
theorem closingLeg (A : Option Addr) (c : Nat) (ls : L) (leg : Int) (w : World) (hL : Sine.Laid w) (hr0 : Kd.C k56 w A ls.length ls) (hc : ls.length ≤ c) (hv : legsB ls = true) :
    Calls Tryd.prog 62 #[.slice A ls.length c, .int .i64 leg] w (Gate ls (decide (leg ∈ closeL ls)) w) := by
  have hv' := legsB_iff.mp hv
  have hn := hv'.2
  obtain ⟨K, hK⟩ := areLegs_ev ls (by omega)
  have HA := Aside0.mk (hK K (Nat.le_refl _))
  rw [hv] at HA
  have hcl := closeL_len ls
  have HH := Aside0.mk (hasI_at (closeL ls) leg (by omega) 20 (by omega))
  have HG := Aside0.mk hv'.1
  have HR := Aside0.mk hr0
  have HL := Aside0.mk hL
  have HB := Aside0.mk (Below.refl w.heap.size w)
  clear hK hr0 hL hv hv'
  go_enter Tryd.func62, Tryd.ntmps62
  go_wp2_with (first
    | (go_at_call 52; (with_reducible refine (impl_areLegs.calls K _ _ ls true _ ?s1 ?s2 HA.out).mono ?_); (case s1 => exact Kd.C_below HR.out (by (repeat (first | exact HB.out | exact Below.refl _ _ | apply below_alloc | apply pw_below_drewN | apply below_drew1)); done)); (case s2 => exact hc); rintro e w' ⟨rfl, hw⟩; replace HB := Aside0.mk (below_step (show Below w.heap.size w _ from by (repeat (first | exact HB.out | exact Below.refl _ _ | apply below_alloc | apply pw_below_drewN | apply below_drew1)); done) hw); clear hw)
    | ((go_at_call 53; (with_reducible refine (place _ c ls _ ?s1 ?s2 hc hn HG.out (RR ls) rfl).mono ?_); (case s1 => exact HL.out.keep (by (repeat (first | exact HB.out | exact Below.refl _ _ | apply below_alloc | apply pw_below_drewN | apply below_drew1)); done)); (case s2 => exact Kd.C_below HR.out (by (repeat (first | exact HB.out | exact Below.refl _ _ | apply below_alloc | apply pw_below_drewN | apply below_drew1)); done)); rintro e w' ⟨g, T, cl, rfl, hst, ho, hw⟩; have HO : Aside0 (Kd.R (Kd.int .i64) 3 w' w.heap.size (fun k => k ≠ g ∧ k ≠ T) cl (closeL ls)) := ⟨Kd.R_lower ho (below_size (show Below w.heap.size w _ from by (repeat (first | exact HB.out | exact Below.refl _ _ | apply below_alloc | apply pw_below_drewN | apply below_drew1)); done))⟩; replace HB := Aside0.mk (below_step (show Below w.heap.size w _ from by (repeat (first | exact HB.out | exact Below.refl _ _ | apply below_alloc | apply pw_below_drewN | apply below_drew1)); done) hw); have HS := Aside0.mk hst; clear hst ho hw; obtain ⟨cA, cC, ecl⟩ := Kd.R_slice HO.out; subst ecl); have cc := HS.out.cc)
    | (go_at_call 87; (with_reducible refine (impl_has.calls 20 _ _ (closeL ls) leg _ _ ?s1 ?s2 HH.out).mono ?_); (case s1 => exact (Kd.R_reads' HO.out).2.2); (case s2 => exact (Kd.R_reads' HO.out).2.1); rintro e w' ⟨rfl, ⟨nd, rfl⟩⟩))
  go_ret2
  exact ⟨g, T, cA, cC, rfl, HS.out.keep (pw_below_drewN (Below.refl _ _) _), Kd.R_drewN HO.out _, pw_below_drewN HB.out _⟩
set_option maxHeartbeats 1000000 in
theorem closingLeg_no (A : Option Addr) (c : Nat) (ls : L) (leg : Int) (w : World) (hr0 : Kd.C k56 w A ls.length ls) (hc : ls.length ≤ c) (hb : ls.length ≤ 140737488351232) (hv : legsB ls = false) :
    Calls Tryd.prog 62 #[.slice A ls.length c, .int .i64 leg] w fun e w' => e = .returned (.tuple #[.pointer none, .bool false]) ∧ Below w.heap.size w w' := by
  obtain ⟨K, hK⟩ := areLegs_ev ls hb
  have HA := Aside0.mk (hK K (Nat.le_refl _))
  rw [hv] at HA
  have HR := Aside0.mk hr0
  have HB := Aside0.mk (Below.refl w.heap.size w)
  clear hK hr0 hv
  go_enter Tryd.func62, Tryd.ntmps62
  go_wp2_with (go_at_call 52; (with_reducible refine (impl_areLegs.calls K _ _ ls false _ ?s1 ?s2 HA.out).mono ?_); (case s1 => exact Kd.C_below HR.out (by (repeat (first | exact HB.out | exact Below.refl _ _ | apply below_alloc | apply pw_below_drewN | apply below_drew1)); done)); (case s2 => exact hc); rintro e w' ⟨rfl, hw⟩; replace HB := Aside0.mk (below_step (show Below w.heap.size w _ from by (repeat (first | exact HB.out | exact Below.refl _ _ | apply below_alloc | apply pw_below_drewN | apply below_drew1)); done) hw); clear hw)
  go_ret2
  exact ⟨rfl, HB.out⟩
theorem isStation_eq (x : Int) : impl_isStation.f x = some (decide (0 ≤ x ∧ x ≤ 7)) := by
  unfold impl_isStation.f
  rw [within_eq]; rfl
set_option maxHeartbeats 1000000 in
set_option maxRecDepth 100000 in
theorem placedLeg (A : Option Addr) (c : Nat) (ls : L) (i : Int) (w : World) (hL : Sine.Laid w) (hr0 : Kd.C k56 w A ls.length ls) (hc : ls.length ≤ c) (hv : legsB ls = true) (h0 : 0 ≤ i) (h1 : i < ls.length) :
    Calls Tryd.prog 58 #[.slice A ls.length c, .int .i64 i] w (Gate ls (Pq (RR ls) (leg ls i).f0.toNat) w) := by
  have hv' := legsB_iff.mp hv
  have hn := hv'.2
  obtain ⟨K, hK⟩ := areLegs_ev ls (by omega)
  have HA := Aside0.mk (hK K (Nat.le_refl _))
  rw [hv] at HA
  have HW : Aside0 (impl_within.f i 0 ((ls.length : Int) - 1) = some true) := ⟨by rw [within_eq, decide_eq_true (by omega)]⟩
  obtain ⟨k, rfl⟩ := Int.eq_ofNat_of_zero_le h0
  have hg := leg_good hv'.1 k (by omega)
  obtain ⟨a, ha⟩ := Int.eq_ofNat_of_zero_le hg.1.1
  have ha8 : (a : Int) < 8 := by have := hg.1.2; omega
  rw [ha, Int.toNat_natCast]
  obtain ⟨_, e2, h2, _⟩ := at_T56 hr0 (k : Int) h0 h1
  cases e2
  rw [Int.toNat_natCast, show rd_T56 ls (k : Int) = leg ls k from rfl, ha] at h2
  have H2 := Aside0.mk h2
  have HG := Aside0.mk hv'.1
  have HR := Aside0.mk hr0
  have HL := Aside0.mk hL
  have HB := Aside0.mk (Below.refl w.heap.size w)
  clear hK hr0 hL hv hv' hg ha h2
  go_enter Tryd.func58, Tryd.ntmps58
  go_wp2_with (first
    | (go_at_call 52; (with_reducible refine (impl_areLegs.calls K _ _ ls true _ ?s1 ?s2 HA.out).mono ?_); (case s1 => exact Kd.C_below HR.out (by (repeat (first | exact HB.out | exact Below.refl _ _ | apply below_alloc | apply pw_below_drewN | apply below_drew1)); done)); (case s2 => exact hc); rintro e w' ⟨rfl, hw⟩; replace HB := Aside0.mk (below_step (show Below w.heap.size w _ from by (repeat (first | exact HB.out | exact Below.refl _ _ | apply below_alloc | apply pw_below_drewN | apply below_drew1)); done) hw); clear hw)
    | (go_at_call 68; (with_reducible refine (impl_within.calls _ _ _ _ _ HW.out).mono ?_); rintro e w' ⟨rfl, ⟨nd, rfl⟩⟩; replace HB := Aside0.mk (pw_below_drewN HB.out nd))
    | ((go_at_call 53; (with_reducible refine (place _ c ls _ ?s1 ?s2 hc hn HG.out (RR ls) rfl).mono ?_); (case s1 => exact HL.out.keep (by (repeat (first | exact HB.out | exact Below.refl _ _ | apply below_alloc | apply pw_below_drewN | apply below_drew1)); done)); (case s2 => exact Kd.C_below HR.out (by (repeat (first | exact HB.out | exact Below.refl _ _ | apply below_alloc | apply pw_below_drewN | apply below_drew1)); done)); rintro e w' ⟨g, T, cl, rfl, hst, ho, hw⟩; have HO : Aside0 (Kd.R (Kd.int .i64) 3 w' w.heap.size (fun k => k ≠ g ∧ k ≠ T) cl (closeL ls)) := ⟨Kd.R_lower ho (below_size (show Below w.heap.size w _ from by (repeat (first | exact HB.out | exact Below.refl _ _ | apply below_alloc | apply pw_below_drewN | apply below_drew1)); done))⟩; replace HB := Aside0.mk (below_step (show Below w.heap.size w _ from by (repeat (first | exact HB.out | exact Below.refl _ _ | apply below_alloc | apply pw_below_drewN | apply below_drew1)); done) hw); have HS := Aside0.mk hst; clear hst ho hw; obtain ⟨cA, cC, ecl⟩ := Kd.R_slice HO.out; subst ecl); have h2 := Sine.keepc H2.out HB.out; have pa := HS.out.pb a (by omega)))
  go_quiet (fail)
  go_wp2
  go_ret2
  exact ⟨g, T, cA, cC, rfl, HS.out.keep (pw_below_drewN (Below.refl _ _) _), Kd.R_drewN HO.out _, pw_below_drewN HB.out _⟩
set_option maxHeartbeats 1000000 in
theorem placedLeg_no (A : Option Addr) (c : Nat) (ls : L) (i : Int) (w : World) (hr0 : Kd.C k56 w A ls.length ls) (hc : ls.length ≤ c) (hb : ls.length ≤ 140737488351232) (hv : legsB ls = true → ¬ (0 ≤ i ∧ i < ls.length)) :
    Calls Tryd.prog 58 #[.slice A ls.length c, .int .i64 i] w fun e w' => e = .returned (.tuple #[.pointer none, .bool false]) ∧ Below w.heap.size w w' := by
  obtain ⟨K, hK⟩ := areLegs_ev ls hb
  have HA := Aside0.mk (hK K (Nat.le_refl _))
  have HR := Aside0.mk hr0
  have HB := Aside0.mk (Below.refl w.heap.size w)
  clear hK hr0
  cases hq : legsB ls
  · rw [hq] at HA
    clear hq hv
    go_enter Tryd.func58, Tryd.ntmps58
    go_wp2_with (go_at_call 52; (with_reducible refine (impl_areLegs.calls K _ _ ls false _ ?s1 ?s2 HA.out).mono ?_); (case s1 => exact Kd.C_below HR.out (by (repeat (first | exact HB.out | exact Below.refl _ _ | apply below_alloc | apply pw_below_drewN | apply below_drew1)); done)); (case s2 => exact hc); rintro e w' ⟨rfl, hw⟩; replace HB := Aside0.mk (below_step (show Below w.heap.size w _ from by (repeat (first | exact HB.out | exact Below.refl _ _ | apply below_alloc | apply pw_below_drewN | apply below_drew1)); done) hw); clear hw)
    go_ret2
    exact ⟨rfl, HB.out⟩
  · rw [hq] at HA
    have hv2 := hv hq
    have HW : Aside0 (impl_within.f i 0 ((ls.length : Int) - 1) = some false) := ⟨by rw [within_eq, decide_eq_false (by omega)]⟩
    clear hq hv
    go_enter Tryd.func58, Tryd.ntmps58
    go_wp2_with (first
      | (go_at_call 52; (with_reducible refine (impl_areLegs.calls K _ _ ls true _ ?s1 ?s2 HA.out).mono ?_); (case s1 => exact Kd.C_below HR.out (by (repeat (first | exact HB.out | exact Below.refl _ _ | apply below_alloc | apply pw_below_drewN | apply below_drew1)); done)); (case s2 => exact hc); rintro e w' ⟨rfl, hw⟩; replace HB := Aside0.mk (below_step (show Below w.heap.size w _ from by (repeat (first | exact HB.out | exact Below.refl _ _ | apply below_alloc | apply pw_below_drewN | apply below_drew1)); done) hw); clear hw)
      | (go_at_call 68; (with_reducible refine (impl_within.calls _ _ _ _ _ HW.out).mono ?_); rintro e w' ⟨rfl, ⟨nd, rfl⟩⟩; replace HB := Aside0.mk (pw_below_drewN HB.out nd)))
    go_ret2
    exact ⟨rfl, HB.out⟩
set_option maxHeartbeats 1000000 in
set_option maxRecDepth 100000 in
theorem placedAt (A : Option Addr) (c : Nat) (ls : L) (s : Int) (w : World) (hL : Sine.Laid w) (hr0 : Kd.C k56 w A ls.length ls) (hc : ls.length ≤ c) (hv : legsB ls = true) (h0 : 0 ≤ s) (h1 : s < 8) :
    Calls Tryd.prog 81 #[.slice A ls.length c, .int .i64 s] w (Gate ls (Pq (RR ls) s.toNat) w) := by
  have hv' := legsB_iff.mp hv
  have hn := hv'.2
  obtain ⟨K, hK⟩ := areLegs_ev ls (by omega)
  have HA := Aside0.mk (hK K (Nat.le_refl _))
  rw [hv] at HA
  have HW : Aside0 (impl_isStation.f s = some true) := ⟨by rw [isStation_eq, decide_eq_true (by omega)]⟩
  obtain ⟨a, rfl⟩ := Int.eq_ofNat_of_zero_le h0
  rw [Int.toNat_natCast]
  have HG := Aside0.mk hv'.1
  have HR := Aside0.mk hr0
  have HL := Aside0.mk hL
  have HB := Aside0.mk (Below.refl w.heap.size w)
  clear hK hr0 hL hv hv'
  go_enter Tryd.func81, Tryd.ntmps81
  go_wp2_with (first
    | (go_at_call 52; (with_reducible refine (impl_areLegs.calls K _ _ ls true _ ?s1 ?s2 HA.out).mono ?_); (case s1 => exact Kd.C_below HR.out (by (repeat (first | exact HB.out | exact Below.refl _ _ | apply below_alloc | apply pw_below_drewN | apply below_drew1)); done)); (case s2 => exact hc); rintro e w' ⟨rfl, hw⟩; replace HB := Aside0.mk (below_step (show Below w.heap.size w _ from by (repeat (first | exact HB.out | exact Below.refl _ _ | apply below_alloc | apply pw_below_drewN | apply below_drew1)); done) hw); clear hw)
    | (go_at_call 104; (with_reducible refine (impl_isStation.calls _ _ _ HW.out).mono ?_); rintro e w' ⟨rfl, ⟨nd, rfl⟩⟩; replace HB := Aside0.mk (pw_below_drewN HB.out nd))
    | ((go_at_call 53; (with_reducible refine (place _ c ls _ ?s1 ?s2 hc hn HG.out (RR ls) rfl).mono ?_); (case s1 => exact HL.out.keep (by (repeat (first | exact HB.out | exact Below.refl _ _ | apply below_alloc | apply pw_below_drewN | apply below_drew1)); done)); (case s2 => exact Kd.C_below HR.out (by (repeat (first | exact HB.out | exact Below.refl _ _ | apply below_alloc | apply pw_below_drewN | apply below_drew1)); done)); rintro e w' ⟨g, T, cl, rfl, hst, ho, hw⟩; have HO : Aside0 (Kd.R (Kd.int .i64) 3 w' w.heap.size (fun k => k ≠ g ∧ k ≠ T) cl (closeL ls)) := ⟨Kd.R_lower ho (below_size (show Below w.heap.size w _ from by (repeat (first | exact HB.out | exact Below.refl _ _ | apply below_alloc | apply pw_below_drewN | apply below_drew1)); done))⟩; replace HB := Aside0.mk (below_step (show Below w.heap.size w _ from by (repeat (first | exact HB.out | exact Below.refl _ _ | apply below_alloc | apply pw_below_drewN | apply below_drew1)); done) hw); have HS := Aside0.mk hst; clear hst ho hw; obtain ⟨cA, cC, ecl⟩ := Kd.R_slice HO.out; subst ecl); have pa := HS.out.pb a (by omega)))
  go_quiet (fail)
  go_wp2
  go_ret2
  exact ⟨g, T, cA, cC, rfl, HS.out.keep (pw_below_drewN (Below.refl _ _) _), Kd.R_drewN HO.out _, pw_below_drewN HB.out _⟩
set_option maxHeartbeats 1000000 in
theorem placedAt_no (A : Option Addr) (c : Nat) (ls : L) (s : Int) (w : World) (hr0 : Kd.C k56 w A ls.length ls) (hc : ls.length ≤ c) (hb : ls.length ≤ 140737488351232) (hv : legsB ls = true → ¬ (0 ≤ s ∧ s < 8)) :
    Calls Tryd.prog 81 #[.slice A ls.length c, .int .i64 s] w fun e w' => e = .returned (.tuple #[.pointer none, .bool false]) ∧ Below w.heap.size w w' := by
  obtain ⟨K, hK⟩ := areLegs_ev ls hb
  have HA := Aside0.mk (hK K (Nat.le_refl _))
  have HR := Aside0.mk hr0
  have HB := Aside0.mk (Below.refl w.heap.size w)
  clear hK hr0
  cases hq : legsB ls
  · rw [hq] at HA
    clear hq hv
    go_enter Tryd.func81, Tryd.ntmps81
    go_wp2_with (go_at_call 52; (with_reducible refine (impl_areLegs.calls K _ _ ls false _ ?s1 ?s2 HA.out).mono ?_); (case s1 => exact Kd.C_below HR.out (by (repeat (first | exact HB.out | exact Below.refl _ _ | apply below_alloc | apply pw_below_drewN | apply below_drew1)); done)); (case s2 => exact hc); rintro e w' ⟨rfl, hw⟩; replace HB := Aside0.mk (below_step (show Below w.heap.size w _ from by (repeat (first | exact HB.out | exact Below.refl _ _ | apply below_alloc | apply pw_below_drewN | apply below_drew1)); done) hw); clear hw)
    go_ret2
    exact ⟨rfl, HB.out⟩
  · rw [hq] at HA
    have hv2 := hv hq
    have HW : Aside0 (impl_isStation.f s = some false) := ⟨by rw [isStation_eq, decide_eq_false (by omega)]⟩
    clear hq hv
    go_enter Tryd.func81, Tryd.ntmps81
    go_wp2_with (first
      | (go_at_call 52; (with_reducible refine (impl_areLegs.calls K _ _ ls true _ ?s1 ?s2 HA.out).mono ?_); (case s1 => exact Kd.C_below HR.out (by (repeat (first | exact HB.out | exact Below.refl _ _ | apply below_alloc | apply pw_below_drewN | apply below_drew1)); done)); (case s2 => exact hc); rintro e w' ⟨rfl, hw⟩; replace HB := Aside0.mk (below_step (show Below w.heap.size w _ from by (repeat (first | exact HB.out | exact Below.refl _ _ | apply below_alloc | apply pw_below_drewN | apply below_drew1)); done) hw); clear hw)
      | (go_at_call 104; (with_reducible refine (impl_isStation.calls _ _ _ HW.out).mono ?_); rintro e w' ⟨rfl, ⟨nd, rfl⟩⟩; replace HB := Aside0.mk (pw_below_drewN HB.out nd)))
    go_ret2
    exact ⟨rfl, HB.out⟩
end Go.Proofs.YtiooiefjcbooeaaDoor.Net

/- The misclosure of a loop is the error of its closing leg, in plain. -/
namespace Go.Proofs.YtiooiefjcbooeaaDoor.Net
open Go.RowKit Go.Proofs.YtiooiefjcbooeaaDoorW.PrintWords Go.Proofs.YtiooiefjcbooeaaDoorW.PrintLast Go.Proofs.YtiooiefjcbooeaaDoorW.PrintMore Go.Proofs.YtiooiefjcbooeaaDoor.A Go.Proofs.YtiooiefjcbooeaaDoor.Plain
open Go.Proofs.YtiooiefjcbooeaaDoor.Tree (verts legs W)
open Go.Proofs.YtiooiefjcbooeaaDoor.Grow (Q sweep grow)
set_option linter.unusedVariables false
set_option linter.unusedSimpArgs false
theorem mis_loop (ls : L) (hg : ∀ x ∈ ls, Good x) (all : List Int) (ha : ∀ i ∈ all, 0 ≤ i ∧ i < (ls.length : Int)) (hl : all.length ≤ 100) : ∀ (d j : Nat) (at_ s0 s1 s2 : Int), j + d = all.length →
    (-(8 + 14 * (j : Int)) ≤ at_ ∧ at_ ≤ 8 + 14 * (j : Int)) → (-(500 * (j : Int)) ≤ s0 ∧ s0 ≤ 500 * (j : Int)) → (-(500 * (j : Int)) ≤ s1 ∧ s1 ≤ 500 * (j : Int)) → (-(500 * (j : Int)) ≤ s2 ∧ s2 ≤ 500 * (j : Int)) →
    Ev (fun k => spec_l8Misclosure.l0 k ls all at_ (j : Int) s0 s1 s2) (s0 + Sum.ws (ends ls) (sh0 ls) at_ (all.drop j), s1 + Sum.ws (ends ls) (sh1 ls) at_ (all.drop j), s2 + Sum.ws (ends ls) (sh2 ls) at_ (all.drop j)) := by
  intro d
  induction d with
  | zero =>
    intro j at_ s0 s1 s2 hj _ _ _ _
    rw [List.drop_eq_nil_of_le (by omega)]
    simp only [Sum.ws, Int.add_zero]
    refine Ev.step (f := fun _ => some (s0, s1, s2)) (fun k => ?_) (Ev.now _)
    simp only [spec_l8Misclosure.l0]
    rw [if_neg (by omega)]
  | succ d ih =>
    intro j at_ s0 s1 s2 hj hat h0 h1 h2
    have hlt : j < all.length := by omega
    have er := rd_at all j hlt
    have hin := ha _ (List.getElem_mem hlt)
    rw [List.drop_eq_getElem_cons hlt]
    have e : wrap64 ((j : Int) + 1) = ((j + 1 : Nat) : Int) := by rw [w64 (by omega) (by omega)]; omega
    have bj : (j : Int) < (all.length : Int) := Int.ofNat_lt.mpr hlt
    have bj0 : (0 : Int) ≤ (j : Int) := Int.natCast_nonneg j
    obtain ⟨i, hi⟩ := Int.eq_ofNat_of_zero_le hin.1
    rw [hi] at hin er ⊢
    have hgi := leg_good hg i (Int.ofNat_lt.mp hin.2)
    have hsb := shift_bound _ hgi
    have hse := shift_eq _ hgi
    have hrd : rd_T56 ls (i : Int) = leg ls i := rfl
    simp only [Sum.ws, show ends ls i = ((leg ls i).f0, (leg ls i).f1) from rfl, show sh0 ls i = (shift (leg ls i)).f0 from rfl, show sh1 ls i = (shift (leg ls i)).f1 from rfl, show sh2 ls i = (shift (leg ls i)).f2 from rfl]
    obtain ⟨⟨a0, a8⟩, ⟨b0, b8⟩, _⟩ := hgi
    generalize leg ls (i : Int) = x at *
    have ho : wrap64 ((wrap64 (x.f0 + x.f1)) - at_) = x.f0 + x.f1 - at_ := by rw [w64 (x := x.f0 + x.f1) (by omega) (by omega), w64 (by omega) (by omega)]
    generalize shift x = s at *
    have ex := plus_exact (a := ⟨s0, s1, s2⟩) (b := s) ⟨by simp only; omega, by simp only; omega, by simp only; omega⟩ ⟨by omega, by omega, by omega⟩
    by_cases c : x.f0 = at_
    · simp only [if_pos c]
      have h := ih (j + 1) (x.f0 + x.f1 - at_) (s0 + s.f0) (s1 + s.f1) (s2 + s.f2) (by omega) (by omega) (by omega) (by omega) (by omega)
      rw [Int.add_assoc, Int.add_assoc, Int.add_assoc] at h
      refine Ev.step (fun k => ?_) h
      simp only [spec_l8Misclosure.l0]
      rw [if_pos bj, if_pos bj0, er, if_pos hin.1, if_pos hin.2, hrd, if_pos c, hse, Option.bind_some]
      have hp : spec_l4Plus.f s0 s1 s2 s.f0 s.f1 s.f2 1 = some (s0 + s.f0, s1 + s.f1, s2 + s.f2) := by
        have := ex.1
        unfold plus at this
        injection this with p0 p1 p2
        unfold spec_l4Plus.f
        simp only at p0 p1 p2
        rw [p0, p1, p2]
      rw [hp, Option.bind_some, ho, e]
    · simp only [if_neg c]
      have h := ih (j + 1) (x.f0 + x.f1 - at_) (s0 + - s.f0) (s1 + - s.f1) (s2 + - s.f2) (by omega) (by omega) (by omega) (by omega) (by omega)
      rw [Int.add_assoc, Int.add_assoc, Int.add_assoc] at h
      refine Ev.step (fun k => ?_) h
      simp only [spec_l8Misclosure.l0]
      rw [if_pos bj, if_pos bj0, er, if_pos hin.1, if_pos hin.2, hrd, if_neg c, hse, Option.bind_some]
      have hp : spec_l4Plus.f s0 s1 s2 s.f0 s.f1 s.f2 (-1) = some (s0 + - s.f0, s1 + - s.f1, s2 + - s.f2) := by
        have := ex.2
        unfold plus at this
        injection this with p0 p1 p2
        unfold spec_l4Plus.f
        simp only at p0 p1 p2
        rw [p0, p1, p2]
        rfl
      rw [hp, Option.bind_some, ho, e]
theorem loopL_range {ls : L} (hg : ∀ x ∈ ls, Good x) {i : Int} (hi : i ∈ closeL ls) : ∀ j ∈ loopL ls i, 0 ≤ j ∧ j < (ls.length : Int) := by
  obtain ⟨h0, h1, h2, h3, _⟩ := mem_closeL hg hi
  intro j hj
  simp only [loopL, List.mem_append, List.mem_singleton] at hj
  rcases hj with hj | rfl
  · have := (Tree.walk_W (RR_ok hg).1.tr h3 h2).legs_mem (RR_ok hg).1.tr j hj
    have := (RR_ok hg).1.legs_ends (ends ls) this
    exact ⟨this.2.2.2.1, this.2.2.2.2⟩
  · exact ⟨h0, h1⟩
theorem loopL_len {ls : L} (hg : ∀ x ∈ ls, Good x) (i : Int) : (loopL ls i).length ≤ 8 := by
  have := Tree.W_len (RR ls) (ends ls i).2 (ends ls i).1
  have hl := RR_len hg
  simp only [loopL, List.length_append, List.length_singleton]
  omega
theorem ends_ne {ls : L} (hg : ∀ x ∈ ls, Good x) : ∀ i : Int, 0 ≤ i → i < ls.length → (ends ls i).1 ≠ (ends ls i).2 := by
  intro i h0 h1
  obtain ⟨k, rfl⟩ := Int.eq_ofNat_of_zero_le h0
  exact (leg_good hg k (Int.ofNat_lt.mp h1)).2.2.1
theorem RR_idx {ls : L} (hg : ∀ x ∈ ls, Good x) : ∀ x ∈ RR ls, 0 ≤ x.1 ∧ x.1 < (ls.length : Int) := fun x hx => ((RR_ok hg).1.ends x hx).2
/-- The error of a leg, without wraps. -/
theorem err_exact {ls : L} (hg : ∀ x ∈ ls, Good x) (i : Nat) (hi : i < ls.length) : errM (Xq ls (RR ls)) (leg ls i) =
    ⟨sh0 ls i - Sum.pl (ends ls) (sh0 ls) (RR ls) (ends ls i).2 + Sum.pl (ends ls) (sh0 ls) (RR ls) (ends ls i).1, sh1 ls i - Sum.pl (ends ls) (sh1 ls) (RR ls) (ends ls i).2 + Sum.pl (ends ls) (sh1 ls) (RR ls) (ends ls i).1, sh2 ls i - Sum.pl (ends ls) (sh2 ls) (RR ls) (ends ls i).2 + Sum.pl (ends ls) (sh2 ls) (RR ls) (ends ls i).1⟩ := by
  have hgi := leg_good hg i hi
  have hl := RR_len hg
  have hsb := sh_bound hg i (by omega) (by omega)
  have hp := fun x => plq_pl hg (q := RR ls) (by omega) (RR_idx hg) x
  have b0 := fun x => pl_bound (sh0 ls) (fun i a b => (sh_bound hg i a b).1) (RR_idx hg) x
  have b1 := fun x => pl_bound (sh1 ls) (fun i a b => (sh_bound hg i a b).2.1) (RR_idx hg) x
  have b2 := fun x => pl_bound (sh2 ls) (fun i a b => (sh_bound hg i a b).2.2) (RR_idx hg) x
  have e1 : Xq ls (RR ls) (leg ls i).f1.toNat = ⟨Sum.pl (ends ls) (sh0 ls) (RR ls) (ends ls i).2, Sum.pl (ends ls) (sh1 ls) (RR ls) (ends ls i).2, Sum.pl (ends ls) (sh2 ls) (RR ls) (ends ls i).2⟩ := by
    unfold Xq; rw [Int.toNat_of_nonneg hgi.2.1.1]; exact hp _
  have e0 : Xq ls (RR ls) (leg ls i).f0.toNat = ⟨Sum.pl (ends ls) (sh0 ls) (RR ls) (ends ls i).1, Sum.pl (ends ls) (sh1 ls) (RR ls) (ends ls i).1, Sum.pl (ends ls) (sh2 ls) (RR ls) (ends ls i).1⟩ := by
    unfold Xq; rw [Int.toNat_of_nonneg hgi.1.1]; exact hp _
  unfold errM
  rw [e1, e0]
  have c1 := b0 (ends ls i).1
  have c2 := b0 (ends ls i).2
  have c3 := b1 (ends ls i).1
  have c4 := b1 (ends ls i).2
  have c5 := b2 (ends ls i).1
  have c6 := b2 (ends ls i).2
  have es : shift (leg ls i) = ⟨sh0 ls i, sh1 ls i, sh2 ls i⟩ := rfl
  rw [es]
  clear e1 e0 es hp b0 b1 b2
  generalize sh0 ls i = s0 at *
  generalize sh1 ls i = s1 at *
  generalize sh2 ls i = s2 at *
  generalize Sum.pl (ends ls) (sh0 ls) (RR ls) (ends ls i).1 = p1 at *
  generalize Sum.pl (ends ls) (sh0 ls) (RR ls) (ends ls i).2 = p2 at *
  generalize Sum.pl (ends ls) (sh1 ls) (RR ls) (ends ls i).1 = p3 at *
  generalize Sum.pl (ends ls) (sh1 ls) (RR ls) (ends ls i).2 = p4 at *
  generalize Sum.pl (ends ls) (sh2 ls) (RR ls) (ends ls i).1 = p5 at *
  generalize Sum.pl (ends ls) (sh2 ls) (RR ls) (ends ls i).2 = p6 at *
  have x1 := (plus_exact (a := ⟨s0, s1, s2⟩) (b := ⟨p2, p4, p6⟩) ⟨by simp only; omega, by simp only; omega, by simp only; omega⟩ ⟨by simp only; omega, by simp only; omega, by simp only; omega⟩).2
  rw [x1]
  exact (plus_exact (a := ⟨s0 - p2, s1 - p4, s2 - p6⟩) (b := ⟨p1, p3, p5⟩) ⟨by simp only; omega, by simp only; omega, by simp only; omega⟩ ⟨by simp only; omega, by simp only; omega, by simp only; omega⟩).1
theorem l8Mis_ev {ls : L} (hn : ls.length ≤ 12) (hg : ∀ x ∈ ls, Good x) {i : Int} (hi : i ∈ closeL ls) : Ev (fun k => spec_l8Misclosure.f k ls i) ((errM (Xq ls (RR ls)) (leg ls i)).f0, (errM (Xq ls (RR ls)) (leg ls i)).f1, (errM (Xq ls (RR ls)) (leg ls i)).f2) := by
  obtain ⟨h0, h1, h2, h3, _⟩ := mem_closeL hg hi
  have hr := loopL_range hg hi
  have hl := loopL_len hg i
  obtain ⟨k, rfl⟩ := Int.eq_ofNat_of_zero_le h0
  have hgk := leg_good hg k (Int.ofNat_lt.mp h1)
  rw [err_exact hg k (Int.ofNat_lt.mp h1)]
  refine Ev.bind (loop_ev hn hg hi) (Ev.pos h0 (Ev.pos h1 ?_))
  have h := mis_loop ls hg (loopL ls k) hr (by omega) (loopL ls k).length 0 (ends ls k).2 0 0 0 (by omega) (by have := hgk.2.1; show -(8 + 14 * ((0 : Nat) : Int)) ≤ (leg ls k).f1 ∧ (leg ls k).f1 ≤ 8 + 14 * ((0 : Nat) : Int); omega) (by omega) (by omega) (by omega)
  rw [List.drop_zero, Int.zero_add, Int.zero_add, Int.zero_add] at h
  unfold loopL at h
  rw [Sum.loop_sum (ends ls) (sh0 ls) (RR_ok hg).1 (ends_ne hg) h2 h3, Sum.loop_sum (ends ls) (sh1 ls) (RR_ok hg).1 (ends_ne hg) h2 h3, Sum.loop_sum (ends ls) (sh2 ls) (RR_ok hg).1 (ends_ne hg) h2 h3] at h
  exact h
def misM (ls : L) (i : Int) : S34 × Bool := if (legsB ls && decide (i ∈ closeL ls)) = true then (errM (Xq ls (RR ls)) (leg ls i), true) else (z34, false)
theorem mis_ev (ls : L) (i : Int) (hb : ls.length ≤ 140737488351232) : Ev (fun k => spec_MisclosureOf.f k ls i) ((misM ls i).1.f0, (misM ls i).1.f1, (misM ls i).1.f2, (misM ls i).2) := by
  refine Ev.bind (closingB_ev ls i hb) ?_
  unfold misM
  by_cases h : (legsB ls && decide (i ∈ closeL ls)) = true
  · rw [if_pos h]
    have h1 := (Bool.and_eq_true _ _).mp h
    have h' := legsB_iff.mp h1.1
    exact Ev.pos h (Ev.bind (l8Mis_ev h'.2 h'.1 (of_decide_eq_true h1.2)) (Ev.now _))
  · rw [if_neg h]
    exact Ev.neg h (Ev.now _)
end Go.Proofs.YtiooiefjcbooeaaDoor.Net

/- The program's MisclosureOf, in the form of the printed functions, over the laid table of sines. -/
namespace Go.Proofs.YtiooiefjcbooeaaDoor.A
open Go.RowKit Go.Proofs.YtiooiefjcbooeaaDoorW.PrintWords Go.Proofs.YtiooiefjcbooeaaDoorW.PrintLast Go.Proofs.YtiooiefjcbooeaaDoorW.PrintMore
open Go.Proofs.YtiooiefjcbooeaaDoor.Net
set_option linter.unusedVariables false
set_option linter.unusedSimpArgs false
def impl_MisclosureOf.f (l0 : List (S56)) (a1 : Int) : Option (Int × Int × Int × Bool) := if l0.length ≤ 140737488351232 then some ((misM l0 a1).1.f0, (misM l0 a1).1.f1, (misM l0 a1).1.f2, (misM l0 a1).2) else none
set_option maxHeartbeats 2000000 in
set_option maxRecDepth 100000 in
theorem impl_MisclosureOf.calls (A0 : Option Addr) (c0 : Nat) (l0 : List (S56)) (a1 : Int) (r1 : Int) (r2 : Int) (r3 : Int) (r4 : Bool) (w : World) (hr0 : Kd.C k56 w A0 l0.length l0) (hc0 : l0.length ≤ c0) (h : impl_MisclosureOf.f l0 a1 = some (r1, r2, r3, r4)) (hL : Sine.Laid w) :
    Calls Tryd.prog 23 #[.slice A0 l0.length c0, .int .i64 a1] w fun e w' => e = .returned (.tuple #[.agg #[.int .i64 r1, .int .i64 r2, .int .i64 r3], .bool r4]) ∧ Below w.heap.size w w' := by
  unfold impl_MisclosureOf.f at h
  by_cases hb : l0.length ≤ 140737488351232
  · rw [if_pos hb] at h
    have HR := Aside0.mk hr0
    have HL := Aside0.mk hL
    have HB := Aside0.mk (Below.refl w.heap.size w)
    unfold misM at h
    cases hv : legsB l0
    · rw [if_neg (by rw [hv]; simp)] at h
      simp only [Option.some.injEq, Prod.mk.injEq] at h
      obtain ⟨rfl, rfl, rfl, rfl⟩ := h
      clear hr0 hL
      go_enter Tryd.func23, Tryd.ntmps23
      go_wp2_with (go_at_call 62; (with_reducible refine (closingLeg_no A0 c0 l0 a1 _ ?s1 hc0 hb hv).mono ?_); (case s1 => exact Kd.C_below HR.out (by (repeat (first | exact HB.out | exact Below.refl _ _ | apply below_alloc | apply pw_below_drewN | apply below_drew1)); done)); rintro e w' ⟨rfl, hw⟩; replace HB := Aside0.mk (below_step (show Below w.heap.size w _ from by (repeat (first | exact HB.out | exact Below.refl _ _ | apply below_alloc | apply pw_below_drewN | apply below_drew1)); done) hw); have g0 : w'.cell? ⟨w.heap.size, 0, none⟩ = some (.int .i64 0) := Sine.keepc (by first | assumption | (go_simp; done)) hw; have g1 : w'.cell? ⟨w.heap.size, 1, none⟩ = some (.int .i64 0) := Sine.keepc (by first | assumption | (go_simp; done)) hw; have g2 : w'.cell? ⟨w.heap.size, 2, none⟩ = some (.int .i64 0) := Sine.keepc (by first | assumption | (go_simp; done)) hw; have z0 : w'.frozen? ⟨w.heap.size, 0, none⟩ = false := keepz (v := .int .i64 0) (by first | assumption | (go_simp; done)) (by first | assumption | (go_simp; done)) hw; have z1 : w'.frozen? ⟨w.heap.size, 1, none⟩ = false := keepz (v := .int .i64 0) (by first | assumption | (go_simp; done)) (by first | assumption | (go_simp; done)) hw; have z2 : w'.frozen? ⟨w.heap.size, 2, none⟩ = false := keepz (v := .int .i64 0) (by first | assumption | (go_simp; done)) (by first | assumption | (go_simp; done)) hw; clear hw)
      exact bodyPost_ret (v := .tuple #[.agg #[.int .i64 0, .int .i64 0, .int .i64 0], .bool false]) (by simp [results, Tryd.results23, go_sem, g0, g1, g2]) rfl ⟨rfl, by repeat (first | exact HB.out | apply below_drew1 | (refine below_set ?_ (by omega)))⟩
    · by_cases hm : a1 ∈ closeL l0
      · rw [if_pos (by rw [hv, decide_eq_true hm]; rfl)] at h
        simp only [Option.some.injEq, Prod.mk.injEq] at h
        obtain ⟨rfl, rfl, rfl, rfl⟩ := h
        have hv' := legsB_iff.mp hv
        obtain ⟨i0, i1, _⟩ := mem_closeL hv'.1 hm
        obtain ⟨k, rfl⟩ := Int.eq_ofNat_of_zero_le i0
        have HX := Aside0.mk (leg_good hv'.1 k (Int.ofNat_lt.mp i1))
        obtain ⟨_, e2, h0, h1, h2, h3, h4⟩ := at_T56 hr0 (k : Int) i0 i1
        cases e2
        rw [Int.toNat_natCast, show rd_T56 l0 (k : Int) = leg l0 k from rfl] at h0 h1 h2 h3 h4
        have H0 := Aside0.mk h0
        have H1 := Aside0.mk h1
        have H2 := Aside0.mk h2
        have H3 := Aside0.mk h3
        have H4 := Aside0.mk h4
        have HE : ∀ P X B cl T g W, Sine.Laid W → St l0.length T g P X B cl W → Aside0 (Calls Tryd.prog 63 #[.pointer (some ⟨g, 0, none⟩), .agg #[.int .i64 (leg l0 k).f0, .int .i64 (leg l0 k).f1, .int .i64 (leg l0 k).f2, .int .i64 (leg l0 k).f3, .int .i64 (leg l0 k).f4]] W fun e w' => e = .returned (.agg #[.int .i64 (errM X (leg l0 k)).f0, .int .i64 (errM X (leg l0 k)).f1, .int .i64 (errM X (leg l0 k)).f2]) ∧ Below W.heap.size W w') := fun P X B cl T g W hl hs => ⟨errorOf (leg l0 k) W hl hs HX.out⟩
        clear h0 h1 h2 h3 h4 hr0 hL hv'
        generalize leg l0 (k : Int) = x at *
        go_enter Tryd.func23, Tryd.ntmps23
        go_wp2_with (first
          | (go_at_call 62; (with_reducible refine (closingLeg _ c0 l0 (k : Int) _ ?s0 ?s1 hc0 hv).mono ?_); (case s0 => exact HL.out.keep (by (repeat (first | exact HB.out | exact Below.refl _ _ | apply below_alloc | apply pw_below_drewN | apply below_drew1)); done)); (case s1 => exact Kd.C_below HR.out (by (repeat (first | exact HB.out | exact Below.refl _ _ | apply below_alloc | apply pw_below_drewN | apply below_drew1)); done)); rintro e w' ⟨g, T, cA, cC, rfl, hst, _, hw⟩; rw [decide_eq_true hm]; replace HB := Aside0.mk (below_step (show Below w.heap.size w _ from by (repeat (first | exact HB.out | exact Below.refl _ _ | apply below_alloc | apply pw_below_drewN | apply below_drew1)); done) hw); have g0 : w'.cell? ⟨w.heap.size, 0, none⟩ = some (.int .i64 0) := Sine.keepc (by first | assumption | (go_simp; done)) hw; have g1 : w'.cell? ⟨w.heap.size, 1, none⟩ = some (.int .i64 0) := Sine.keepc (by first | assumption | (go_simp; done)) hw; have g2 : w'.cell? ⟨w.heap.size, 2, none⟩ = some (.int .i64 0) := Sine.keepc (by first | assumption | (go_simp; done)) hw; have z0 : w'.frozen? ⟨w.heap.size, 0, none⟩ = false := keepz (v := .int .i64 0) (by first | assumption | (go_simp; done)) (by first | assumption | (go_simp; done)) hw; have z1 : w'.frozen? ⟨w.heap.size, 1, none⟩ = false := keepz (v := .int .i64 0) (by first | assumption | (go_simp; done)) (by first | assumption | (go_simp; done)) hw; have z2 : w'.frozen? ⟨w.heap.size, 2, none⟩ = false := keepz (v := .int .i64 0) (by first | assumption | (go_simp; done)) (by first | assumption | (go_simp; done)) hw; clear hw; have HS := Aside0.mk hst; clear hst
             have h0 := Sine.keepc H0.out HB.out
             have h1 := Sine.keepc H1.out HB.out
             have h2 := Sine.keepc H2.out HB.out
             have h3 := Sine.keepc H3.out HB.out
             have h4 := Sine.keepc H4.out HB.out)
          | (go_at_call 63; (with_reducible refine (HE _ _ _ _ _ _ _ ?s0 HS.out).out.mono ?_); (case s0 => exact HL.out.keep (by (repeat (first | exact HB.out | exact Below.refl _ _ | apply below_alloc | apply pw_below_drewN | apply below_drew1)); done)); rintro e w' ⟨rfl, hw⟩; replace HB := Aside0.mk (below_step (show Below w.heap.size w _ from by (repeat (first | exact HB.out | exact Below.refl _ _ | apply below_alloc | apply pw_below_drewN | apply below_drew1)); done) hw); have g0 : w'.cell? ⟨w.heap.size, 0, none⟩ = some (.int .i64 0) := Sine.keepc (by first | assumption | (go_simp; done)) hw; have g1 : w'.cell? ⟨w.heap.size, 1, none⟩ = some (.int .i64 0) := Sine.keepc (by first | assumption | (go_simp; done)) hw; have g2 : w'.cell? ⟨w.heap.size, 2, none⟩ = some (.int .i64 0) := Sine.keepc (by first | assumption | (go_simp; done)) hw; have z0 : w'.frozen? ⟨w.heap.size, 0, none⟩ = false := keepz (v := .int .i64 0) (by first | assumption | (go_simp; done)) (by first | assumption | (go_simp; done)) hw; have z1 : w'.frozen? ⟨w.heap.size, 1, none⟩ = false := keepz (v := .int .i64 0) (by first | assumption | (go_simp; done)) (by first | assumption | (go_simp; done)) hw; have z2 : w'.frozen? ⟨w.heap.size, 2, none⟩ = false := keepz (v := .int .i64 0) (by first | assumption | (go_simp; done)) (by first | assumption | (go_simp; done)) hw; clear hw))
        exact bodyPost_ret (v := .tuple #[.agg #[.int .i64 (errM (Xq l0 (RR l0)) x).f0, .int .i64 (errM (Xq l0 (RR l0)) x).f1, .int .i64 (errM (Xq l0 (RR l0)) x).f2], .bool true]) (by simp [results, Tryd.results23, go_sem, g0, g1, g2]) rfl ⟨rfl, by repeat (first | exact HB.out | apply below_drew1 | (refine below_set ?_ (by omega)))⟩
      · rw [if_neg (by rw [hv, decide_eq_false hm]; simp)] at h
        simp only [Option.some.injEq, Prod.mk.injEq] at h
        obtain ⟨rfl, rfl, rfl, rfl⟩ := h
        clear hr0 hL
        go_enter Tryd.func23, Tryd.ntmps23
        go_wp2_with (go_at_call 62; (with_reducible refine (closingLeg A0 c0 l0 a1 _ ?s0 ?s1 hc0 hv).mono ?_); (case s0 => exact HL.out.keep (by (repeat (first | exact HB.out | exact Below.refl _ _ | apply below_alloc | apply pw_below_drewN | apply below_drew1)); done)); (case s1 => exact Kd.C_below HR.out (by (repeat (first | exact HB.out | exact Below.refl _ _ | apply below_alloc | apply pw_below_drewN | apply below_drew1)); done)); rintro e w' ⟨g, T, cA, cC, rfl, hst, _, hw⟩; rw [decide_eq_false hm]; replace HB := Aside0.mk (below_step (show Below w.heap.size w _ from by (repeat (first | exact HB.out | exact Below.refl _ _ | apply below_alloc | apply pw_below_drewN | apply below_drew1)); done) hw); have g0 : w'.cell? ⟨w.heap.size, 0, none⟩ = some (.int .i64 0) := Sine.keepc (by first | assumption | (go_simp; done)) hw; have g1 : w'.cell? ⟨w.heap.size, 1, none⟩ = some (.int .i64 0) := Sine.keepc (by first | assumption | (go_simp; done)) hw; have g2 : w'.cell? ⟨w.heap.size, 2, none⟩ = some (.int .i64 0) := Sine.keepc (by first | assumption | (go_simp; done)) hw; have z0 : w'.frozen? ⟨w.heap.size, 0, none⟩ = false := keepz (v := .int .i64 0) (by first | assumption | (go_simp; done)) (by first | assumption | (go_simp; done)) hw; have z1 : w'.frozen? ⟨w.heap.size, 1, none⟩ = false := keepz (v := .int .i64 0) (by first | assumption | (go_simp; done)) (by first | assumption | (go_simp; done)) hw; have z2 : w'.frozen? ⟨w.heap.size, 2, none⟩ = false := keepz (v := .int .i64 0) (by first | assumption | (go_simp; done)) (by first | assumption | (go_simp; done)) hw; clear hw hst)
        exact bodyPost_ret (v := .tuple #[.agg #[.int .i64 0, .int .i64 0, .int .i64 0], .bool false]) (by simp [results, Tryd.results23, go_sem, g0, g1, g2]) rfl ⟨rfl, by repeat (first | exact HB.out | apply below_drew1 | (refine below_set ?_ (by omega)))⟩
  · rw [if_neg hb] at h
    cases h
end Go.Proofs.YtiooiefjcbooeaaDoor.A

/- One Lean function and its proof for each Go function, written by a program out of the translation. No conditions. -/
namespace Go.Proofs.YtiooiefjcbooeaaDoor.A
open Go.Proofs.YtiooiefjcbooeaaDoor Go.RowKit Go.Proofs.YtiooiefjcbooeaaDoorW.PrintWords Go.Proofs.YtiooiefjcbooeaaDoorW.PrintLast Go.Proofs.YtiooiefjcbooeaaDoorW.PrintMore
attribute [local go_sem] max2_int min2_int max_two min_two max_three min_three max_four min_four   -- for this text's walks alone
set_option linter.unusedVariables false
set_option linter.unusedSimpArgs false

/-! ### laws_FnExactMisclosureOf: function 5 -/
def laws_FnExactMisclosureOf.j0 : Nat → List (S58) → List (S56) → Bool → Option (Bool)
  | 0, _, _, _ => none
  | k + 1, x0, x8, x39 => if x39 = true then (some false) else ((laws_toLegS.f k x0).bind fun t421 => ((laws_eqLegS.f k x8 t421).bind fun t424 => (if t424 = true then (some true) else (some false))))
def laws_FnExactMisclosureOf.f (k : Nat) (l0 : List (S58)) (a1 : Int) : Option (Bool) := (laws_szLegS.f l0 1048576).bind fun t403 => (if t403 < 0 then (some true) else ((laws_toLegS.f k l0).bind fun t404 => ((spec_MisclosureOf.f k t404 a1).bind fun bt407 => ((laws_toLegS.f k l0).bind fun t412 => ((impl_MisclosureOf.f t412 a1).bind fun bt415 => ((laws_eqShift.f bt415.1 bt415.2.1 bt415.2.2.1 bt407.1 bt407.2.1 bt407.2.2.1).bind fun t420 => (if t420 = true then (laws_FnExactMisclosureOf.j0 k l0 t412 (bt415.2.2.2 != bt407.2.2.2)) else (laws_FnExactMisclosureOf.j0 k l0 t412 true))))))))
theorem laws_FnExactMisclosureOf.mono_l : ∀ k, (∀ y0 y1 y2, LeO (laws_FnExactMisclosureOf.j0 k y0 y1 y2) (laws_FnExactMisclosureOf.j0 (k + 1) y0 y1 y2))
  | 0 => fun _ _ _ r h => by simp [laws_FnExactMisclosureOf.j0] at h
  | k + 1 => by
    have ih0 := laws_FnExactMisclosureOf.mono_l k
    · intro y0 y1 y2
      unfold laws_FnExactMisclosureOf.j0
      repeat' first
      | (with_reducible exact ih0 _ _ _)
      | (with_reducible exact laws_eqLegS.mono _ _ _)
      | (with_reducible exact laws_toLegS.mono _ _)
      | (with_reducible exact spec_MisclosureOf.mono _ _ _)
      | (with_reducible exact LeO.refl _)
      | (with_reducible exact LeO.none _)
      | (with_reducible refine LeO.ite ?_ ?_)
      | (with_reducible refine LeO.bind ?_ (fun _ => ?_))
      | exact ih0 _ _ _
      | exact laws_eqLegS.mono _ _ _
      | exact laws_toLegS.mono _ _
      | exact spec_MisclosureOf.mono _ _ _
      | exact LeO.none _
      | refine LeO.ite ?_ ?_
      | refine LeO.bind ?_ (fun _ => ?_)
theorem laws_FnExactMisclosureOf.mono : ∀ a0 a1 k, LeO (laws_FnExactMisclosureOf.f k a0 a1) (laws_FnExactMisclosureOf.f (k + 1) a0 a1) := by
  intro a0 a1 k
  have ih0 := laws_FnExactMisclosureOf.mono_l k
  unfold laws_FnExactMisclosureOf.f
  repeat' first
      | (with_reducible exact ih0 _ _ _)
      | (with_reducible exact laws_eqLegS.mono _ _ _)
      | (with_reducible exact laws_toLegS.mono _ _)
      | (with_reducible exact spec_MisclosureOf.mono _ _ _)
      | (with_reducible exact LeO.refl _)
      | (with_reducible exact LeO.none _)
      | (with_reducible refine LeO.ite ?_ ?_)
      | (with_reducible refine LeO.bind ?_ (fun _ => ?_))
      | exact ih0 _ _ _
      | exact laws_eqLegS.mono _ _ _
      | exact laws_toLegS.mono _ _
      | exact spec_MisclosureOf.mono _ _ _
      | exact LeO.none _
      | refine LeO.ite ?_ ?_
      | refine LeO.bind ?_ (fun _ => ?_)
set_option maxHeartbeats 8000000 in
set_option maxRecDepth 100000 in
theorem laws_FnExactMisclosureOf.calls (k : Nat) (A0 : Option Addr) (c0 : Nat) (l0 : List (S58)) (a1 : Int) (r : Bool) (w : World) (hr0 : Kd.C k58 w A0 l0.length l0) (hc0 : l0.length ≤ c0) (h : laws_FnExactMisclosureOf.f k l0 a1 = some r) (hL : Net.Sine.Laid w) :
    Calls Tryd.prog 5 #[.slice A0 l0.length c0, .int .i64 a1] w fun e w' => e = .returned (.bool r) ∧ Below w.heap.size w w' := by
  have HL := Aside0.mk hL
  clear hL
  have hu34 := Tryd.underlying34
  have HR0 := Aside0.mk hr0
  have HC0 := Aside0.mk hc0
  clear hr0 hc0
  have HB := Aside0.mk (Below.refl w.heap.size w)
  have H : ((laws_szLegS.f l0 1048576).bind fun t403 => (if t403 < 0 then (some true) else ((laws_toLegS.f k l0).bind fun t404 => ((spec_MisclosureOf.f k t404 a1).bind fun bt407 => ((laws_toLegS.f k l0).bind fun t412 => ((impl_MisclosureOf.f t412 a1).bind fun bt415 => ((laws_eqShift.f bt415.1 bt415.2.1 bt415.2.2.1 bt407.1 bt407.2.1 bt407.2.2.1).bind fun t420 => (if t420 = true then (laws_FnExactMisclosureOf.j0 k l0 t412 (bt415.2.2.2 != bt407.2.2.2)) else (laws_FnExactMisclosureOf.j0 k l0 t412 true))))))))) = some r := h
  clear h
  replace H := Option.bind_eq_some_iff.mp H
  obtain ⟨t403, A30, H⟩ := H
  replace H : (if t403 < 0 then (some true) else ((laws_toLegS.f k l0).bind fun t404 => ((spec_MisclosureOf.f k t404 a1).bind fun bt407 => ((laws_toLegS.f k l0).bind fun t412 => ((impl_MisclosureOf.f t412 a1).bind fun bt415 => ((laws_eqShift.f bt415.1 bt415.2.1 bt415.2.2.1 bt407.1 bt407.2.1 bt407.2.2.1).bind fun t420 => (if t420 = true then (laws_FnExactMisclosureOf.j0 k l0 t412 (bt415.2.2.2 != bt407.2.2.2)) else (laws_FnExactMisclosureOf.j0 k l0 t412 true)))))))) = some r := H
  have A3 := Aside0.mk A30
  clear A30
  by_cases c4 : t403 < 0
  · rw [if_pos c4] at H
    have c4b0 : decide (t403 < 0) = true := decide_eq_true c4
    clear c4
    obtain rfl := Option.some.inj H
    go_enter Tryd.func5, Tryd.ntmps5
    go_wp2_with (first | ((with_reducible refine gate_callee (f := 15) rfl ?_); refine goesL_ (some 13) rfl rfl Tryd.func15 (by kernel_rfl) rfl #[.slice A0 l0.length c0, .int .i64 1048576] rfl (by (try simp only [List.map_toArray, List.map_cons, List.map_nil]); first | done | rfl | (simp only [List.length_drop, List.length_take]; rfl)) ?_; (with_reducible refine (laws_szLegS.calls _ _ l0 1048576 t403 _ ?side1 ?side2 A3.out).mono ?_); (case side1 => repeat (first | exact HR0.out | (with_reducible refine Kd.C_alloc ?_ _) | (with_reducible refine Kd.C_drewN ?_ _) | (with_reducible refine Kd.C_drew ?_))); (case side2 => exact HC0.out); rintro e w' ⟨rfl, ⟨nd, rfl⟩⟩; refine ⟨_, rfl, ?_⟩))
    go_ret
    exact ⟨by first | rfl | (simp [errW_none, errW_some] <;> rfl) | (simp [*, errW_none, errW_some] <;> rfl), by repeat (first | (with_reducible first | exact HB.out | apply below_alloc | apply pw_below_drewN | apply below_drew1) | exact HB.out)⟩
  · rw [if_neg c4] at H
    have c4b0 : decide (t403 < 0) = false := decide_eq_false c4
    clear c4
    replace H := Option.bind_eq_some_iff.mp H
    obtain ⟨t404, A50, H⟩ := H
    replace H : ((spec_MisclosureOf.f k t404 a1).bind fun bt407 => ((laws_toLegS.f k l0).bind fun t412 => ((impl_MisclosureOf.f t412 a1).bind fun bt415 => ((laws_eqShift.f bt415.1 bt415.2.1 bt415.2.2.1 bt407.1 bt407.2.1 bt407.2.2.1).bind fun t420 => (if t420 = true then (laws_FnExactMisclosureOf.j0 k l0 t412 (bt415.2.2.2 != bt407.2.2.2)) else (laws_FnExactMisclosureOf.j0 k l0 t412 true)))))) = some r := H
    have A5 := Aside0.mk A50
    clear A50
    replace H := Option.bind_eq_some_iff.mp H
    obtain ⟨⟨t407, t408, t409, t410⟩, A60, H⟩ := H
    replace H : ((laws_toLegS.f k l0).bind fun t412 => ((impl_MisclosureOf.f t412 a1).bind fun bt415 => ((laws_eqShift.f bt415.1 bt415.2.1 bt415.2.2.1 t407 t408 t409).bind fun t420 => (if t420 = true then (laws_FnExactMisclosureOf.j0 k l0 t412 (bt415.2.2.2 != t410)) else (laws_FnExactMisclosureOf.j0 k l0 t412 true))))) = some r := H
    have A6 := Aside0.mk A60
    clear A60
    replace H := Option.bind_eq_some_iff.mp H
    obtain ⟨t412, A70, H⟩ := H
    replace H : ((impl_MisclosureOf.f t412 a1).bind fun bt415 => ((laws_eqShift.f bt415.1 bt415.2.1 bt415.2.2.1 t407 t408 t409).bind fun t420 => (if t420 = true then (laws_FnExactMisclosureOf.j0 k l0 t412 (bt415.2.2.2 != t410)) else (laws_FnExactMisclosureOf.j0 k l0 t412 true)))) = some r := H
    have A7 := Aside0.mk A70
    clear A70
    replace H := Option.bind_eq_some_iff.mp H
    obtain ⟨⟨t415, t416, t417, t418⟩, A80, H⟩ := H
    replace H : ((laws_eqShift.f t415 t416 t417 t407 t408 t409).bind fun t420 => (if t420 = true then (laws_FnExactMisclosureOf.j0 k l0 t412 (t418 != t410)) else (laws_FnExactMisclosureOf.j0 k l0 t412 true))) = some r := H
    have A8 := Aside0.mk A80
    clear A80
    have HC9 := Aside0.mk H
    clear H
    go_enter Tryd.func5, Tryd.ntmps5
    go_upto_region 8 with (first | ((with_reducible refine gate_callee (f := 15) rfl ?_); refine goesL_ (some 13) rfl rfl Tryd.func15 (by kernel_rfl) rfl #[.slice A0 l0.length c0, .int .i64 1048576] rfl (by (try simp only [List.map_toArray, List.map_cons, List.map_nil]); first | done | rfl | (simp only [List.length_drop, List.length_take]; rfl)) ?_; (with_reducible refine (laws_szLegS.calls _ _ l0 1048576 t403 _ ?side1 ?side2 A3.out).mono ?_); (case side1 => repeat (first | exact HR0.out | (with_reducible refine Kd.C_alloc ?_ _) | (with_reducible refine Kd.C_drewN ?_ _) | (with_reducible refine Kd.C_drew ?_))); (case side2 => exact HC0.out); rintro e w' ⟨rfl, ⟨nd, rfl⟩⟩; refine ⟨_, rfl, ?_⟩) | ((with_reducible refine gate_callee (f := 17) rfl ?_); refine goesL_ (some 18) rfl rfl Tryd.func17 (by kernel_rfl) rfl #[.slice A0 l0.length c0] rfl (by (try simp only [List.map_toArray, List.map_cons, List.map_nil]); first | done | rfl | (simp only [List.length_drop, List.length_take]; rfl)) ?_; (with_reducible refine (laws_toLegS.calls k _ _ l0 t404 _ ?side1 ?side2 A5.out).mono ?_); (case side1 => repeat (first | exact HR0.out | (with_reducible refine Kd.C_alloc ?_ _) | (with_reducible refine Kd.C_drewN ?_ _) | (with_reducible refine Kd.C_drew ?_))); (case side2 => exact HC0.out); rintro e w10 ⟨v405, rfl, ho0, hb⟩; refine ⟨_, rfl, ?_⟩; have n0_ := Aside0.mk (Kd.R_lower ho0 (below_size (by repeat (first | (with_reducible first | exact HB.out | apply below_alloc | apply pw_below_drewN | apply below_drew1) | exact HB.out)))); have n1_ := Aside0.mk (below_step (by repeat (first | (with_reducible first | exact HB.out | apply below_alloc | apply pw_below_drewN | apply below_drew1) | exact HB.out)) hb); clear HB; have HO406 := n0_; have HB := n1_; clear n0_ n1_; (try clear hb); (try clear hb2); (try clear hk); (try clear hi); (try clear ho0); obtain ⟨Ao11, co11, eo11⟩ := Kd.R_slice HO406.out; subst eo11) | ((with_reducible refine gate_callee (f := 22) rfl ?_); refine goesL_ (some 20) rfl rfl Tryd.func22 (by kernel_rfl) rfl #[.slice Ao11 t404.length co11, .int .i64 a1] rfl (by (try simp only [List.map_toArray, List.map_cons, List.map_nil]); first | done | rfl | (simp only [List.length_drop, List.length_take]; rfl)) ?_; (with_reducible refine (spec_MisclosureOf.calls k _ _ t404 a1 t407 t408 t409 t410 _ ?side1 ?side2 A6.out).mono ?_); (case side1 => repeat (first | exact (Kd.R_reads' HO406.out).2.2 | (with_reducible refine Kd.C_alloc ?_ _) | (with_reducible refine Kd.C_drewN ?_ _) | (with_reducible refine Kd.C_drew ?_))); (case side2 => exact (Kd.R_reads' HO406.out).2.1); rintro e w12 ⟨rfl, hb⟩; refine ⟨_, rfl, ?_⟩; have n0_ := Aside0.mk (Kd.R_below (by (with_reducible repeat (first | apply Kd.R_alloc | apply Kd.R_drewN | apply Kd.R_drew)); exact HO406.out) hb); have n1_ := Aside0.mk (below_step (by repeat (first | (with_reducible first | exact HB.out | apply below_alloc | apply pw_below_drewN | apply below_drew1) | exact HB.out)) hb); clear HO406; clear HB; have HO406 := n0_; have HB := n1_; clear n0_ n1_; (try clear hb); (try clear hb2); (try clear hk); (try clear hi)) | ((with_reducible refine gate_dst (N := 6) rfl ?_); refine box_event ?hg (N := 6) ?hd (cs := #[.int .i64 0, .int .i64 0, .int .i64 0]) (t := 34) ?hr ?_; (case hd => rfl); (case hg => rfl); (case hr => first | (go_simp; done) | (go_simp; rfl)); intro gb411 hg w13 hbox hb; have n0_ := Aside0.mk (Kd.R_below (by (with_reducible repeat (first | apply Kd.R_alloc | apply Kd.R_drewN | apply Kd.R_drew)); exact HO406.out) hb); have n1_ := Aside0.mk (below_step (by repeat (first | (with_reducible first | exact HB.out | apply below_alloc | apply pw_below_drewN | apply below_drew1) | exact HB.out)) hb); have n2_ := Aside0.mk (hbox); have n3_ := Aside0.mk ((by rw [hg]; exact (below_size (by repeat (first | (with_reducible first | exact HB.out | apply below_alloc | apply pw_below_drewN | apply below_drew1) | exact HB.out))) : w.heap.size ≤ gb411)); have n4_ := Aside0.mk ((by rw [hg]; exact (below_size (by repeat (first | (with_reducible first | exact HB.out | apply below_alloc | apply pw_below_drewN | apply below_drew1) | exact HB.out))) : w.heap.size ≤ gb411)); clear HO406; clear HB; have HO406 := n0_; have HB := n1_; have BK411 := n2_; have GW411 := n3_; have GE411 := n4_; clear n0_ n1_ n2_ n3_ n4_; clear hb hbox hg; have hcz14_0 : w13.cell? ⟨gb411, 0, none⟩ = some (.int .i64 0) := (blk_cell BK411.out 0).trans rfl; have hcz14_1 : w13.cell? ⟨gb411, 1, none⟩ = some (.int .i64 0) := (blk_cell BK411.out 1).trans rfl; have hcz14_2 : w13.cell? ⟨gb411, 2, none⟩ = some (.int .i64 0) := (blk_cell BK411.out 2).trans rfl; have hfz14_0 := blk_frozen BK411.out 0; have hfz14_1 := blk_frozen BK411.out 1; have hfz14_2 := blk_frozen BK411.out 2) | ((with_reducible refine gate_callee (f := 17) rfl ?_); refine goesL_ (some 24) rfl rfl Tryd.func17 (by kernel_rfl) rfl #[.slice A0 l0.length c0] rfl (by (try simp only [List.map_toArray, List.map_cons, List.map_nil]); first | done | rfl | (simp only [List.length_drop, List.length_take]; rfl)) ?_; (with_reducible refine (laws_toLegS.calls k _ _ l0 t412 _ ?side1 ?side2 A7.out).mono ?_); (case side1 => exact Kd.C_below HR0.out (by repeat (first | (with_reducible first | exact HB.out | apply below_alloc | apply pw_below_drewN | apply below_drew1 | refine below_set ?_ GE411.out) | exact HB.out))); (case side2 => exact HC0.out); rintro e w15 ⟨v413, rfl, ho0, hb⟩; refine ⟨_, rfl, ?_⟩; have n0_ := Aside0.mk (Kd.R_elder' (by (with_reducible repeat (first | apply Kd.R_alloc | apply Kd.R_drewN | apply Kd.R_drew)); exact (Kd.R_mono (Kd.R_far (p := ⟨gb411, 2, none⟩) (Kd.R_far (p := ⟨gb411, 1, none⟩) (Kd.R_far (p := ⟨gb411, 0, none⟩) (Kd.R_types HO406.out BK411.out (by decide)) (fun _ hk => hk.2) (.int .i64 t407)) (fun _ hk => hk.2) (.int .i64 t408)) (fun _ hk => hk.2) (.int .i64 t409)) (fun _ h_ => h_.1))) (Kd.R_base ho0) hb); have n1_ := Aside0.mk (Kd.R_lower (Kd.R_new' ho0 (Kd.R_lt (by (with_reducible repeat (first | apply Kd.R_alloc | apply Kd.R_drewN | apply Kd.R_drew)); exact (Kd.R_mono (Kd.R_far (p := ⟨gb411, 2, none⟩) (Kd.R_far (p := ⟨gb411, 1, none⟩) (Kd.R_far (p := ⟨gb411, 0, none⟩) (Kd.R_types HO406.out BK411.out (by decide)) (fun _ hk => hk.2) (.int .i64 t407)) (fun _ hk => hk.2) (.int .i64 t408)) (fun _ hk => hk.2) (.int .i64 t409)) (fun _ h_ => h_.1))))) (below_size (by repeat (first | (with_reducible first | exact HB.out | apply below_alloc | apply pw_below_drewN | apply below_drew1 | refine below_set ?_ GE411.out) | exact HB.out)))); have n2_ := Aside0.mk (blk_below (g := gb411) (o := .cells #[.int .i64 t407, .int .i64 t408, .int .i64 t409] 34 (0, 0)) (by (with_reducible repeat (first | refine blk_drewN ?_ _ | refine blk_drew ?_ | refine blk_alloc ?_ _)); refine blk_put (cs := #[.int .i64 t407, .int .i64 t408, .int .i64 0]) ?_ 2 _ rfl; (with_reducible repeat (first | refine blk_drewN ?_ _ | refine blk_drew ?_ | refine blk_alloc ?_ _)); refine blk_put (cs := #[.int .i64 t407, .int .i64 0, .int .i64 0]) ?_ 1 _ rfl; (with_reducible repeat (first | refine blk_drewN ?_ _ | refine blk_drew ?_ | refine blk_alloc ?_ _)); refine blk_put (cs := #[.int .i64 0, .int .i64 0, .int .i64 0]) ?_ 0 _ rfl; (with_reducible repeat (first | refine blk_drewN ?_ _ | refine blk_drew ?_ | refine blk_alloc ?_ _)); exact BK411.out) hb); have n3_ := Aside0.mk (below_step (by repeat (first | (with_reducible first | exact HB.out | apply below_alloc | apply pw_below_drewN | apply below_drew1 | refine below_set ?_ GE411.out) | exact HB.out)) hb); clear HO406; clear BK411; clear HB; have HO406 := n0_; have HO414 := n1_; have BK411 := n2_; have HB := n3_; clear n0_ n1_ n2_ n3_; (try clear hb); (try clear hb2); (try clear hk); (try clear hi); (try clear ho0); obtain ⟨Ao16, co16, eo16⟩ := Kd.R_slice HO414.out; subst eo16) | ((with_reducible refine gate_callee (f := 23) rfl ?_); refine goesL_ (some 28) rfl rfl Tryd.func23 (by kernel_rfl) rfl #[.slice Ao16 t412.length co16, .int .i64 a1] rfl (by (try simp only [List.map_toArray, List.map_cons, List.map_nil]); first | done | rfl | (simp only [List.length_drop, List.length_take]; rfl)) ?_; (with_reducible refine (impl_MisclosureOf.calls _ _ t412 a1 t415 t416 t417 t418 _ ?side1 ?side2 A8.out ?sideL).mono ?_); (case sideL => exact HL.out.keep (by repeat (first | (with_reducible first | exact HB.out | apply below_alloc | apply pw_below_drewN | apply below_drew1) | exact HB.out))); (case side1 => repeat (first | exact (Kd.R_reads' HO414.out).2.2 | (with_reducible refine Kd.C_alloc ?_ _) | (with_reducible refine Kd.C_drewN ?_ _) | (with_reducible refine Kd.C_drew ?_))); (case side2 => exact (Kd.R_reads' HO414.out).2.1); rintro e w17 ⟨rfl, hb⟩; refine ⟨_, rfl, ?_⟩; have n0_ := Aside0.mk (Kd.R_below (by (with_reducible repeat (first | apply Kd.R_alloc | apply Kd.R_drewN | apply Kd.R_drew)); exact HO406.out) hb); have n1_ := Aside0.mk (Kd.R_below (by (with_reducible repeat (first | apply Kd.R_alloc | apply Kd.R_drewN | apply Kd.R_drew)); exact HO414.out) hb); have n2_ := Aside0.mk (blk_below (g := gb411) (o := .cells #[.int .i64 t407, .int .i64 t408, .int .i64 t409] 34 (0, 0)) (by (with_reducible repeat (first | refine blk_drewN ?_ _ | refine blk_drew ?_ | refine blk_alloc ?_ _)); exact BK411.out) hb); have n3_ := Aside0.mk (below_step (by repeat (first | (with_reducible first | exact HB.out | apply below_alloc | apply pw_below_drewN | apply below_drew1 | refine below_set ?_ GE411.out) | exact HB.out)) hb); clear HO406; clear HO414; clear BK411; clear HB; have HO406 := n0_; have HO414 := n1_; have BK411 := n2_; have HB := n3_; clear n0_ n1_ n2_ n3_; (try clear hb); (try clear hb2); (try clear hk); (try clear hi)) | ((with_reducible refine gate_dst (N := 9) rfl ?_); refine box_event ?hg (N := 9) ?hd (cs := #[.int .i64 0, .int .i64 0, .int .i64 0]) (t := 34) ?hr ?_; (case hd => rfl); (case hg => rfl); (case hr => first | (go_simp; done) | (go_simp; rfl)); intro gb419 hg w18 hbox hb; have n0_ := Aside0.mk (Kd.R_below (by (with_reducible repeat (first | apply Kd.R_alloc | apply Kd.R_drewN | apply Kd.R_drew)); exact HO406.out) hb); have n1_ := Aside0.mk (Kd.R_below (by (with_reducible repeat (first | apply Kd.R_alloc | apply Kd.R_drewN | apply Kd.R_drew)); exact HO414.out) hb); have n2_ := Aside0.mk (blk_below (g := gb411) (o := .cells #[.int .i64 t407, .int .i64 t408, .int .i64 t409] 34 (0, 0)) (by (with_reducible repeat (first | refine blk_drewN ?_ _ | refine blk_drew ?_ | refine blk_alloc ?_ _)); exact BK411.out) hb); have n3_ := Aside0.mk (below_step (by repeat (first | (with_reducible first | exact HB.out | apply below_alloc | apply pw_below_drewN | apply below_drew1 | refine below_set ?_ GE411.out) | exact HB.out)) hb); have n4_ := Aside0.mk (hbox); have n5_ := Aside0.mk ((by rw [hg]; exact (below_size (by repeat (first | (with_reducible first | exact HB.out | apply below_alloc | apply pw_below_drewN | apply below_drew1 | refine below_set ?_ GE411.out) | exact HB.out))) : w.heap.size ≤ gb419)); have n6_ := Aside0.mk ((by rw [hg]; exact (below_size (by repeat (first | (with_reducible first | exact HB.out | apply below_alloc | apply pw_below_drewN | apply below_drew1 | refine below_set ?_ GE411.out) | exact HB.out))) : w.heap.size ≤ gb419)); have n7_ := Aside0.mk ((by rw [hg]; exact Nat.ne_of_lt (blk_lt (g := gb411) (o := .cells #[.int .i64 t407, .int .i64 t408, .int .i64 t409] 34 (0, 0)) (by (with_reducible repeat (first | refine blk_drewN ?_ _ | refine blk_drew ?_ | refine blk_alloc ?_ _)); exact BK411.out)) : gb411 ≠ gb419)); have n8_ := Aside0.mk ((by rw [hg]; exact Nat.ne_of_gt (blk_lt (g := gb411) (o := .cells #[.int .i64 t407, .int .i64 t408, .int .i64 t409] 34 (0, 0)) (by (with_reducible repeat (first | refine blk_drewN ?_ _ | refine blk_drew ?_ | refine blk_alloc ?_ _)); exact BK411.out)) : gb419 ≠ gb411)); clear HO406; clear HO414; clear BK411; clear HB; have HO406 := n0_; have HO414 := n1_; have BK411 := n2_; have HB := n3_; have BK419 := n4_; have GW419 := n5_; have GE419 := n6_; have NB411_419 := n7_; have NB419_411 := n8_; clear n0_ n1_ n2_ n3_ n4_ n5_ n6_ n7_ n8_; clear hb hbox hg; have hnb19 := NB419_411.out; have hnc19 := NB411_419.out; have hcz20_0 : w18.cell? ⟨gb419, 0, none⟩ = some (.int .i64 0) := (blk_cell BK419.out 0).trans rfl; have hcz20_1 : w18.cell? ⟨gb419, 1, none⟩ = some (.int .i64 0) := (blk_cell BK419.out 1).trans rfl; have hcz20_2 : w18.cell? ⟨gb419, 2, none⟩ = some (.int .i64 0) := (blk_cell BK419.out 2).trans rfl; have hfz20_0 := blk_frozen BK419.out 0; have hfz20_1 := blk_frozen BK419.out 1; have hfz20_2 := blk_frozen BK419.out 2))
    (try simp only [Act.put, List.setIfInBounds_toArray, List.set_cons_zero, List.set_cons_succ])
    go_cut [39] (fun v39 wc => ∃ (kq : Nat) (x39_8 : Bool), v39 = .bool x39_8 ∧ Aside0 (laws_FnExactMisclosureOf.j0 kq l0 t412 x39_8 = some r) ∧ Aside0 (kq ≤ k) ∧ Aside0 (Kd.R k56 56 wc w.heap.size (fun _ => True) (.slice Ao16 t412.length co16) t412) ∧ Aside0 (wc.heap[gb411]? = some (.cells #[.int .i64 t407, .int .i64 t408, .int .i64 t409] 34 (0, 0))) ∧ Aside0 (wc.heap[gb419]? = some (.cells #[.int .i64 t415, .int .i64 t416, .int .i64 t417] 34 (0, 0))) ∧ Aside0 (Below w.heap.size w wc))
    case first =>
      have H := HC9.out
      clear HC9
      replace H := Option.bind_eq_some_iff.mp H
      obtain ⟨t420, A210, H⟩ := H
      replace H : (if t420 = true then (laws_FnExactMisclosureOf.j0 k l0 t412 (t418 != t410)) else (laws_FnExactMisclosureOf.j0 k l0 t412 true)) = some r := H
      have A21 := Aside0.mk A210
      clear A210
      by_cases c22 : t420 = true
      · subst c22
        have H1 : (laws_FnExactMisclosureOf.j0 k l0 t412 (t418 != t410)) = some r := by rw [if_pos rfl] at H; exact H
        clear H
        have H := H1
        clear H1
        have H' := Aside0.mk H
        clear H
        have hnb23 := NB419_411.out
        have hnc23 := NB411_419.out
        have hcz24_0 : w18.cell? ⟨gb419, 0, none⟩ = some (.int .i64 0) := (blk_cell BK419.out 0).trans rfl
        have hcz24_1 : w18.cell? ⟨gb419, 1, none⟩ = some (.int .i64 0) := (blk_cell BK419.out 1).trans rfl
        have hcz24_2 : w18.cell? ⟨gb419, 2, none⟩ = some (.int .i64 0) := (blk_cell BK419.out 2).trans rfl
        have hfz24_0 := blk_frozen BK419.out 0
        have hfz24_1 := blk_frozen BK419.out 1
        have hfz24_2 := blk_frozen BK419.out 2
        have hcz25_0 : w18.cell? ⟨gb411, 0, none⟩ = some (.int .i64 t407) := (blk_cell BK411.out 0).trans rfl
        have hcz25_1 : w18.cell? ⟨gb411, 1, none⟩ = some (.int .i64 t408) := (blk_cell BK411.out 1).trans rfl
        have hcz25_2 : w18.cell? ⟨gb411, 2, none⟩ = some (.int .i64 t409) := (blk_cell BK411.out 2).trans rfl
        have hfz25_0 := blk_frozen BK411.out 0
        have hfz25_1 := blk_frozen BK411.out 1
        have hfz25_2 := blk_frozen BK411.out 2
        go_wp2_with (first | ((with_reducible refine gate_callee (f := 24) rfl ?_); refine goesL_ (some 33) rfl rfl Tryd.func24 (by kernel_rfl) rfl #[.agg #[.int .i64 t415, .int .i64 t416, .int .i64 t417], .agg #[.int .i64 t407, .int .i64 t408, .int .i64 t409]] rfl (by (try simp only [List.map_toArray, List.map_cons, List.map_nil]); first | done | rfl | (simp only [List.length_drop, List.length_take]; rfl)) ?_; (with_reducible refine (laws_eqShift.calls t415 t416 t417 t407 t408 t409 true _ A21.out).mono ?_); rintro e w26 ⟨rfl, hb⟩; refine ⟨_, rfl, ?_⟩; have n0_ := Aside0.mk (Kd.R_below (by (with_reducible repeat (first | apply Kd.R_alloc | apply Kd.R_drewN | apply Kd.R_drew)); exact (Kd.R_mono (Kd.R_far (p := ⟨gb419, 2, none⟩) (Kd.R_far (p := ⟨gb419, 1, none⟩) (Kd.R_far (p := ⟨gb419, 0, none⟩) (Kd.R_types HO406.out BK419.out (by decide)) (fun _ hk => hk.2) (.int .i64 t415)) (fun _ hk => hk.2) (.int .i64 t416)) (fun _ hk => hk.2) (.int .i64 t417)) (fun _ h_ => h_.1))) hb); have n1_ := Aside0.mk (Kd.R_below (by (with_reducible repeat (first | apply Kd.R_alloc | apply Kd.R_drewN | apply Kd.R_drew)); exact (Kd.R_mono (Kd.R_far (p := ⟨gb419, 2, none⟩) (Kd.R_far (p := ⟨gb419, 1, none⟩) (Kd.R_far (p := ⟨gb419, 0, none⟩) (Kd.R_types HO414.out BK419.out (by decide)) (fun _ hk => hk.2) (.int .i64 t415)) (fun _ hk => hk.2) (.int .i64 t416)) (fun _ hk => hk.2) (.int .i64 t417)) (fun _ h_ => h_.1))) hb); have n2_ := Aside0.mk (blk_below (g := gb411) (o := .cells #[.int .i64 t407, .int .i64 t408, .int .i64 t409] 34 (0, 0)) (by (with_reducible repeat (first | refine blk_drewN ?_ _ | refine blk_drew ?_ | refine blk_alloc ?_ _)); refine blk_far ?_ NB411_419.out _; (with_reducible repeat (first | refine blk_drewN ?_ _ | refine blk_drew ?_ | refine blk_alloc ?_ _)); refine blk_far ?_ NB411_419.out _; (with_reducible repeat (first | refine blk_drewN ?_ _ | refine blk_drew ?_ | refine blk_alloc ?_ _)); refine blk_far ?_ NB411_419.out _; (with_reducible repeat (first | refine blk_drewN ?_ _ | refine blk_drew ?_ | refine blk_alloc ?_ _)); exact BK411.out) hb); have n3_ := Aside0.mk (blk_below (g := gb419) (o := .cells #[.int .i64 t415, .int .i64 t416, .int .i64 t417] 34 (0, 0)) (by (with_reducible repeat (first | refine blk_drewN ?_ _ | refine blk_drew ?_ | refine blk_alloc ?_ _)); refine blk_put (cs := #[.int .i64 t415, .int .i64 t416, .int .i64 0]) ?_ 2 _ rfl; (with_reducible repeat (first | refine blk_drewN ?_ _ | refine blk_drew ?_ | refine blk_alloc ?_ _)); refine blk_put (cs := #[.int .i64 t415, .int .i64 0, .int .i64 0]) ?_ 1 _ rfl; (with_reducible repeat (first | refine blk_drewN ?_ _ | refine blk_drew ?_ | refine blk_alloc ?_ _)); refine blk_put (cs := #[.int .i64 0, .int .i64 0, .int .i64 0]) ?_ 0 _ rfl; (with_reducible repeat (first | refine blk_drewN ?_ _ | refine blk_drew ?_ | refine blk_alloc ?_ _)); exact BK419.out) hb); have n4_ := Aside0.mk (below_step (by repeat (first | (with_reducible first | exact HB.out | apply below_alloc | apply pw_below_drewN | apply below_drew1 | refine below_set ?_ GE411.out | refine below_set ?_ GE419.out) | exact HB.out)) hb); clear HO406; clear HO414; clear BK411; clear BK419; clear HB; have HO406 := n0_; have HO414 := n1_; have BK411 := n2_; have BK419 := n3_; have HB := n4_; clear n0_ n1_ n2_ n3_ n4_; (try clear hb); (try clear hb2); (try clear hk); (try clear hi)))
        go_meet
        case rel => exact ⟨_, ((t418 != t410)), (by first | rfl | (simp; done) | (simp [*]; done)), H', ⟨by first | omega | exact Nat.le_refl _⟩, ⟨by (with_reducible repeat (first | apply Kd.R_alloc | apply Kd.R_drewN | apply Kd.R_drew)); exact Kd.R_mono HO414.out (fun _ hk => trivial)⟩, ⟨by (with_reducible repeat (first | refine blk_drewN ?_ _ | refine blk_drew ?_ | refine blk_alloc ?_ _)); exact BK411.out⟩, ⟨by (with_reducible repeat (first | refine blk_drewN ?_ _ | refine blk_drew ?_ | refine blk_alloc ?_ _)); exact BK419.out⟩, ⟨by repeat (first | (with_reducible first | exact HB.out | apply below_alloc | apply pw_below_drewN | apply below_drew1 | refine below_set ?_ GE411.out | refine below_set ?_ GE419.out) | exact HB.out)⟩⟩
      · replace c22 := Bool.eq_false_iff.mpr c22
        subst c22
        have H1 : (laws_FnExactMisclosureOf.j0 k l0 t412 true) = some r := by rw [if_neg (show ¬ (false = true) by decide)] at H; exact H
        clear H
        have H := H1
        clear H1
        have H' := Aside0.mk H
        clear H
        have hnb27 := NB419_411.out
        have hnc27 := NB411_419.out
        have hcz28_0 : w18.cell? ⟨gb419, 0, none⟩ = some (.int .i64 0) := (blk_cell BK419.out 0).trans rfl
        have hcz28_1 : w18.cell? ⟨gb419, 1, none⟩ = some (.int .i64 0) := (blk_cell BK419.out 1).trans rfl
        have hcz28_2 : w18.cell? ⟨gb419, 2, none⟩ = some (.int .i64 0) := (blk_cell BK419.out 2).trans rfl
        have hfz28_0 := blk_frozen BK419.out 0
        have hfz28_1 := blk_frozen BK419.out 1
        have hfz28_2 := blk_frozen BK419.out 2
        have hcz29_0 : w18.cell? ⟨gb411, 0, none⟩ = some (.int .i64 t407) := (blk_cell BK411.out 0).trans rfl
        have hcz29_1 : w18.cell? ⟨gb411, 1, none⟩ = some (.int .i64 t408) := (blk_cell BK411.out 1).trans rfl
        have hcz29_2 : w18.cell? ⟨gb411, 2, none⟩ = some (.int .i64 t409) := (blk_cell BK411.out 2).trans rfl
        have hfz29_0 := blk_frozen BK411.out 0
        have hfz29_1 := blk_frozen BK411.out 1
        have hfz29_2 := blk_frozen BK411.out 2
        go_wp2_with (first | ((with_reducible refine gate_callee (f := 24) rfl ?_); refine goesL_ (some 33) rfl rfl Tryd.func24 (by kernel_rfl) rfl #[.agg #[.int .i64 t415, .int .i64 t416, .int .i64 t417], .agg #[.int .i64 t407, .int .i64 t408, .int .i64 t409]] rfl (by (try simp only [List.map_toArray, List.map_cons, List.map_nil]); first | done | rfl | (simp only [List.length_drop, List.length_take]; rfl)) ?_; (with_reducible refine (laws_eqShift.calls t415 t416 t417 t407 t408 t409 false _ A21.out).mono ?_); rintro e w30 ⟨rfl, hb⟩; refine ⟨_, rfl, ?_⟩; have n0_ := Aside0.mk (Kd.R_below (by (with_reducible repeat (first | apply Kd.R_alloc | apply Kd.R_drewN | apply Kd.R_drew)); exact (Kd.R_mono (Kd.R_far (p := ⟨gb419, 2, none⟩) (Kd.R_far (p := ⟨gb419, 1, none⟩) (Kd.R_far (p := ⟨gb419, 0, none⟩) (Kd.R_types HO406.out BK419.out (by decide)) (fun _ hk => hk.2) (.int .i64 t415)) (fun _ hk => hk.2) (.int .i64 t416)) (fun _ hk => hk.2) (.int .i64 t417)) (fun _ h_ => h_.1))) hb); have n1_ := Aside0.mk (Kd.R_below (by (with_reducible repeat (first | apply Kd.R_alloc | apply Kd.R_drewN | apply Kd.R_drew)); exact (Kd.R_mono (Kd.R_far (p := ⟨gb419, 2, none⟩) (Kd.R_far (p := ⟨gb419, 1, none⟩) (Kd.R_far (p := ⟨gb419, 0, none⟩) (Kd.R_types HO414.out BK419.out (by decide)) (fun _ hk => hk.2) (.int .i64 t415)) (fun _ hk => hk.2) (.int .i64 t416)) (fun _ hk => hk.2) (.int .i64 t417)) (fun _ h_ => h_.1))) hb); have n2_ := Aside0.mk (blk_below (g := gb411) (o := .cells #[.int .i64 t407, .int .i64 t408, .int .i64 t409] 34 (0, 0)) (by (with_reducible repeat (first | refine blk_drewN ?_ _ | refine blk_drew ?_ | refine blk_alloc ?_ _)); refine blk_far ?_ NB411_419.out _; (with_reducible repeat (first | refine blk_drewN ?_ _ | refine blk_drew ?_ | refine blk_alloc ?_ _)); refine blk_far ?_ NB411_419.out _; (with_reducible repeat (first | refine blk_drewN ?_ _ | refine blk_drew ?_ | refine blk_alloc ?_ _)); refine blk_far ?_ NB411_419.out _; (with_reducible repeat (first | refine blk_drewN ?_ _ | refine blk_drew ?_ | refine blk_alloc ?_ _)); exact BK411.out) hb); have n3_ := Aside0.mk (blk_below (g := gb419) (o := .cells #[.int .i64 t415, .int .i64 t416, .int .i64 t417] 34 (0, 0)) (by (with_reducible repeat (first | refine blk_drewN ?_ _ | refine blk_drew ?_ | refine blk_alloc ?_ _)); refine blk_put (cs := #[.int .i64 t415, .int .i64 t416, .int .i64 0]) ?_ 2 _ rfl; (with_reducible repeat (first | refine blk_drewN ?_ _ | refine blk_drew ?_ | refine blk_alloc ?_ _)); refine blk_put (cs := #[.int .i64 t415, .int .i64 0, .int .i64 0]) ?_ 1 _ rfl; (with_reducible repeat (first | refine blk_drewN ?_ _ | refine blk_drew ?_ | refine blk_alloc ?_ _)); refine blk_put (cs := #[.int .i64 0, .int .i64 0, .int .i64 0]) ?_ 0 _ rfl; (with_reducible repeat (first | refine blk_drewN ?_ _ | refine blk_drew ?_ | refine blk_alloc ?_ _)); exact BK419.out) hb); have n4_ := Aside0.mk (below_step (by repeat (first | (with_reducible first | exact HB.out | apply below_alloc | apply pw_below_drewN | apply below_drew1 | refine below_set ?_ GE411.out | refine below_set ?_ GE419.out) | exact HB.out)) hb); clear HO406; clear HO414; clear BK411; clear BK419; clear HB; have HO406 := n0_; have HO414 := n1_; have BK411 := n2_; have BK419 := n3_; have HB := n4_; clear n0_ n1_ n2_ n3_ n4_; (try clear hb); (try clear hb2); (try clear hk); (try clear hi)))
        go_meet
        case rel => exact ⟨_, (true), (by first | rfl | (simp; done) | (simp [*]; done)), H', ⟨by first | omega | exact Nat.le_refl _⟩, ⟨by (with_reducible repeat (first | apply Kd.R_alloc | apply Kd.R_drewN | apply Kd.R_drew)); exact Kd.R_mono HO414.out (fun _ hk => trivial)⟩, ⟨by (with_reducible repeat (first | refine blk_drewN ?_ _ | refine blk_drew ?_ | refine blk_alloc ?_ _)); exact BK411.out⟩, ⟨by (with_reducible repeat (first | refine blk_drewN ?_ _ | refine blk_drew ?_ | refine blk_alloc ?_ _)); exact BK419.out⟩, ⟨by repeat (first | (with_reducible first | exact HB.out | apply below_alloc | apply pw_below_drewN | apply below_drew1 | refine below_set ?_ GE411.out | refine below_set ?_ GE419.out) | exact HB.out)⟩⟩
    case rest =>
      clear HC9
      try clear c1
      try clear c2
      try clear p2
      try clear c4
      try clear c4b0
      try clear c5
      try clear c15
      try clear c17
      try clear c19
      try clear c22
      try clear c23
      try clear c24
      try clear c27
      try clear hcz14_0
      try clear hcz14_1
      try clear hcz14_2
      try clear hcz20_0
      try clear hcz20_1
      try clear hcz20_2
      try clear hcz24_0
      try clear hcz24_1
      try clear hcz24_2
      try clear hcz25_0
      try clear hcz25_1
      try clear hcz25_2
      try clear hcz28_0
      try clear hcz28_1
      try clear hcz28_2
      try clear hcz29_0
      try clear hcz29_1
      try clear hcz29_2
      try clear hfz14_0
      try clear hfz14_1
      try clear hfz14_2
      try clear hfz20_0
      try clear hfz20_1
      try clear hfz20_2
      try clear hfz24_0
      try clear hfz24_1
      try clear hfz24_2
      try clear hfz25_0
      try clear hfz25_1
      try clear hfz25_2
      try clear hfz28_0
      try clear hfz28_1
      try clear hfz28_2
      try clear hfz29_0
      try clear hfz29_1
      try clear hfz29_2
      obtain ⟨kq, x39_8, rfl, HA, HJ8, HO_8, BK411, BK419, HB⟩ := hcut
      cases kq with
      | zero => exact absurd HA.out (by simp [laws_FnExactMisclosureOf.j0])
      | succ kj8 =>
        have H := HA.out
        clear HA
        simp only [laws_FnExactMisclosureOf.j0] at H
        by_cases c31 : x39_8 = true
        · subst c31
          have H1 : (some false) = some r := by rw [if_pos rfl] at H; exact H
          clear H
          have H := H1
          clear H1
          obtain rfl := Option.some.inj H
          go_wp2
          go_ret
          exact ⟨by first | rfl | (simp [errW_none, errW_some] <;> rfl) | (simp [*, errW_none, errW_some] <;> rfl), by repeat (first | (with_reducible first | exact HB.out | apply below_alloc | apply pw_below_drewN | apply below_drew1 | refine below_set ?_ GE411.out | refine below_set ?_ GE419.out) | exact HB.out)⟩
        · replace c31 := Bool.eq_false_iff.mpr c31
          subst c31
          have H1 : ((laws_toLegS.f kj8 l0).bind fun t421 => ((laws_eqLegS.f kj8 t412 t421).bind fun t424 => (if t424 = true then (some true) else (some false)))) = some r := by rw [if_neg (show ¬ (false = true) by decide)] at H; exact H
          clear H
          have H := H1
          clear H1
          replace H := Option.bind_eq_some_iff.mp H
          obtain ⟨t421, A320, H⟩ := H
          replace H : ((laws_eqLegS.f kj8 t412 t421).bind fun t424 => (if t424 = true then (some true) else (some false))) = some r := H
          have A32 := Aside0.mk A320
          clear A320
          replace H := Option.bind_eq_some_iff.mp H
          obtain ⟨t424, A330, H⟩ := H
          replace H : (if t424 = true then (some true) else (some false)) = some r := H
          have A33 := Aside0.mk A330
          clear A330
          by_cases c34 : t424 = true
          · subst c34
            have H1 : (some true) = some r := by rw [if_pos rfl] at H; exact H
            clear H
            have H := H1
            clear H1
            obtain rfl := Option.some.inj H
            go_wp2_with (first | ((with_reducible refine gate_callee (f := 17) rfl ?_); refine goesL_ (some 42) rfl rfl Tryd.func17 (by kernel_rfl) rfl #[.slice A0 l0.length c0] rfl (by (try simp only [List.map_toArray, List.map_cons, List.map_nil]); first | done | rfl | (simp only [List.length_drop, List.length_take]; rfl)) ?_; (with_reducible refine (laws_toLegS.calls kj8 _ _ l0 t421 _ ?side1 ?side2 A32.out).mono ?_); (case side1 => repeat (first | exact (Kd.C_below HR0.out HB.out) | (with_reducible refine Kd.C_alloc ?_ _) | (with_reducible refine Kd.C_drewN ?_ _) | (with_reducible refine Kd.C_drew ?_))); (case side2 => exact HC0.out); rintro e w35 ⟨v422, rfl, ho0, hb⟩; refine ⟨_, rfl, ?_⟩; have n0_ := Aside0.mk (Kd.R_elder' (by (with_reducible repeat (first | apply Kd.R_alloc | apply Kd.R_drewN | apply Kd.R_drew)); exact HO_8.out) (Kd.R_base ho0) hb); have n1_ := Aside0.mk (Kd.R_lower (Kd.R_new' ho0 (Kd.R_lt (by (with_reducible repeat (first | apply Kd.R_alloc | apply Kd.R_drewN | apply Kd.R_drew)); exact HO_8.out))) (below_size (by repeat (first | (with_reducible first | exact HB.out | apply below_alloc | apply pw_below_drewN | apply below_drew1 | refine below_set ?_ GE411.out | refine below_set ?_ GE419.out) | exact HB.out)))); have n2_ := Aside0.mk (blk_below (g := gb411) (o := .cells #[.int .i64 t407, .int .i64 t408, .int .i64 t409] 34 (0, 0)) (by (with_reducible repeat (first | refine blk_drewN ?_ _ | refine blk_drew ?_ | refine blk_alloc ?_ _)); exact BK411.out) hb); have n3_ := Aside0.mk (blk_below (g := gb419) (o := .cells #[.int .i64 t415, .int .i64 t416, .int .i64 t417] 34 (0, 0)) (by (with_reducible repeat (first | refine blk_drewN ?_ _ | refine blk_drew ?_ | refine blk_alloc ?_ _)); exact BK419.out) hb); have n4_ := Aside0.mk (below_step (by repeat (first | (with_reducible first | exact HB.out | apply below_alloc | apply pw_below_drewN | apply below_drew1 | refine below_set ?_ GE411.out | refine below_set ?_ GE419.out) | exact HB.out)) hb); clear HO_8; clear BK411; clear BK419; clear HB; have HO_8 := n0_; have HO423 := n1_; have BK411 := n2_; have BK419 := n3_; have HB := n4_; clear n0_ n1_ n2_ n3_ n4_; (try clear hb); (try clear hb2); (try clear hk); (try clear hi); (try clear ho0); obtain ⟨Ao36, co36, eo36⟩ := Kd.R_slice HO423.out; subst eo36) | ((with_reducible refine gate_callee (f := 19) rfl ?_); refine goesL_ (some 43) rfl rfl Tryd.func19 (by kernel_rfl) rfl #[.slice Ao16 t412.length co16, .slice Ao36 t421.length co36] rfl (by (try simp only [List.map_toArray, List.map_cons, List.map_nil]); first | done | rfl | (simp only [List.length_drop, List.length_take]; rfl)) ?_; (with_reducible refine (laws_eqLegS.calls kj8 _ _ t412 _ _ t421 true _ ?side1 ?side2 ?side3 ?side4 A33.out).mono ?_); (case side1 => repeat (first | exact (Kd.R_reads' HO_8.out).2.2 | (with_reducible refine Kd.C_alloc ?_ _) | (with_reducible refine Kd.C_drewN ?_ _) | (with_reducible refine Kd.C_drew ?_))); (case side2 => exact (Kd.R_reads' HO_8.out).2.1); (case side3 => repeat (first | exact (Kd.R_reads' HO423.out).2.2 | (with_reducible refine Kd.C_alloc ?_ _) | (with_reducible refine Kd.C_drewN ?_ _) | (with_reducible refine Kd.C_drew ?_))); (case side4 => exact (Kd.R_reads' HO423.out).2.1); rintro e w37 ⟨rfl, hb⟩; refine ⟨_, rfl, ?_⟩; have n0_ := Aside0.mk (Kd.R_below (by (with_reducible repeat (first | apply Kd.R_alloc | apply Kd.R_drewN | apply Kd.R_drew)); exact HO_8.out) hb); have n1_ := Aside0.mk (Kd.R_below (by (with_reducible repeat (first | apply Kd.R_alloc | apply Kd.R_drewN | apply Kd.R_drew)); exact HO423.out) hb); have n2_ := Aside0.mk (blk_below (g := gb411) (o := .cells #[.int .i64 t407, .int .i64 t408, .int .i64 t409] 34 (0, 0)) (by (with_reducible repeat (first | refine blk_drewN ?_ _ | refine blk_drew ?_ | refine blk_alloc ?_ _)); exact BK411.out) hb); have n3_ := Aside0.mk (blk_below (g := gb419) (o := .cells #[.int .i64 t415, .int .i64 t416, .int .i64 t417] 34 (0, 0)) (by (with_reducible repeat (first | refine blk_drewN ?_ _ | refine blk_drew ?_ | refine blk_alloc ?_ _)); exact BK419.out) hb); have n4_ := Aside0.mk (below_step (by repeat (first | (with_reducible first | exact HB.out | apply below_alloc | apply pw_below_drewN | apply below_drew1 | refine below_set ?_ GE411.out | refine below_set ?_ GE419.out) | exact HB.out)) hb); clear HO_8; clear HO423; clear BK411; clear BK419; clear HB; have HO_8 := n0_; have HO423 := n1_; have BK411 := n2_; have BK419 := n3_; have HB := n4_; clear n0_ n1_ n2_ n3_ n4_; (try clear hb); (try clear hb2); (try clear hk); (try clear hi)))
            go_ret
            exact ⟨by first | rfl | (simp [errW_none, errW_some] <;> rfl) | (simp [*, errW_none, errW_some] <;> rfl), by repeat (first | (with_reducible first | exact HB.out | apply below_alloc | apply pw_below_drewN | apply below_drew1 | refine below_set ?_ GE411.out | refine below_set ?_ GE419.out) | exact HB.out)⟩
          · replace c34 := Bool.eq_false_iff.mpr c34
            subst c34
            have H1 : (some false) = some r := by rw [if_neg (show ¬ (false = true) by decide)] at H; exact H
            clear H
            have H := H1
            clear H1
            obtain rfl := Option.some.inj H
            go_wp2_with (first | ((with_reducible refine gate_callee (f := 17) rfl ?_); refine goesL_ (some 42) rfl rfl Tryd.func17 (by kernel_rfl) rfl #[.slice A0 l0.length c0] rfl (by (try simp only [List.map_toArray, List.map_cons, List.map_nil]); first | done | rfl | (simp only [List.length_drop, List.length_take]; rfl)) ?_; (with_reducible refine (laws_toLegS.calls kj8 _ _ l0 t421 _ ?side1 ?side2 A32.out).mono ?_); (case side1 => repeat (first | exact (Kd.C_below HR0.out HB.out) | (with_reducible refine Kd.C_alloc ?_ _) | (with_reducible refine Kd.C_drewN ?_ _) | (with_reducible refine Kd.C_drew ?_))); (case side2 => exact HC0.out); rintro e w38 ⟨v422, rfl, ho0, hb⟩; refine ⟨_, rfl, ?_⟩; have n0_ := Aside0.mk (Kd.R_elder' (by (with_reducible repeat (first | apply Kd.R_alloc | apply Kd.R_drewN | apply Kd.R_drew)); exact HO_8.out) (Kd.R_base ho0) hb); have n1_ := Aside0.mk (Kd.R_lower (Kd.R_new' ho0 (Kd.R_lt (by (with_reducible repeat (first | apply Kd.R_alloc | apply Kd.R_drewN | apply Kd.R_drew)); exact HO_8.out))) (below_size (by repeat (first | (with_reducible first | exact HB.out | apply below_alloc | apply pw_below_drewN | apply below_drew1 | refine below_set ?_ GE411.out | refine below_set ?_ GE419.out) | exact HB.out)))); have n2_ := Aside0.mk (blk_below (g := gb411) (o := .cells #[.int .i64 t407, .int .i64 t408, .int .i64 t409] 34 (0, 0)) (by (with_reducible repeat (first | refine blk_drewN ?_ _ | refine blk_drew ?_ | refine blk_alloc ?_ _)); exact BK411.out) hb); have n3_ := Aside0.mk (blk_below (g := gb419) (o := .cells #[.int .i64 t415, .int .i64 t416, .int .i64 t417] 34 (0, 0)) (by (with_reducible repeat (first | refine blk_drewN ?_ _ | refine blk_drew ?_ | refine blk_alloc ?_ _)); exact BK419.out) hb); have n4_ := Aside0.mk (below_step (by repeat (first | (with_reducible first | exact HB.out | apply below_alloc | apply pw_below_drewN | apply below_drew1 | refine below_set ?_ GE411.out | refine below_set ?_ GE419.out) | exact HB.out)) hb); clear HO_8; clear BK411; clear BK419; clear HB; have HO_8 := n0_; have HO423 := n1_; have BK411 := n2_; have BK419 := n3_; have HB := n4_; clear n0_ n1_ n2_ n3_ n4_; (try clear hb); (try clear hb2); (try clear hk); (try clear hi); (try clear ho0); obtain ⟨Ao39, co39, eo39⟩ := Kd.R_slice HO423.out; subst eo39) | ((with_reducible refine gate_callee (f := 19) rfl ?_); refine goesL_ (some 43) rfl rfl Tryd.func19 (by kernel_rfl) rfl #[.slice Ao16 t412.length co16, .slice Ao39 t421.length co39] rfl (by (try simp only [List.map_toArray, List.map_cons, List.map_nil]); first | done | rfl | (simp only [List.length_drop, List.length_take]; rfl)) ?_; (with_reducible refine (laws_eqLegS.calls kj8 _ _ t412 _ _ t421 false _ ?side1 ?side2 ?side3 ?side4 A33.out).mono ?_); (case side1 => repeat (first | exact (Kd.R_reads' HO_8.out).2.2 | (with_reducible refine Kd.C_alloc ?_ _) | (with_reducible refine Kd.C_drewN ?_ _) | (with_reducible refine Kd.C_drew ?_))); (case side2 => exact (Kd.R_reads' HO_8.out).2.1); (case side3 => repeat (first | exact (Kd.R_reads' HO423.out).2.2 | (with_reducible refine Kd.C_alloc ?_ _) | (with_reducible refine Kd.C_drewN ?_ _) | (with_reducible refine Kd.C_drew ?_))); (case side4 => exact (Kd.R_reads' HO423.out).2.1); rintro e w40 ⟨rfl, hb⟩; refine ⟨_, rfl, ?_⟩; have n0_ := Aside0.mk (Kd.R_below (by (with_reducible repeat (first | apply Kd.R_alloc | apply Kd.R_drewN | apply Kd.R_drew)); exact HO_8.out) hb); have n1_ := Aside0.mk (Kd.R_below (by (with_reducible repeat (first | apply Kd.R_alloc | apply Kd.R_drewN | apply Kd.R_drew)); exact HO423.out) hb); have n2_ := Aside0.mk (blk_below (g := gb411) (o := .cells #[.int .i64 t407, .int .i64 t408, .int .i64 t409] 34 (0, 0)) (by (with_reducible repeat (first | refine blk_drewN ?_ _ | refine blk_drew ?_ | refine blk_alloc ?_ _)); exact BK411.out) hb); have n3_ := Aside0.mk (blk_below (g := gb419) (o := .cells #[.int .i64 t415, .int .i64 t416, .int .i64 t417] 34 (0, 0)) (by (with_reducible repeat (first | refine blk_drewN ?_ _ | refine blk_drew ?_ | refine blk_alloc ?_ _)); exact BK419.out) hb); have n4_ := Aside0.mk (below_step (by repeat (first | (with_reducible first | exact HB.out | apply below_alloc | apply pw_below_drewN | apply below_drew1 | refine below_set ?_ GE411.out | refine below_set ?_ GE419.out) | exact HB.out)) hb); clear HO_8; clear HO423; clear BK411; clear BK419; clear HB; have HO_8 := n0_; have HO423 := n1_; have BK411 := n2_; have BK419 := n3_; have HB := n4_; clear n0_ n1_ n2_ n3_ n4_; (try clear hb); (try clear hb2); (try clear hk); (try clear hi)))
            go_ret
            exact ⟨by first | rfl | (simp [errW_none, errW_some] <;> rfl) | (simp [*, errW_none, errW_some] <;> rfl), by repeat (first | (with_reducible first | exact HB.out | apply below_alloc | apply pw_below_drewN | apply below_drew1 | refine below_set ?_ GE411.out | refine below_set ?_ GE419.out) | exact HB.out)⟩

end Go.Proofs.YtiooiefjcbooeaaDoor.A

/- Slices of legs that a law copies and compares. No conditions. -/
namespace Go.Proofs.YtiooiefjcbooeaaDoor.Legs
open Go.RowKit Go.Proofs.YtiooiefjcbooeaaDoorW.PrintWords Go.Proofs.YtiooiefjcbooeaaDoor.Plain Go.Proofs.YtiooiefjcbooeaaDoor.A
set_option linter.unusedVariables false
set_option linter.unusedSimpArgs false
def cv (x : S58) : S56 := ⟨x.f0, x.f1, x.f2, x.f3, x.f4⟩
theorem toLegs_ev (l : List (S58)) (hb : l.length ≤ 7036874417766) : Ev (fun k => laws_toLegS.f k l) (l.map cv) := by
  unfold laws_toLegS.f
  refine Ev.pos (by omega) ?_
  refine Ev.pos (by omega) ?_
  exact copy_all laws_toLegS.l0 cv z58 _ (fun k x0 x3 x4 => by simp only [laws_toLegS.l0, laws_toLeg.f, Option.bind_some]; rfl) l (by omega)
theorem eqLegs_ev (l : List (S56)) (hb : l.length ≤ 140737488351232) : Ev (fun k => laws_eqLegS.f k l l) true := by
  unfold laws_eqLegS.f
  refine Ev.pos rfl ?_
  exact eq_all laws_eqLegS.l0 (fun k x0 x4 h0 => by
    simp only [laws_eqLegS.l0, laws_eqLeg.f, if_true, Option.bind_some]
    by_cases h : x4 < (x0.length : Int)
    · rw [if_pos h, if_pos h0, if_pos h, if_pos h]
    · rw [if_neg h, if_neg h]) l hb
theorem szLegs_eq (l : List (S58)) (hb : l.length ≤ 140737488351232) : laws_szLegS.f l 1048576 = some (if l.length ≤ 1048576 then 1048576 - (l.length : Int) else -1) := by
  unfold laws_szLegS.f
  rw [w64 (by omega) (by omega)]
  by_cases h : l.length ≤ 1048576
  · rw [if_neg (by omega), if_pos h]
  · rw [if_pos (by omega), if_neg h]
end Go.Proofs.YtiooiefjcbooeaaDoor.Legs

/- The law FnExactMisclosureOf, as a plain statement: the program's MisclosureOf answers what the reference's answers. Conditions: those of the row's own reading. -/
namespace Go.Proofs.YtiooiefjcbooeaaDoor.Pure
open Go.RowKit Go.Proofs.YtiooiefjcbooeaaDoorW.PrintWords Go.Proofs.YtiooiefjcbooeaaDoor.Plain Go.Proofs.YtiooiefjcbooeaaDoor.A Go.Proofs.YtiooiefjcbooeaaDoor.Legs
set_option linter.unusedVariables false
set_option linter.unusedSimpArgs false
theorem FnExactMisclosureOf (l0 : List (S58)) (a1 : Int) (hb : l0.length * 40 ≤ 140737488351232) (_ : ∀ x ∈ l0, (Lit.int .i64 x.f0).wf = true ∧ (Lit.int .i64 x.f1).wf = true ∧ (Lit.int .i64 x.f2).wf = true ∧ (Lit.int .i64 x.f3).wf = true ∧ (Lit.int .i64 x.f4).wf = true) (_ : (Lit.int .i64 a1).wf = true) : ∃ k, laws_FnExactMisclosureOf.f k l0 a1 = some true := by
  refine Ev.rounds ?_
  have hl : (l0.map cv).length = l0.length := by simp
  have hsz := szLegs_eq l0 (by omega)
  by_cases c : l0.length ≤ 1048576
  · rw [if_pos c] at hsz
    have hi : impl_MisclosureOf.f (l0.map cv) a1 = some ((Net.misM (l0.map cv) a1).1.f0, (Net.misM (l0.map cv) a1).1.f1, (Net.misM (l0.map cv) a1).1.f2, (Net.misM (l0.map cv) a1).2) := by unfold impl_MisclosureOf.f; rw [if_pos (by omega)]
    refine Ev.bindc hsz (Ev.neg (by omega) ?_)
    refine Ev.bind (toLegs_ev l0 (by omega)) ?_
    refine Ev.bind (Net.mis_ev _ a1 (by omega)) ?_
    refine Ev.bind (toLegs_ev l0 (by omega)) ?_
    refine Ev.bindc hi ?_
    have he : laws_eqShift.f (Net.misM (l0.map cv) a1).1.f0 (Net.misM (l0.map cv) a1).1.f1 (Net.misM (l0.map cv) a1).1.f2 (Net.misM (l0.map cv) a1).1.f0 (Net.misM (l0.map cv) a1).1.f1 (Net.misM (l0.map cv) a1).1.f2 = some true := by
      unfold laws_eqShift.f
      rw [if_pos rfl, if_pos rfl, if_pos rfl]
    refine Ev.bindc he (Ev.pos rfl ?_)
    refine Ev.step (f := fun k => (laws_toLegS.f k l0).bind fun t => (laws_eqLegS.f k (l0.map cv) t).bind fun t' => if t' = true then some true else some false) (fun k => ?_) ?_
    · simp only [laws_FnExactMisclosureOf.j0, bne_self_eq_false, Bool.false_eq_true, if_false]
    · exact Ev.bind (toLegs_ev l0 (by omega)) (Ev.bind (eqLegs_ev _ (by omega)) (Ev.pos rfl (Ev.now _)))
  · rw [if_neg c] at hsz
    exact Ev.bindc hsz (Ev.pos (by decide) (Ev.now _))
end Go.Proofs.YtiooiefjcbooeaaDoor.Pure

/- General laws by which a law's arguments are opened: a slice of structs whose fields are integers or bools, as a row of the print's kinds; a struct by value. No conditions. -/
namespace Go.Proofs.YtiooiefjcbooeaaDoor.Opens
open Go.ChangeShapes Go.WideShapes Go.Deep Go.RowKit Go.Proofs.YtiooiefjcbooeaaDoorW.PrintWords

theorem list_of {α : Type} {P : Nat → α → Prop} : ∀ (n : Nat), (∀ i, i < n → ∃ x, P i x) → ∃ xs : List α, xs.length = n ∧ ∀ i x, xs[i]? = some x → P i x
  | 0, _ => ⟨[], rfl, fun i x h => by simp at h⟩
  | n + 1, h => by
    obtain ⟨xs, hl, hx⟩ := list_of n (fun i hi => h i (Nat.lt_succ_of_lt hi))
    obtain ⟨y, hy⟩ := h n (Nat.lt_succ_self n)
    refine ⟨xs ++ [y], by simp [hl], fun i x hi => ?_⟩
    by_cases hlt : i < xs.length
    · rw [List.getElem?_append_left hlt] at hi
      exact hx i x hi
    · rw [List.getElem?_append_right (by omega)] at hi
      have h0 : i - xs.length = 0 := by
        have := (List.getElem?_eq_some_iff.1 hi).1
        simp at this
        omega
      rw [h0] at hi
      simp at hi
      subst hi
      have : i = n := by omega
      subst this
      exact hy

section
variable {H : Type} {enc : TypeId × Value → H} {P : Program} {w : World} {base : Nat} {spare : Nat → Bool} {held : Bool}
/-- A slice of structs, opened: the list of what its elements are, each by the kind's own reading. -/
theorem open_row {α : Type} (d : Kd α) {Q : α → Prop} {t e : TypeId} {a : Option Addr} {len cap : Nat} {dd : DataW H} {ps : List MemPlace} (ht : P.underlying t = some (.slice e)) (hC : P.cellsOf e = d.sz)
    (hd : ∀ n cs y, DataW.trod enc P w base spare held n e cs = some y → ∃ x, d.K w x cs ∧ Q x)
    (h : DataW.Trod enc P w base spare held t (.slice a len cap) dd ps) : ∃ xs : List α, xs.length = len ∧ len ≤ cap ∧ d.C w a len xs ∧ ∀ x ∈ xs, Q x := by
  obtain ⟨fuel, hf⟩ := h
  rcases open_slice ht hf with ⟨hcs, _⟩ | ⟨x, l, c, m, n, D, Pl, hcs, _, hl, hm, hmm, _, hi⟩
  · simp [Value.cells] at hcs
    obtain ⟨rfl, rfl, rfl⟩ := hcs
    exact ⟨[], rfl, Nat.le_refl _, ⟨rfl, by omega, fun h => by omega⟩, fun x hx => by simp at hx⟩
  · simp [Value.cells] at hcs
    obtain ⟨rfl, rfl, rfl⟩ := hcs
    have hle : len ≤ m := by subst hmm; split <;> omega
    obtain ⟨xs, hxl, hx⟩ := list_of (P := fun i (z : α) => Q z ∧ ∃ cs, d.K w z cs ∧ w.cells? base (x.add (i * d.sz)) d.sz = some cs) len (fun i hil => by
      obtain ⟨cs, h1, h2⟩ := hi i (by omega)
      rw [hC] at h1
      obtain ⟨z, h3, h4⟩ := hd _ _ _ h2
      exact ⟨z, h4, cs, h3, h1⟩)
    refine ⟨xs, hxl, hl, ⟨hxl, by unfold maxLen at hm; omega, fun _ => ⟨x, rfl, fun j p hp => ?_⟩⟩, fun z hz => ?_⟩
    · obtain ⟨_, cs, h1, h2⟩ := hx j p hp
      obtain ⟨_, hlen, hat⟩ := World.cells?_some h2
      refine ⟨cs, hlen, h1, fun i u hu => ?_⟩
      have hil : i < d.sz := by have := (List.getElem?_eq_some_iff.1 hu).1; omega
      rw [← Go.Deep.add_add, hat i hil, hu]
    · obtain ⟨j, hj⟩ := List.getElem?_of_mem hz
      exact (hx j z hj).1

theorem sized_row {t e : TypeId} {a : Option Addr} {len cap : Nat} {d : DataW H} {ps : List MemPlace} {ts : List TypeId} {ds : List (DataW H)} {j : Nat}
    (hsz : (DataW.weightsEach P ts ds).all (· ≤ reachBytes) = true) (ht : ts[j]? = some t) (hd : ds[j]? = some d) (hu : P.underlying t = some (.slice e)) {B : Nat} (hB : P.bytesOf e = B)
    (h : DataW.Trod enc P w base spare held t (.slice a len cap) d ps) : len * B ≤ 140737488351232 := by
  obtain ⟨fuel, hf⟩ := h
  rcases open_slice hu hf with ⟨hcs, _⟩ | ⟨x, l, c, m, n, D, Pl, hcs, _, hl, hm, hmm, hx, hi⟩
  · simp [Value.cells] at hcs
    obtain ⟨rfl, rfl, rfl⟩ := hcs
    simp
  · simp [Value.cells] at hcs
    obtain ⟨rfl, rfl, rfl⟩ := hcs
    obtain ⟨hx, _⟩ := Prod.mk.inj hx
    subst hx
    have z := sized_slice hsz ht hd hu
    rw [hB] at z
    simp only [List.length_map, List.length_range] at z
    have hle : len ≤ m := by subst hmm; split <;> omega
    rw [show len + (m - len) = m by omega] at z
    exact Nat.le_trans (Nat.mul_le_mul_right _ hle) z

theorem one_field {f : Field} {cs : List Value} {o c : Nat} (ho : f.offset = o) (hc : P.cellsOf f.type = c) {n : Nat} {y : Option (DataW H × List MemPlace)} (h : DataW.trod enc P w base spare held n f.type ((cs.drop f.offset).take (P.cellsOf f.type)) = y) : DataW.trod enc P w base spare held n f.type ((cs.drop o).take c) = y := by rw [← ho, ← hc]; exact h
end
theorem len2 {α : Type} : ∀ {l : List α}, l.length = 2 → ∃ x0 x1, l = [x0, x1]
  | [x0, x1], _ => ⟨x0, x1, rfl⟩
theorem len3 {α : Type} : ∀ {l : List α}, l.length = 3 → ∃ x0 x1 x2, l = [x0, x1, x2]
  | [x0, x1, x2], _ => ⟨x0, x1, x2, rfl⟩
theorem len4 {α : Type} : ∀ {l : List α}, l.length = 4 → ∃ x0 x1 x2 x3, l = [x0, x1, x2, x3]
  | [x0, x1, x2, x3], _ => ⟨x0, x1, x2, x3, rfl⟩
theorem len5 {α : Type} : ∀ {l : List α}, l.length = 5 → ∃ x0 x1 x2 x3 x4, l = [x0, x1, x2, x3, x4]
  | [x0, x1, x2, x3, x4], _ => ⟨x0, x1, x2, x3, x4, rfl⟩
theorem len6 {α : Type} : ∀ {l : List α}, l.length = 6 → ∃ x0 x1 x2 x3 x4 x5, l = [x0, x1, x2, x3, x4, x5]
  | [x0, x1, x2, x3, x4, x5], _ => ⟨x0, x1, x2, x3, x4, x5, rfl⟩
end Go.Proofs.YtiooiefjcbooeaaDoor.Opens

namespace Go.Proofs.YtiooiefjcbooeaaDoor.fnExactMisclosureOf
open Go.ChangeShapes Go.WideShapes Go.ChangeAt Go.RowKit
open Go.ChangeMaps (open_string shut_string)
open Go.Proofs.YtiooiefjcbooeaaDoor.A Go.Proofs.YtiooiefjcbooeaaDoorW.PrintWords Go.Proofs.YtiooiefjcbooeaaDoor.Opens
set_option linter.unusedVariables false
theorem own : ownKnob Tryd.prog.godebug = none := by kernel_rfl
theorem laidOut : laidOutB Tryd.prog = true := by kernel_rfl
theorem open_58 {H : Type} {enc : TypeId × Value → H} {w : World} {base : Nat} {spare : Nat → Bool} {held : Bool} {n : Nat} {cs : List Value} {y : DataW H × List MemPlace} (h : DataW.trod enc Tryd.prog w base spare held n 58 cs = some y) : ∃ (x0 : Int) (x1 : Int) (x2 : Int) (x3 : Int) (x4 : Int), cs = [.int .i64 x0, .int .i64 x1, .int .i64 x2, .int .i64 x3, .int .i64 x4] ∧ (Lit.int .i64 x0).wf = true ∧ (Lit.int .i64 x1).wf = true ∧ (Lit.int .i64 x2).wf = true ∧ (Lit.int .i64 x3).wf = true ∧ (Lit.int .i64 x4).wf = true := by
  obtain ⟨ys, n', _, _, hlen, hys, hf⟩ := DataW.trod_struct Tryd.underlying58 h
  replace hlen : cs.length = 5 := hlen.trans (by kernel_rfl)
  replace hys : ys.length = 5 := hys.trans (by kernel_rfl)
  clear h
  obtain ⟨c0, c1, c2, c3, c4, rfl⟩ := len5 hlen
  obtain ⟨y0, y1, y2, y3, y4, rfl⟩ := len5 hys
  have h0 : DataW.trod enc Tryd.prog w base spare held n' 3 [c0] = some y0 := one_field (c := 1) (o := 0) rfl (by kernel_rfl) (hf 0 _ rfl)
  obtain ⟨x0, e0, _, w0⟩ := DataW.trod_int Tryd.underlying3 h0
  obtain rfl : c0 = _ := (List.cons.inj e0).1
  have h1 : DataW.trod enc Tryd.prog w base spare held n' 3 [c1] = some y1 := one_field (c := 1) (o := 1) rfl (by kernel_rfl) (hf 1 _ rfl)
  obtain ⟨x1, e1, _, w1⟩ := DataW.trod_int Tryd.underlying3 h1
  obtain rfl : c1 = _ := (List.cons.inj e1).1
  have h2 : DataW.trod enc Tryd.prog w base spare held n' 3 [c2] = some y2 := one_field (c := 1) (o := 2) rfl (by kernel_rfl) (hf 2 _ rfl)
  obtain ⟨x2, e2, _, w2⟩ := DataW.trod_int Tryd.underlying3 h2
  obtain rfl : c2 = _ := (List.cons.inj e2).1
  have h3 : DataW.trod enc Tryd.prog w base spare held n' 3 [c3] = some y3 := one_field (c := 1) (o := 3) rfl (by kernel_rfl) (hf 3 _ rfl)
  obtain ⟨x3, e3, _, w3⟩ := DataW.trod_int Tryd.underlying3 h3
  obtain rfl : c3 = _ := (List.cons.inj e3).1
  have h4 : DataW.trod enc Tryd.prog w base spare held n' 3 [c4] = some y4 := one_field (c := 1) (o := 4) rfl (by kernel_rfl) (hf 4 _ rfl)
  obtain ⟨x4, e4, _, w4⟩ := DataW.trod_int Tryd.underlying3 h4
  obtain rfl : c4 = _ := (List.cons.inj e4).1
  exact ⟨x0, x1, x2, x3, x4, rfl, w0, w1, w2, w3, w4⟩
set_option maxRecDepth 100000 in
theorem lifted (os : Os) (started : os.Started) (H : Type) (enc : TypeId × Value → H) :
    ReturnsInHanded {} Tryd.checked os 5 .any (fun w args => (Rows.fnExactMisclosureOfSpec.pre enc Tryd.prog Tryd.f5 [] false w args ∧ laidMetH Tryd.prog LaidT.list w) ∧ sizedMet enc Tryd.prog Tryd.f5 (OpenSpec.ofChange Rows.fnExactMisclosureOfSpec) false w args) (Rows.fnExactMisclosureOfSpec.post enc Tryd.prog Tryd.f5 false true false false) := by
  refine returnsInHanded_of_change_and (C := Tryd.checked) (X := fun w _ => laidMetH Tryd.prog LaidT.list w) (fun _ _ _ hh h => h.of_heap hh) own started (by kernel_rfl) Tryd.func5
    (ChangeSpec.witness_shaped (enc := enc) (C := Tryd.checked) (os := os) (X := fun w _ => laidMetH Tryd.prog LaidT.list w) false (World.doorLaid Tryd.prog 400 os) #[.slice none 0 0, .int .i64 0] 8 rfl (World.shaped_of_RefB (by kernel_rfl) (by kernel_rfl)) (by kernel_rfl) (by kernel_rfl) (by kernel_rfl) (LaidT.door_met os _)) ?_
  intro W base args ds gs before hval0 hW hcnd hsz0 hL _
  have hsz : (DataW.weightsEach Tryd.prog (Tryd.f5.params.toList ++ Rows.fnExactMisclosureOfSpec.plain.varTypes Tryd.prog) (ds ++ gs)).all (· ≤ reachBytes) = true := hsz0
  have hval : ∀ (j : Nat) t v, Tryd.f5.params[j]? = some t → args[j]? = some v → Value.okWide Tryd.prog W .any base t v := hval0
  have hW' := hW
  obtain ⟨p, q, hA0, hV, rfl, hfz, hnd⟩ := hW
  have hA : DataW.TrodAll enc Tryd.prog W 0 (fun _ => true) true Tryd.f5.params.toList args.toList ds p := hA0
  rw [Tryd.params5] at hA hval hsz
  obtain ⟨v0, vs0, d0, ds0, p0, q0, hargs, rfl, rfl, h0, r0⟩ := trodAll_cons hA
  obtain ⟨v1, vs1, d1, ds1, p1, q1, rfl, rfl, rfl, h1, r1⟩ := trodAll_cons r0
  obtain ⟨rfl, rfl, rfl⟩ := trodAll_nil r1
  obtain rfl : args = #[v0, v1] := by cases args; simp_all
  have hV2 := hV
  obtain ⟨_, _, _, _, gd, _, rfl, _, _, _, _, _⟩ := trodVars_one hV
  have k0 := h0
  have lt0 : ∀ x ∈ p0, x.block < W.heap.size := by obtain ⟨m, hm⟩ := k0; exact DataW.trod_lt m _ _ _ hm
  obtain ⟨a0, len0, cap0, rfl⟩ := okWide_slice Tryd.underlying22 (hval 0 22 v0 rfl rfl)
  obtain ⟨l0, hl0, hc0, hr0, hw0⟩ := Opens.open_row k58 (Q := fun x => (Lit.int .i64 x.f0).wf = true ∧ (Lit.int .i64 x.f1).wf = true ∧ (Lit.int .i64 x.f2).wf = true ∧ (Lit.int .i64 x.f3).wf = true ∧ (Lit.int .i64 x.f4).wf = true) (e := 58) Tryd.underlying22 (by kernel_rfl) (fun _ _ _ h => by obtain ⟨x0, x1, x2, x3, x4, rfl, hw⟩ := open_58 h; exact ⟨⟨x0, x1, x2, x3, x4⟩, k58_mk _ _, hw⟩) h0
  have y0 : len0 * 40 ≤ 140737488351232 := Opens.sized_row hsz (j := 0) (t := 22) rfl rfl Tryd.underlying22 (by kernel_rfl) h0
  subst hl0
  obtain ⟨a1, rfl, rfl, rfl, w1⟩ := open_int Tryd.underlying3 (hval 1 3 v1 rfl rfl) h1
  clear hA0 hval0 hsz0 hsz
  obtain ⟨k, hk⟩ := Pure.FnExactMisclosureOf l0 a1 y0 hw0 w1
  refine (laws_FnExactMisclosureOf.calls k _ _ l0 a1 true W hr0 hc0 hk (LaidT.of_laid hL)).mono fun e W' ⟨he, hb⟩ => ?_
  have bel : Below W.heap.size W W' := hb
  subst he
  exact ⟨_, rfl, _, _, _, [], _, _, hW', trodAll_mk1 (shut_bool Tryd.underlying4 _), (trodAll_cons_mk (Below.trod laidOut (by kernel_rfl) (of_decide_eq_true (by kernel_rfl)) k0 bel lt0) (trodAll_cons_mk (shut_int Tryd.underlying3 w1) trodAll_mk0)), Below.trodVars laidOut bel (by kernel_rfl) hV2, bel.frame _, fun h => by cases h⟩
theorem over : Rows.fnExactMisclosureOfRow.holds Tryd.pinned (OpenSpec.ofChange Rows.fnExactMisclosureOfSpec) :=
  OpenClaim.holds_of_wide 5 Tryd.f5 rfl rfl rfl rfl rfl rfl rfl ⟨rfl, rfl, rfl, rfl, rfl⟩ rfl rfl rfl rfl rfl (by kernel_rfl) Tryd.func5 (by kernel_rfl)
    (of_decide_eq_true (by kernel_rfl)) (by unfold Func.isWrapper; first | (rw [if_pos (by decide +kernel)]; kernel_rfl) | (rw [if_neg (by decide +kernel)]; exact ⟨rfl, rfl⟩))
    (fun os started H enc _ => lifted os started H enc)
theorem proved : Rows.FnExactMisclosureOfSaid := over
theorem card_holds : Rows.FnExactMisclosureOfCardSaid :=
  Claim7.holds_tied_plain_at .later [] [.data] true (true, "f7459f8bb7d25b8a76c6a5470673fe8532312535b90f7e9f3582109fee47265b") false
    over (fun _ h => by cases h) (by kernel_rfl) (fun _ h => by cases h) fnExactMisclosureOf_row_tie rfl ⟨rfl, rfl⟩ (by kernel_rfl) rfl
    (fun f fn hf hfn => by
      obtain rfl : f = 5 := Option.some.inj ((show Tryd.prog.funcNamed "loop.example/g00933/laws.FnExactMisclosureOf" = some 5 by kernel_rfl).symm.trans hf) |>.symm
      obtain rfl : fn = Tryd.f5 := (Option.some.inj (Tryd.func5.symm.trans hfn)).symm
      exact ⟨by kernel_rfl, fun j t ht => by
        rw [Tryd.params5] at ht
        have hm : t ∈ [22, 3] := by simpa using Array.mem_of_getElem? ht
        have hall : ([22, 3].all fun u => !Tryd.prog.wantsStandIn u) = true := by kernel_rfl
        exact (show Tryd.prog.wantsStandIn t = false by simpa using List.all_eq_true.1 hall t hm)⟩)
    (by kernel_rfl)
#print axioms card_holds
end Go.Proofs.YtiooiefjcbooeaaDoor.fnExactMisclosureOf
namespace Go.Proofs.YtiooiefjcbooeaaDoor
/-- The row, under a short name, for the claim. -/
theorem fnExactMisclosureOf_holds : Rows.FnExactMisclosureOfCardSaid := fnExactMisclosureOf.card_holds
end Go.Proofs.YtiooiefjcbooeaaDoor
