/- The program's (Leg).shift, in the form of the printed functions. -/
import Derived.Outline
import Derived.Test.YtlipaiabjcaeiaaDoorRows
import Derived.ProofKit
import Derived.LaidMore
import Derived.OpenShut
import Derived.LaidLaws
import Derived.LaidHandle
import Derived.MakeChecks
import Derived.Stop.Joined
import Derived.Test.YtlipaiabjcaeiaaDoorKFnChainsVMore
import Derived.Test.YtlipaiabjcaeiaaDoorKFnChains0
import Derived.Test.YtlipaiabjcaeiaaDoorKFnChains1
import Derived.Test.YtlipaiabjcaeiaaDoorKFnChains2
/- The program's sine over its laid table, the parts of a length, and the shift of a leg. -/
namespace Go.Proofs.YtlipaiabjcaeiaaDoor.Net
open Go.RowKit Go.Proofs.YtlipaiabjcaeiaaDoorW.PrintWords Go.Proofs.YtlipaiabjcaeiaaDoorW.PrintLast Go.Proofs.YtlipaiabjcaeiaaDoorW.PrintMore Go.Proofs.YtlipaiabjcaeiaaDoor.A
set_option linter.unusedVariables false
set_option linter.unusedSimpArgs false
def Sine.tab : List Int := [0, 17, 35, 52, 70, 87, 105, 122, 139, 156, 174, 191, 208, 225, 242, 259, 276, 292, 309, 326, 342, 358, 375, 391, 407, 423, 438, 454, 469, 485, 500, 515, 530, 545, 559, 574, 588, 602, 616, 629, 643, 656, 669, 682, 695, 707, 719, 731, 743, 755, 766, 777, 788, 799, 809, 819, 829, 839, 848, 857, 866, 875, 883, 891, 899, 906, 914, 921, 927, 934, 940, 946, 951, 956, 961, 966, 970, 974, 978, 982, 985, 988, 990, 993, 995, 996, 998, 999, 999, 1000, 1000]
def Sine.Laid (w : World) : Prop := ∀ i : Nat, i < 91 → w.cell? ⟨0, i, none⟩ = some (.int .i64 (Sine.tab.getD i 0))
def Sine.s (d : Int) : Int := if d ≤ 90 then Sine.tab.getD d.toNat 0 else Sine.tab.getD (180 - d).toNat 0
theorem Sine.getD_bound (i : Nat) : 0 ≤ Sine.tab.getD i 0 ∧ Sine.tab.getD i 0 ≤ 1000 := by
  have h : ∀ x ∈ Sine.tab, 0 ≤ x ∧ x ≤ 1000 := by decide
  by_cases hi : i < Sine.tab.length
  · rw [List.getD_eq_getElem?_getD, List.getElem?_eq_getElem hi]
    exact h _ (List.getElem_mem hi)
  · rw [List.getD_eq_getElem?_getD, List.getElem?_eq_none (by omega)]
    decide
theorem Sine.s_bound (d : Int) : 0 ≤ Sine.s d ∧ Sine.s d ≤ 1000 := by
  unfold Sine.s
  split <;> exact Sine.getD_bound _
theorem Sine.keepc {w W : World} {a : Addr} {v : Value} (h : w.cell? a = some v) (hb : Below w.heap.size w W) : W.cell? a = some v := (hb.cell (World.block_lt_of_cell? w _ h)).trans h
theorem Sine.Laid.keep {w W : World} (h : Sine.Laid w) (hb : Below w.heap.size w W) : Sine.Laid W := fun i hi => Sine.keepc (h i hi) hb
set_option maxHeartbeats 1000000 in
theorem Sine.low (d : Int) (w : World) (hL : Sine.Laid w) (h0 : 0 ≤ d) (h1 : d ≤ 180) :
    Calls Tryd.prog 42 #[.int .i64 d] w fun e w' => e = .returned (.int .i64 (Sine.s d)) ∧ Below w.heap.size w w' := by
  unfold Sine.s
  by_cases hd : d ≤ 90
  · rw [if_pos hd]
    have hm : d % 360 = d := by omega
    have hb0 : (0 : Int) ≤ d := h0
    have hb1 : d < 91 := by omega
    have h := hL d.toNat (by omega)
    generalize Sine.tab.getD d.toNat 0 = x at *
    go_enter Tryd.func42, Tryd.ntmps42
    go_wp2
    go_ret
    exact ⟨rfl, by repeat (first | exact Below.refl _ _ | apply below_alloc)⟩
  · rw [if_neg hd]
    have hm : d % 360 = d := by omega
    have hb0 : (0 : Int) ≤ 180 - d := by omega
    have hb1 : 180 - d < 91 := by omega
    have h := hL (180 - d).toNat (by omega)
    generalize Sine.tab.getD (180 - d).toNat 0 = x at *
    go_enter Tryd.func42, Tryd.ntmps42
    go_wp2
    go_ret
    exact ⟨rfl, by repeat (first | exact Below.refl _ _ | apply below_alloc)⟩
def Sine.f (a : Int) : Int := if a % 360 ≤ 180 then Sine.s (a % 360) else - Sine.s (a % 360 - 180)
set_option maxHeartbeats 1000000 in
theorem Sine.calls (a : Int) (w : World) (hL : Sine.Laid w) (h0 : -1000000 ≤ a) (h1 : a ≤ 1000000) :
    Calls Tryd.prog 42 #[.int .i64 a] w fun e w' => e = .returned (.int .i64 (Sine.f a)) ∧ Below w.heap.size w w' := by
  have hmod : impl_modulo.f a 360 = some (a % 360) := by
    unfold impl_modulo.f
    rw [if_neg (by decide)]
    have e0 : Int.tmod a 360 = a % 360 ∨ Int.tmod a 360 = a % 360 - 360 := by
      rw [Int.tmod_eq_emod]
      split
      · left; omega
      · right; simp
    have e1 : wrap64 (Int.tmod a 360 + 360) = Int.tmod a 360 + 360 := by unfold wrap64; omega
    rw [e1, Int.tmod_eq_emod_of_nonneg (by omega)]
    congr 1
    omega
  have HM := Aside0.mk hmod
  have HL := Aside0.mk hL
  have g0 : 0 ≤ a % 360 := by omega
  have g1 : a % 360 < 360 := by omega
  clear hmod hL
  unfold Sine.f
  generalize a % 360 = d at *
  have keep : ∀ W, Below w.heap.size w W → Sine.Laid W := fun W hb => HL.out.keep hb
  have HK := Aside0.mk keep
  clear keep HL
  by_cases hd : d ≤ 180
  · rw [if_pos hd]
    unfold Sine.s
    by_cases hd9 : d ≤ 90
    · rw [if_pos hd9]
      have hb1 : d < 91 := by omega
      have HT := Aside0.mk (fun W hb => HK.out W hb d.toNat (by omega))
      generalize Sine.tab.getD d.toNat 0 = x at *
      go_enter Tryd.func42, Tryd.ntmps42
      go_wp2_with (go_at_call 45; (with_reducible refine (impl_modulo.calls _ _ _ _ HM.out).mono ?_); rintro e w' ⟨rfl, hq⟩; have HQ := Aside0.mk (show Below w.heap.size w w' from hq.below); have hcell := HT.out w' HQ.out; clear hq)
      go_ret
      exact ⟨rfl, HQ.out⟩
    · rw [if_neg hd9]
      have hb0 : (0 : Int) ≤ 180 - d := by omega
      have hb1 : 180 - d < 91 := by omega
      have HT := Aside0.mk (fun W hb => HK.out W hb (180 - d).toNat (by omega))
      generalize Sine.tab.getD (180 - d).toNat 0 = x at *
      go_enter Tryd.func42, Tryd.ntmps42
      go_wp2_with (go_at_call 45; (with_reducible refine (impl_modulo.calls _ _ _ _ HM.out).mono ?_); rintro e w' ⟨rfl, hq⟩; have HQ := Aside0.mk (show Below w.heap.size w w' from hq.below); have hcell := HT.out w' HQ.out; clear hq)
      go_ret
      exact ⟨rfl, HQ.out⟩
  · rw [if_neg hd]
    have hb0 : (0 : Int) ≤ d - 180 := by omega
    have hb1 : d - 180 ≤ 180 := by omega
    go_enter Tryd.func42, Tryd.ntmps42
    go_wp2_with (first | (go_at_call 45; (with_reducible refine (impl_modulo.calls _ _ _ _ HM.out).mono ?_); rintro e w' ⟨rfl, hq⟩; have HQ := Aside0.mk (show Below w.heap.size w w' from hq.below); clear hq) | (go_at_call 42; (with_reducible refine (Sine.low (d - 180) _ (HK.out _ HQ.out) hb0 hb1).mono ?_); rintro e w' ⟨rfl, hw⟩))
    go_ret
    have hs := Sine.s_bound (d - 180)
    have hn : wrap64 (- Sine.s (d - 180)) = - Sine.s (d - 180) := by unfold wrap64; omega
    exact ⟨by first | rfl | (simp only [hn]; rfl) | (simp [hn]; rfl), below_step HQ.out hw⟩

end Go.Proofs.YtlipaiabjcaeiaaDoor.Net

/- What the card's condition on the table of sines gives the walks, and a world that meets it. -/
namespace Go.Proofs.YtlipaiabjcaeiaaDoor.LaidT
open Go.ChangeShapes Go.WideShapes Go.RowKit Go.Proofs.YtlipaiabjcaeiaaDoor.Net
set_option linter.unusedVariables false
set_option maxRecDepth 100000
def list : List (String × DataW Unit) := [("loop.example/g00933/impl.sines", Rows.laid_loop_example_g00933_impl_sines)]
theorem gN : Tryd.prog.globalNamed "loop.example/g00933/impl.sines" = some 0 := by kernel_rfl
theorem gT : (Tryd.prog.globals[0]?).map (·.type) = some 64 := by kernel_rfl
theorem datum_eq : (Rows.laid_loop_example_g00933_impl_sines : DataW Unit) = .agg (Sine.tab.map fun v => .lit (.int .i64 v)) := rfl
/-- The door's own heap meets the condition. -/
theorem door_met (os : Os) (args : Array Value) : laidMetH Tryd.prog list ((World.doorLaid Tryd.prog 400 os).forCall (fun _ _ => 0) ⟨#[], args, []⟩).memory :=
  laidMetH_of_parts3 (fuel := 8) (laidMet_of_run' 8 (by kernel_rfl) (by kernel_rfl)) (by kernel_rfl) (by kernel_rfl)
theorem of_laid {W : World} (h : laidMetH Tryd.prog list W) : Sine.Laid W := by
  rw [MakeChecks.laidMetH_plain _ _ _ (by kernel_rfl)] at h
  obtain ⟨ps, ⟨g0, t0, cs0, f0, p0, q0, hg0, ht0, hv0, hd0, _, _⟩, _, _⟩ := h
  obtain rfl := Option.some.inj (gN.symm.trans hg0)
  obtain rfl := Option.some.inj (gT.symm.trans ht0)
  obtain ⟨xs, m, rfl, hx, hlen, hn, hel⟩ := DataW.trod_array Tryd.underlying64 hd0
  intro i hi
  have h0 := hel i hi
  have c1 : Tryd.prog.cellsOf 3 = 1 := by kernel_rfl
  obtain ⟨x, hxi⟩ : ∃ x, xs[i]? = some x := ⟨_, List.getElem?_eq_getElem (by omega)⟩
  rw [hxi, c1] at h0
  obtain ⟨k, e1, e2, _⟩ := DataW.trod_int Tryd.underlying3 h0
  have hL : Sine.tab.map (fun v => (.lit (.int .i64 v) : DataW Unit)) = xs.map (·.1) := by
    have := (Prod.mk.inj hx).1
    rw [datum_eq] at this
    exact DataW.agg.inj this
  have hk := congrArg (fun l => l[i]?) hL
  simp only [List.getElem?_map, hxi, Option.map_some] at hk
  have htab : i < Sine.tab.length := hi
  rw [List.getElem?_eq_getElem htab, Option.map_some, e2] at hk
  have hk2 : Sine.tab[i] = k := by simpa using hk
  have hcell := World.var?_cell hg0 hv0 i
  have e3 : cs0.toList[i]? = some (.int .i64 k) := by
    have := congrArg (fun l => l[0]?) e1
    simpa [List.getElem?_take, List.getElem?_drop] using this
  rw [hcell, ← Array.getElem?_toList, e3, List.getD_eq_getElem?_getD, List.getElem?_eq_getElem htab, Option.getD_some, hk2]
end Go.Proofs.YtlipaiabjcaeiaaDoor.LaidT

/- The parts of a length and the shift of a leg. -/
namespace Go.Proofs.YtlipaiabjcaeiaaDoor.Net
open Go.RowKit Go.Proofs.YtlipaiabjcaeiaaDoorW.PrintWords Go.Proofs.YtlipaiabjcaeiaaDoorW.PrintLast Go.Proofs.YtlipaiabjcaeiaaDoorW.PrintMore Go.Proofs.YtlipaiabjcaeiaaDoor.A
set_option linter.unusedVariables false
set_option linter.unusedSimpArgs false
theorem Sine.f_bound (a : Int) : -1000 ≤ Sine.f a ∧ Sine.f a ≤ 1000 := by
  unfold Sine.f
  split
  · have := Sine.s_bound (a % 360); omega
  · have := Sine.s_bound (a % 360 - 180); omega
def rnd (a : Int) : Int := if a < 0 then - ((2 * (- a) + 1000) / 2000) else (2 * a + 1000) / 2000
theorem rounded_eq (a : Int) (h0 : -1000000000000 ≤ a) (h1 : a ≤ 1000000000000) : impl_rounded.f 2 a 1000 = some (rnd a) := by
  have pos : ∀ k b : Int, 0 ≤ b → b ≤ 1000000000000 → ∀ n : Nat, impl_rounded.f (n + 1) b 1000 = some ((2 * b + 1000) / 2000) := by
    intro k b hb0 hb1 n
    have e1 : wrap64 (2 * b) = 2 * b := by unfold wrap64; omega
    have e2 : wrap64 (2 * b + 1000) = 2 * b + 1000 := by unfold wrap64; omega
    have e3 : wrap64 (2 * 1000) = 2000 := by unfold wrap64; omega
    have e4 : Int.tdiv (2 * b + 1000) 2000 = (2 * b + 1000) / 2000 := Int.tdiv_eq_ediv_of_nonneg (by omega)
    have e5 : wrap64 ((2 * b + 1000) / 2000) = (2 * b + 1000) / 2000 := by unfold wrap64; omega
    have n0 : ¬ b < 0 := by omega
    simp only [impl_rounded.f, if_neg n0, e1, e2, e3, e4, e5]
    simp
  unfold rnd
  by_cases h : a < 0
  · have e1 : wrap64 (-a) = -a := by unfold wrap64; omega
    have e5 : wrap64 (-((2 * (- a) + 1000) / 2000)) = -((2 * (- a) + 1000) / 2000) := by unfold wrap64; omega
    rw [if_pos h]
    simp only [impl_rounded.f, if_pos h, e1]
    have := pos 0 (-a) (by omega) (by omega) 0
    simp only [Nat.zero_add, impl_rounded.f] at this
    simp only [this, Option.bind_some, e5]
  · rw [if_neg h]
    exact pos 0 a (by omega) h1 1
set_option maxHeartbeats 1000000 in
theorem cosine (a : Int) (w : World) (hL : Sine.Laid w) (h0 : -100000 ≤ a) (h1 : a ≤ 100000) :
    Calls Tryd.prog 41 #[.int .i64 a] w fun e w' => e = .returned (.int .i64 (Sine.f (a + 90))) ∧ Below w.heap.size w w' := by
  have b0 : -1000000 ≤ a + 90 := by omega
  have b1 : a + 90 ≤ 1000000 := by omega
  have HL := Aside0.mk hL
  clear hL
  go_enter Tryd.func41, Tryd.ntmps41
  go_wp2_with (go_at_call 42; (with_reducible refine (Sine.calls (a + 90) _ ?s1 b0 b1).mono ?_); (case s1 => exact HL.out.keep (by repeat (first | exact Below.refl _ _ | apply below_alloc | apply below_drew1))); rintro e w' ⟨rfl, hw⟩)
  go_ret
  exact ⟨rfl, by first | exact hw | exact below_step (by repeat (first | exact Below.refl _ _ | apply below_alloc | apply below_drew1)) hw⟩
def part (l a : Int) : Int × Int := (rnd (l * Sine.f (a + 90)), rnd (l * Sine.f a))
theorem prod_bound (l a : Int) (h0 : -100000 ≤ l) (h1 : l ≤ 100000) : -100000000 ≤ l * Sine.f a ∧ l * Sine.f a ≤ 100000000 := by
  have hs := Sine.f_bound a
  generalize Sine.f a = s at *
  have a1 : (l + 100000) * (1000 - s) ≥ 0 := Int.mul_nonneg (by omega) (by omega)
  have a2 : (l + 100000) * (s + 1000) ≥ 0 := Int.mul_nonneg (by omega) (by omega)
  have a3 : (100000 - l) * (1000 - s) ≥ 0 := Int.mul_nonneg (by omega) (by omega)
  have a4 : (100000 - l) * (s + 1000) ≥ 0 := Int.mul_nonneg (by omega) (by omega)
  simp only [Int.add_mul, Int.mul_add, Int.sub_mul, Int.mul_sub] at a1 a2 a3 a4
  omega
set_option maxHeartbeats 1000000 in
theorem partOf (l a : Int) (w : World) (hL : Sine.Laid w) (h0 : -100000 ≤ l) (h1 : l ≤ 100000) (h2 : -10000 ≤ a) (h3 : a ≤ 10000) :
    Calls Tryd.prog 31 #[.int .i64 l, .int .i64 a] w fun e w' => e = .returned (.tuple #[.int .i64 (part l a).1, .int .i64 (part l a).2]) ∧ Below w.heap.size w w' := by
  have b0 : -100000 ≤ a := by omega
  have b1 : a ≤ 100000 := by omega
  have b2 : -1000000 ≤ a := by omega
  have b3 : a ≤ 1000000 := by omega
  have p1 := prod_bound l (a + 90) h0 h1
  have p2 := prod_bound l a h0 h1
  have e1 : wrap64 (l * Sine.f (a + 90)) = l * Sine.f (a + 90) := by unfold wrap64; omega
  have e2 : wrap64 (l * Sine.f a) = l * Sine.f a := by unfold wrap64; omega
  have R1 := Aside0.mk (rounded_eq (l * Sine.f (a + 90)) (by omega) (by omega))
  have R2 := Aside0.mk (rounded_eq (l * Sine.f a) (by omega) (by omega))
  have HL := Aside0.mk hL
  unfold part
  clear hL p1 p2 h0 h1 h2 h3
  have HB := Aside0.mk (Below.refl w.heap.size w)
  go_enter Tryd.func31, Tryd.ntmps31
  go_wp2_with (first
    | (go_at_call 41; (with_reducible refine (cosine a _ ?s1 b0 b1).mono ?_); (case s1 => exact HL.out.keep (by repeat (first | exact HB.out | apply below_alloc | apply below_drew1))); rintro e w' ⟨rfl, hw⟩; replace HB := Aside0.mk (below_step (by repeat (first | exact HB.out | apply below_alloc | apply below_drew1)) hw); clear hw)
    | (go_at_call 42; (with_reducible refine (Sine.calls a _ ?s1 b2 b3).mono ?_); (case s1 => exact HL.out.keep (by repeat (first | exact HB.out | apply below_alloc | apply below_drew1))); rintro e w' ⟨rfl, hw⟩; replace HB := Aside0.mk (below_step (by repeat (first | exact HB.out | apply below_alloc | apply below_drew1)) hw); clear hw)
    | (go_at_call 40; (first | (with_reducible refine (impl_rounded.calls 2 _ _ _ _ R1.out).mono ?_) | (with_reducible refine (impl_rounded.calls 2 _ _ _ _ R2.out).mono ?_)); rintro e w' ⟨rfl, hq⟩; have hw := hq.below; clear hq; replace HB := Aside0.mk (below_step (by repeat (first | exact HB.out | apply below_alloc | apply below_drew1)) hw); clear hw))
  exact bodyPost_ret (v := .tuple #[.int .i64 (rnd (l * Sine.f (a + 90))), .int .i64 (rnd (l * Sine.f a))]) (by simp [results, Tryd.results31, go_sem]) rfl ⟨rfl, by repeat (first | exact HB.out | apply below_alloc | apply below_drew1)⟩
theorem mul_bound (l s b : Int) (h0 : -b ≤ l) (h1 : l ≤ b) (hs : -1000 ≤ s ∧ s ≤ 1000) : -(1000 * b) ≤ l * s ∧ l * s ≤ 1000 * b := by
  have a1 : (l + b) * (1000 - s) ≥ 0 := Int.mul_nonneg (by omega) (by omega)
  have a2 : (l + b) * (s + 1000) ≥ 0 := Int.mul_nonneg (by omega) (by omega)
  have a3 : (b - l) * (1000 - s) ≥ 0 := Int.mul_nonneg (by omega) (by omega)
  have a4 : (b - l) * (s + 1000) ≥ 0 := Int.mul_nonneg (by omega) (by omega)
  simp only [Int.add_mul, Int.mul_add, Int.sub_mul, Int.mul_sub] at a1 a2 a3 a4
  have c := Int.mul_comm b s
  omega
theorem rnd_bound (x b : Int) (h0 : -(1000 * b) ≤ x) (h1 : x ≤ 1000 * b) : -b ≤ rnd x ∧ rnd x ≤ b := by
  unfold rnd
  split <;> omega
theorem part_bound (l a b : Int) (h0 : -b ≤ l) (h1 : l ≤ b) : (-b ≤ (part l a).1 ∧ (part l a).1 ≤ b) ∧ (-b ≤ (part l a).2 ∧ (part l a).2 ≤ b) := by
  unfold part
  have h2 := mul_bound l _ b h0 h1 (Sine.f_bound (a + 90))
  have h3 := mul_bound l _ b h0 h1 (Sine.f_bound a)
  exact ⟨rnd_bound _ b h2.1 h2.2, rnd_bound _ b h3.1 h3.2⟩
/-- A leg is valid. -/
def Good (x : S45) : Prop := (0 ≤ x.f0 ∧ x.f0 < 8) ∧ (0 ≤ x.f1 ∧ x.f1 < 8) ∧ x.f0 ≠ x.f1 ∧ (1 ≤ x.f2 ∧ x.f2 ≤ 500) ∧ (0 ≤ x.f3 ∧ x.f3 ≤ 359) ∧ (-90 ≤ x.f4 ∧ x.f4 ≤ 90)
def shift (x : S45) : S27 := ⟨(part (part x.f2 x.f4).1 x.f3).2, (part (part x.f2 x.f4).1 x.f3).1, (part x.f2 x.f4).2⟩
theorem shift_bound (x : S45) (h : Good x) : (-500 ≤ (shift x).f0 ∧ (shift x).f0 ≤ 500) ∧ (-500 ≤ (shift x).f1 ∧ (shift x).f1 ≤ 500) ∧ (-500 ≤ (shift x).f2 ∧ (shift x).f2 ≤ 500) := by
  obtain ⟨_, _, _, h2, h3, h4⟩ := h
  have a := part_bound x.f2 x.f4 500 (by omega) (by omega)
  have b := part_bound (part x.f2 x.f4).1 x.f3 500 a.1.1 a.1.2
  exact ⟨b.2, b.1, a.2⟩
theorem keepz {w W : World} {a : Addr} {v : Value} (h : w.cell? a = some v) (hf : w.frozen? a = false) (hb : Below w.heap.size w W) : W.frozen? a = false := (hb.frozen (World.block_lt_of_cell? w _ h)).trans hf
set_option maxHeartbeats 1000000 in
theorem legShift (x : S45) (w : World) (hL : Sine.Laid w) (h : Good x) :
    Calls Tryd.prog 19 #[.agg #[.int .i64 x.f0, .int .i64 x.f1, .int .i64 x.f2, .int .i64 x.f3, .int .i64 x.f4]] w fun e w' => e = .returned (.agg #[.int .i64 (shift x).f0, .int .i64 (shift x).f1, .int .i64 (shift x).f2]) ∧ Below w.heap.size w w' := by
  obtain ⟨_, _, _, h2, h3, h4⟩ := h
  have a := part_bound x.f2 x.f4 500 (by omega) (by omega)
  have P1 := fun W hl => Aside0.mk (partOf x.f2 x.f4 W hl (by omega) (by omega) (by omega) (by omega))
  have P2 := fun W hl => Aside0.mk (partOf (part x.f2 x.f4).1 x.f3 W hl (by omega) (by omega) (by omega) (by omega))
  have HL := Aside0.mk hL
  have HB := Aside0.mk (Below.refl w.heap.size w)
  clear hL a h2 h3 h4
  unfold shift
  generalize part x.f2 x.f4 = p at *
  generalize part p.1 x.f3 = r at *
  go_enter Tryd.func19, Tryd.ntmps19
  go_wp2_with (first
    | (go_at_call 31; (first | (with_reducible refine (P1 _ ?s1).out.mono ?_) | (with_reducible refine (P2 _ ?s1).out.mono ?_)); (case s1 => exact HL.out.keep (by repeat (first | exact HB.out | apply below_alloc | apply below_drew1))); rintro e w' ⟨rfl, hw⟩; replace HB := Aside0.mk (below_step (by repeat (first | exact HB.out | apply below_alloc | apply below_drew1)) hw)
       have k2 : w'.cell? ⟨w.heap.size, 2, none⟩ = some (.int .i64 x.f2) := Sine.keepc (by first | assumption | (go_simp; done)) hw
       have k3 : w'.cell? ⟨w.heap.size, 3, none⟩ = some (.int .i64 x.f3) := Sine.keepc (by first | assumption | (go_simp; done)) hw
       have k4 : w'.cell? ⟨w.heap.size, 4, none⟩ = some (.int .i64 x.f4) := Sine.keepc (by first | assumption | (go_simp; done)) hw
       have g0 : w'.cell? ⟨w.heap.size + 1, 0, none⟩ = some (.int .i64 0) := Sine.keepc (by first | assumption | (go_simp; done)) hw
       have g1 : w'.cell? ⟨w.heap.size + 1, 1, none⟩ = some (.int .i64 0) := Sine.keepc (by first | assumption | (go_simp; done)) hw
       have g2 : w'.cell? ⟨w.heap.size + 1, 2, none⟩ = some (.int .i64 0) := Sine.keepc (by first | assumption | (go_simp; done)) hw
       have z0 : w'.frozen? ⟨w.heap.size + 1, 0, none⟩ = false := keepz (v := .int .i64 0) (by first | assumption | (go_simp; done)) (by first | assumption | (go_simp; done)) hw
       have z1 : w'.frozen? ⟨w.heap.size + 1, 1, none⟩ = false := keepz (v := .int .i64 0) (by first | assumption | (go_simp; done)) (by first | assumption | (go_simp; done)) hw
       have z2 : w'.frozen? ⟨w.heap.size + 1, 2, none⟩ = false := keepz (v := .int .i64 0) (by first | assumption | (go_simp; done)) (by first | assumption | (go_simp; done)) hw
       clear hw))
  refine bodyPost_ret (v := .agg #[.int .i64 r.2, .int .i64 r.1, .int .i64 p.2]) (by simp [results, Tryd.results19, go_sem, g0, g1, g2]) rfl ⟨rfl, by repeat (first | exact HB.out | apply below_alloc | apply below_drew1 | (refine below_set ?_ (by omega)))⟩

end Go.Proofs.YtlipaiabjcaeiaaDoor.Net

/- Plain lemmas on integers that wrap at 64 bits, on answers that come after enough rounds, on tests over all indexes of a list. No program stands here. -/
namespace Go.Proofs.YtlipaiabjcaeiaaDoor.Plain
open Go.RowKit Go.Proofs.YtlipaiabjcaeiaaDoorW.PrintWords

theorem w64 {x : Int} (h1 : -9223372036854775808 ≤ x) (h2 : x ≤ 9223372036854775807) : wrap64 x = x := by
  unfold wrap64
  omega

/-- The product of two numbers that are bounded. -/
theorem mul_bound {x y : Int} (A B : Int) (h1 : -A ≤ x) (h2 : x ≤ A) (h3 : -B ≤ y) (h4 : y ≤ B) : -(A * B) ≤ x * y ∧ x * y ≤ A * B := by
  have e1 : 0 ≤ (A - x) * (B - y) := Int.mul_nonneg (by omega) (by omega)
  have e2 : 0 ≤ (A + x) * (B + y) := Int.mul_nonneg (by omega) (by omega)
  have e3 : 0 ≤ (A - x) * (B + y) := Int.mul_nonneg (by omega) (by omega)
  have e4 : 0 ≤ (A + x) * (B - y) := Int.mul_nonneg (by omega) (by omega)
  simp only [Int.sub_mul, Int.mul_sub, Int.add_mul, Int.mul_add] at e1 e2 e3 e4
  omega

/-! ### Answers after enough rounds -/
theorem Ev.some {α : Type} {g : Nat → Option α} {r : α} (h : ∀ k, g k = some r) : Ev g r := ⟨0, fun k _ => h k⟩
theorem Ev.ite {α : Type} {c : Prop} [Decidable c] {g f : Nat → Option α} {r q : α} (h : c → Ev g r) (k : ¬ c → Ev f q) : Ev (fun n => if c then g n else f n) (if c then r else q) := by
  by_cases hc : c
  · obtain ⟨K, hK⟩ := h hc
    exact ⟨K, fun n hn => by simp only [if_pos hc]; exact hK n hn⟩
  · obtain ⟨K, hK⟩ := k hc
    exact ⟨K, fun n hn => by simp only [if_neg hc]; exact hK n hn⟩
theorem Ev.pos {α : Type} {c : Prop} [Decidable c] {g f : Nat → Option α} {r : α} (hc : c) (h : Ev g r) : Ev (fun n => if c then g n else f n) r := by
  obtain ⟨K, hK⟩ := h
  exact ⟨K, fun n hn => by simp only [if_pos hc]; exact hK n hn⟩
theorem Ev.neg {α : Type} {c : Prop} [Decidable c] {g f : Nat → Option α} {r : α} (hc : ¬ c) (h : Ev f r) : Ev (fun n => if c then g n else f n) r := by
  obtain ⟨K, hK⟩ := h
  exact ⟨K, fun n hn => by simp only [if_neg hc]; exact hK n hn⟩
theorem Ev.bindc {α β : Type} {o : Option α} {f : Nat → α → Option β} {a : α} {r : β} (h : o = Option.some a) (k : Ev (fun n => f n a) r) : Ev (fun n => o.bind (f n)) r := by
  obtain ⟨K, hK⟩ := k
  exact ⟨K, fun n hn => by rw [h]; exact hK n hn⟩
/-! ### A test of all indexes from one on -/
def allFrom (P : Nat → Bool) : Nat → Nat → Bool
  | _, 0 => true
  | i, d + 1 => P i && allFrom P (i + 1) d
theorem allFrom_iff (P : Nat → Bool) : ∀ (d i : Nat), allFrom P i d = true ↔ ∀ j, i ≤ j → j < i + d → P j = true
  | 0, i => ⟨fun _ j h1 h2 => by omega, fun _ => rfl⟩
  | d + 1, i => by
    rw [allFrom, Bool.and_eq_true, allFrom_iff P d (i + 1)]
    constructor
    · rintro ⟨h0, h1⟩ j hj hj2
      by_cases e : j = i
      · subst e
        exact h0
      · exact h1 j (by omega) (by omega)
    · intro h
      exact ⟨h i (by omega) (by omega), fun j hj hj2 => h j (by omega) (by omega)⟩
theorem allFrom_all {α : Type} (l : List α) (d : α) (p : α → Bool) : allFrom (fun i => p (l.getD i d)) 0 l.length = l.all p := by
  rw [Bool.eq_iff_iff, allFrom_iff, List.all_eq_true]
  constructor
  · intro h x hx
    obtain ⟨j, hj, rfl⟩ := List.getElem_of_mem hx
    have := h j (by omega) (by omega)
    simpa [List.getD, hj] using this
  · intro h j _ hj
    have hj' : j < l.length := by omega
    have := h l[j] (List.getElem_mem hj')
    simpa [List.getD, hj'] using this

/-! ### Loops that copy a list, or compare two -/
theorem eq_loop {α : Type} (L : Nat → List α → List α → Int → Option Bool) 
    (hL : ∀ k x0 x4, 0 ≤ x4 → L (k + 1) x0 x0 x4 = if x4 < (x0.length : Int) then L k x0 x0 (wrap64 (x4 + 1)) else some true)
    (x0 : List α) (hb : x0.length ≤ 140737488351232) : ∀ (d k i : Nat), i + d = x0.length → d < k → L k x0 x0 (i : Int) = some true
  | 0, k, i, hi, hk => by
    obtain ⟨k, rfl⟩ : ∃ m, k = m + 1 := ⟨k - 1, by omega⟩
    rw [hL _ _ _ (by omega), if_neg (by omega)]
  | d + 1, k, i, hi, hk => by
    obtain ⟨k, rfl⟩ : ∃ m, k = m + 1 := ⟨k - 1, by omega⟩
    rw [hL _ _ _ (by omega), if_pos (by omega), w64 (by omega) (by omega), show ((i : Int) + 1) = ((i + 1 : Nat) : Int) by omega]
    exact eq_loop L hL x0 hb d k (i + 1) (by omega) (by omega)

theorem eq_all {α : Type} (L : Nat → List α → List α → Int → Option Bool) 
    (hL : ∀ k x0 x4, 0 ≤ x4 → L (k + 1) x0 x0 x4 = if x4 < (x0.length : Int) then L k x0 x0 (wrap64 (x4 + 1)) else some true)
    (x0 : List α) (hb : x0.length ≤ 140737488351232) : Ev (fun k => L k x0 x0 0) true :=
  ⟨x0.length + 1, fun k hk => eq_loop L hL x0 hb x0.length k 0 (by omega) (by omega)⟩

/-- A loop that asks a test of each index, and says no at the first that fails. -/
theorem all_loop (P : Nat → Bool) (n : Nat) (hn : n ≤ 140737488351232) (L : Nat → Int → Option Bool) (fin : Option Bool)
    (hL : ∀ k i, i < n → L (k + 1) (i : Int) = if P i = true then L k (wrap64 (i + 1)) else some false) (hend : ∀ k, L (k + 1) (n : Int) = fin) :
    ∀ (d k i : Nat), i + d = n → d < k → L k (i : Int) = if allFrom P i d = true then fin else some false
  | 0, k, i, hi, hk => by
    obtain ⟨k, rfl⟩ : ∃ m, k = m + 1 := ⟨k - 1, by omega⟩
    obtain rfl : i = n := by omega
    rw [hend, allFrom, if_pos rfl]
  | d + 1, k, i, hi, hk => by
    obtain ⟨k, rfl⟩ : ∃ m, k = m + 1 := ⟨k - 1, by omega⟩
    rw [hL _ _ (by omega), w64 (by omega) (by omega), show ((i : Int) + 1) = ((i + 1 : Nat) : Int) by omega, all_loop P n hn L fin hL hend d k (i + 1) (by omega) (by omega), allFrom]
    cases P i <;> simp

theorem all_ev (P : Nat → Bool) (n : Nat) (hn : n ≤ 140737488351232) (L : Nat → Int → Option Bool) (fin : Option Bool)
    (hL : ∀ k i, i < n → L (k + 1) (i : Int) = if P i = true then L k (wrap64 (i + 1)) else some false) (hend : ∀ k, L (k + 1) (n : Int) = fin) :
    ∃ K, ∀ k, K ≤ k → L k 0 = if allFrom P 0 n = true then fin else some false :=
  ⟨n + 1, fun k hk => all_loop P n hn L fin hL hend n k 0 (by omega) (by omega)⟩

/-! ### Marks: a law writes numbers into what came out, and looks whether they are still there -/
end Go.Proofs.YtlipaiabjcaeiaaDoor.Plain

/- The shift of a leg and valid legs: what the reference's and the program's functions come to, in plain. (Cut out of XSpecNet and XNetPure.) -/
namespace Go.Proofs.YtlipaiabjcaeiaaDoor.Net
open Go.RowKit Go.Proofs.YtlipaiabjcaeiaaDoorW.PrintWords Go.Proofs.YtlipaiabjcaeiaaDoorW.PrintLast Go.Proofs.YtlipaiabjcaeiaaDoorW.PrintMore Go.Proofs.YtlipaiabjcaeiaaDoor.A Go.Proofs.YtlipaiabjcaeiaaDoor.Plain
set_option linter.unusedVariables false
set_option linter.unusedSimpArgs false
abbrev L := List S45
/-! ### The shift -/
theorem div_eq (a : Int) (h0 : -1000000000 ≤ a) (h1 : a ≤ 1000000000) : spec_l2Div.f a 1000 = some (rnd a) := by
  unfold spec_l2Div.f rnd
  have e2 : wrap64 (2 * 1000) = 2000 := by unfold wrap64; omega
  by_cases h : a < 0
  · have e1 : wrap64 ((-2) * a) = 2 * (-a) := by unfold wrap64; omega
    have e3 : wrap64 (2 * (-a) + 1000) = 2 * (-a) + 1000 := by unfold wrap64; omega
    have e4 : Int.tdiv (2 * (-a) + 1000) 2000 = (2 * (-a) + 1000) / 2000 := Int.tdiv_eq_ediv_of_nonneg (by omega)
    have e5 : wrap64 ((2 * (-a) + 1000) / 2000) = (2 * (-a) + 1000) / 2000 := by unfold wrap64; omega
    have e6 : wrap64 (-((2 * (-a) + 1000) / 2000)) = -((2 * (-a) + 1000) / 2000) := by unfold wrap64; omega
    rw [if_pos h, e2, if_neg (by decide), e1, e3, e4, e5, e6, if_pos h]
  · have e1 : wrap64 (2 * a) = 2 * a := by unfold wrap64; omega
    have e3 : wrap64 (2 * a + 1000) = 2 * a + 1000 := by unfold wrap64; omega
    have e4 : Int.tdiv (2 * a + 1000) 2000 = (2 * a + 1000) / 2000 := Int.tdiv_eq_ediv_of_nonneg (by omega)
    have e5 : wrap64 ((2 * a + 1000) / 2000) = (2 * a + 1000) / 2000 := by unfold wrap64; omega
    rw [if_neg h, e2, if_neg (by decide), e1, e3, e4, e5, if_neg h]
theorem table_eq : spec_l2Table.f = some Sine.tab := rfl
theorem sine_eq (a : Int) (h0 : -1000000 ≤ a) (h1 : a ≤ 1000000) : spec_l2Sine.f a = some (Sine.f a) := by
  have hm : Int.tmod (wrap64 (Int.tmod a 360 + 360)) 360 = a % 360 := by
    have e0 : Int.tmod a 360 = a % 360 ∨ Int.tmod a 360 = a % 360 - 360 := by
      rw [Int.tmod_eq_emod]
      split
      · left; omega
      · right; simp
    have e1 : wrap64 (Int.tmod a 360 + 360) = Int.tmod a 360 + 360 := by unfold wrap64; omega
    rw [e1, Int.tmod_eq_emod_of_nonneg (by omega)]
    omega
  unfold spec_l2Sine.f Sine.f
  simp only [hm]
  have g0 : 0 ≤ a % 360 := by omega
  have g1 : a % 360 < 360 := by omega
  generalize a % 360 = d at *
  have hlen : (Sine.tab.length : Int) = 91 := rfl
  have w1 : wrap64 (180 - d) = 180 - d := by unfold wrap64; omega
  have w2 : wrap64 (d - 180) = d - 180 := by unfold wrap64; omega
  have w3 : wrap64 (360 - d) = 360 - d := by unfold wrap64; omega
  have hb : ∀ i : Nat, wrap64 (-(Sine.tab.getD i 0)) = -(Sine.tab.getD i 0) := fun i => by have := Sine.getD_bound i; unfold wrap64; omega
  by_cases c1 : d ≤ 90
  · rw [if_pos c1, table_eq, Option.bind_some, if_pos g0, if_pos (by omega), if_pos (by omega)]
    unfold Sine.s rd
    rw [if_pos c1]
  · rw [if_neg c1]
    by_cases c2 : d ≤ 180
    · rw [if_pos c2, table_eq, Option.bind_some, w1, if_pos (by omega), if_pos (by omega), if_pos c2]
      unfold Sine.s rd
      rw [if_neg c1]
    · rw [if_neg c2, if_neg c2]
      by_cases c3 : d ≤ 270
      · rw [if_pos c3, table_eq, Option.bind_some, w2, if_pos (by omega), if_pos (by omega)]
        unfold Sine.s rd
        rw [if_pos (by omega), hb]
      · rw [if_neg c3, table_eq, Option.bind_some, w3, if_pos (by omega), if_pos (by omega)]
        unfold Sine.s rd
        rw [if_neg (by omega), hb, show 180 - (d - 180) = 360 - d by omega]
theorem cosine_eq (a : Int) (h0 : -100000 ≤ a) (h1 : a ≤ 100000) : spec_l2Cosine.f a = some (Sine.f (a + 90)) := by
  unfold spec_l2Cosine.f
  rw [w64 (by omega) (by omega), sine_eq _ (by omega) (by omega)]
  rfl
theorem shift_eq (x : S45) (h : Good x) : spec_l4Shift.f x.f0 x.f1 x.f2 x.f3 x.f4 = some ((shift x).f0, (shift x).f1, (shift x).f2) := by
  obtain ⟨_, _, _, h2, h3, h4⟩ := h
  have a := part_bound x.f2 x.f4 500 (by omega) (by omega)
  have p1 := prod_bound x.f2 (x.f4 + 90) (by omega) (by omega)
  have p2 := prod_bound x.f2 x.f4 (by omega) (by omega)
  have p3 := prod_bound (part x.f2 x.f4).1 (x.f3 + 90) (by omega) (by omega)
  have p4 := prod_bound (part x.f2 x.f4).1 x.f3 (by omega) (by omega)
  have ep : rnd (x.f2 * Sine.f (x.f4 + 90)) = (part x.f2 x.f4).1 := rfl
  unfold spec_l4Shift.f
  rw [cosine_eq _ (by omega) (by omega), Option.bind_some, w64 (by omega) (by omega), div_eq _ (by omega) (by omega), Option.bind_some, ep, sine_eq _ (by omega) (by omega), Option.bind_some, w64 (by omega) (by omega), div_eq _ (by omega) (by omega), Option.bind_some,
    cosine_eq _ (by omega) (by omega), Option.bind_some, w64 (by omega) (by omega), div_eq _ (by omega) (by omega), Option.bind_some, sine_eq _ (by omega) (by omega), Option.bind_some, w64 (by omega) (by omega), div_eq _ (by omega) (by omega), Option.bind_some]
  rfl
instance : DecidablePred Good := fun x => by unfold Good; infer_instance
theorem within_eq (x a b : Int) : impl_within.f x a b = some (decide (a ≤ x ∧ x ≤ b)) := by
  unfold impl_within.f
  by_cases h : x ≥ a
  · rw [if_pos h]; congr 1; rw [decide_eq_decide]; omega
  · rw [if_neg h, decide_eq_false (by omega)]
theorem IsLeg_eq (x : S45) : impl_IsLeg.f x.f0 x.f1 x.f2 x.f3 x.f4 = some (decide (Good x)) := by
  unfold impl_IsLeg.f impl_isStation.f impl_isBearing.f
  simp only [within_eq, Option.bind_some]
  by_cases h0 : 0 ≤ x.f0 ∧ x.f0 ≤ 7
  · rw [decide_eq_true h0, if_pos rfl]
    by_cases h1 : 0 ≤ x.f1 ∧ x.f1 ≤ 7
    · rw [decide_eq_true h1, if_pos rfl]
      by_cases h2 : x.f0 = x.f1
      · rw [if_pos h2, decide_eq_false (fun c => c.2.2.1 h2)]
      · rw [if_neg h2]
        by_cases h3 : 1 ≤ x.f2 ∧ x.f2 ≤ 500
        · rw [decide_eq_true h3, if_pos rfl]
          by_cases h4 : 0 ≤ x.f3 ∧ x.f3 ≤ 359
          · rw [decide_eq_true h4, if_pos rfl]
            congr 1
            rw [decide_eq_decide]
            exact ⟨fun c => ⟨⟨h0.1, by omega⟩, ⟨h1.1, by omega⟩, h2, h3, h4, c⟩, fun c => c.2.2.2.2.2⟩
          · rw [decide_eq_false h4, if_neg (by decide), decide_eq_false (fun c => h4 c.2.2.2.2.1)]
        · rw [decide_eq_false h3, if_neg (by decide), decide_eq_false (fun c => h3 c.2.2.2.1)]
    · rw [decide_eq_false h1, if_neg (by decide), decide_eq_false (fun c => h1 ⟨c.2.1.1, by have := c.2.1.2; omega⟩)]
  · rw [decide_eq_false h0, if_neg (by decide), decide_eq_false (fun c => h0 ⟨c.1.1, by have := c.1.2; omega⟩)]
theorem l4Leg_eq (x : S45) : spec_l4Leg.f x.f0 x.f1 x.f2 x.f3 x.f4 = some (decide (Good x)) := IsLeg_eq x
def legsB (ls : L) : Bool := decide ((∀ x ∈ ls, Good x) ∧ ls.length ≤ 12)
theorem legsB_all (ls : L) : (if allFrom (fun i => decide (Good (ls.getD i z45))) 0 ls.length = true then some (decide ((ls.length : Int) ≤ 12)) else some false) = some (legsB ls) := by
  rw [allFrom_all ls z45 (fun x => decide (Good x))]
  unfold legsB
  by_cases h : ∀ x ∈ ls, Good x
  · rw [if_pos (by simpa using h)]
    congr 1
    rw [decide_eq_decide]
    exact ⟨fun c => ⟨h, by omega⟩, fun c => by have := c.2; omega⟩
  · rw [if_neg (by simpa using h), decide_eq_false (fun c => h c.1)]
theorem areLegs_ev (ls : L) (hb : ls.length ≤ 140737488351232) : Ev (fun k => impl_areLegs.f k ls) (legsB ls) := by
  obtain ⟨K, hK⟩ := all_ev (fun i => decide (Good (ls.getD i z45))) ls.length hb (fun k i => impl_areLegs.l0 k ls ls (ls.length : Int) i) (some (decide ((ls.length : Int) ≤ 12))) (by
      intro k i hi
      simp only [impl_areLegs.l0]
      rw [if_pos (by omega), if_pos (by omega), if_pos (by omega), IsLeg_eq, Option.bind_some]
      rfl) (by
      intro k
      simp only [impl_areLegs.l0]
      rw [if_neg (by omega)])
  refine ⟨K, fun k hk => ?_⟩
  have := hK k hk
  rw [legsB_all] at this
  exact this
theorem l4Legs_ev (ls : L) (hb : ls.length ≤ 140737488351232) : Ev (fun k => spec_l4Legs.f k ls) (legsB ls) := by
  obtain ⟨K, hK⟩ := all_ev (fun i => decide (Good (ls.getD i z45))) ls.length hb (fun k i => spec_l4Legs.l0 k ls i) (some (decide ((ls.length : Int) ≤ 12))) (by
      intro k i hi
      simp only [spec_l4Legs.l0]
      rw [if_pos (by omega), if_pos (by omega), l4Leg_eq, Option.bind_some]
      rfl) (by
      intro k
      simp only [spec_l4Legs.l0]
      rw [if_neg (by omega)])
  refine ⟨K, fun k hk => ?_⟩
  have := hK k hk
  rw [legsB_all] at this
  exact this
theorem legsB_iff {ls : L} : legsB ls = true ↔ (∀ x ∈ ls, Good x) ∧ ls.length ≤ 12 := by
  unfold legsB; exact decide_eq_true_iff
end Go.Proofs.YtlipaiabjcaeiaaDoor.Net

namespace Go.Proofs.YtlipaiabjcaeiaaDoor.A
open Go Go.RowKit Go.Proofs.YtlipaiabjcaeiaaDoorW.PrintWords Go.Proofs.YtlipaiabjcaeiaaDoorW.PrintLast Go.Proofs.YtlipaiabjcaeiaaDoorW.PrintMore
open Go.Proofs.YtlipaiabjcaeiaaDoor.Net (Sine.Laid shift legShift)
set_option linter.unusedVariables false
def impl_Leg_shift.f (a b c d e : Int) : Option (Int × Int × Int) := if Go.Proofs.YtlipaiabjcaeiaaDoor.Net.Good (⟨a, b, c, d, e⟩ : S45) then some ((shift ⟨a, b, c, d, e⟩).f0, (shift ⟨a, b, c, d, e⟩).f1, (shift ⟨a, b, c, d, e⟩).f2) else none
theorem impl_Leg_shift.calls (a0_0 a0_1 a0_2 a0_3 a0_4 r1 r2 r3 : Int) (w : World) (h : impl_Leg_shift.f a0_0 a0_1 a0_2 a0_3 a0_4 = some (r1, r2, r3)) (hL : Sine.Laid w) :
    Calls Tryd.prog 19 #[.agg #[.int .i64 a0_0, .int .i64 a0_1, .int .i64 a0_2, .int .i64 a0_3, .int .i64 a0_4]] w fun e w' => e = .returned (.agg #[.int .i64 r1, .int .i64 r2, .int .i64 r3]) ∧ Below w.heap.size w w' := by
  unfold impl_Leg_shift.f at h
  by_cases hg : Go.Proofs.YtlipaiabjcaeiaaDoor.Net.Good (⟨a0_0, a0_1, a0_2, a0_3, a0_4⟩ : S45)
  · rw [if_pos hg] at h
    simp only [Option.some.injEq, Prod.mk.injEq] at h
    obtain ⟨rfl, rfl, rfl⟩ := h
    exact legShift ⟨a0_0, a0_1, a0_2, a0_3, a0_4⟩ w hL hg
  · rw [if_neg hg] at h
    cases h
end Go.Proofs.YtlipaiabjcaeiaaDoor.A
