/- One Lean function and its proof for each Go function, written by a program out of the translation. No conditions. -/
import Derived.Deep.RegionHeld3
import Derived.Test.YthplhbcafihacaaDoorKFnExactResidualOf0
import Derived.Test.YthplhbcafihacaaDoorKFnExactResidualOf1
import Derived.Test.YthplhbcafihacaaDoorKFnExactResidualOf2
import Derived.Test.YthplhbcafihacaaDoorKFnExactResidualOf3
import Derived.Test.YthplhbcafihacaaDoorKFnExactResidualOfU1
import Derived.Test.YthplhbcafihacaaDoorKFnExactResidualOfU2
import Derived.Test.YthplhbcafihacaaDoorKFnExactResidualOfU4
import Derived.Test.YthplhbcafihacaaDoorKFnExactResidualOfU5
/- Sums over legs: the matrix of the equations is a grounded Laplacian; its bounds. Plain mathematics. -/
namespace Go.Proofs.YthplhbcafihacaaDoor.Net
open Go.Proofs.YthplhbcafihacaaDoor.Det
set_option linter.unusedVariables false
theorem tot_nil (f : Int → Int) : tot f [] = 0 := rfl
theorem tot_cons (f : Int → Int) (x : Int) (l : List Int) : tot f (x :: l) = f x + tot f l := by unfold tot; simp
theorem tot_le {f g : Int → Int} {l : List Int} (h : ∀ k ∈ l, f k ≤ g k) : tot f l ≤ tot g l := by
  induction l with
  | nil => exact Int.le_refl _
  | cons x l ih =>
    rw [tot_cons, tot_cons]
    have h1 := h x (List.mem_cons_self ..)
    have h2 := ih (fun k hk => h k (List.mem_cons_of_mem _ hk))
    omega
theorem tot_congr {f g : Int → Int} {l : List Int} (h : ∀ k ∈ l, f k = g k) : tot f l = tot g l := by
  induction l with
  | nil => rfl
  | cons x l ih => rw [tot_cons, tot_cons, h x (List.mem_cons_self ..), ih (fun k hk => h k (List.mem_cons_of_mem _ hk))]
theorem tot_add (f g : Int → Int) (l : List Int) : tot (fun k => f k + g k) l = tot f l + tot g l := by
  induction l with
  | nil => rfl
  | cons x l ih => rw [tot_cons, tot_cons, tot_cons, ih]; omega
theorem tot_mul (c : Int) (f : Int → Int) (l : List Int) : tot (fun k => c * f k) l = c * tot f l := by
  induction l with
  | nil => rw [tot_nil, tot_nil, Int.mul_zero]
  | cons x l ih => rw [tot_cons, tot_cons, ih, Int.mul_add]
theorem tot_const (c : Int) (l : List Int) : tot (fun _ => c) l = c * l.length := by
  induction l with
  | nil => rw [tot_nil]; simp
  | cons x l ih => rw [tot_cons, ih, List.length_cons, Int.natCast_add, Int.mul_add]; omega
theorem tot_nonneg {f : Int → Int} {l : List Int} (h : ∀ k ∈ l, 0 ≤ f k) : 0 ≤ tot f l := by
  have := tot_le (f := fun _ => 0) h
  rw [tot_const] at this
  omega
theorem ab_tot (f : Int → Int) (l : List Int) : ab (tot f l) ≤ tot (fun k => ab (f k)) l := by
  induction l with
  | nil => rw [tot_nil, tot_nil]; unfold ab; omega
  | cons x l ih => rw [tot_cons, tot_cons]; unfold ab at *; omega
theorem tot_pos {f : Int → Int} {l : List Int} (h : ∀ k ∈ l, 0 ≤ f k) {k : Int} (hk : k ∈ l) (hp : 0 < f k) : 0 < tot f l := by
  induction l with
  | nil => cases hk
  | cons x l ih =>
    rw [tot_cons]
    have h1 := h x (List.mem_cons_self ..)
    have h2 := tot_nonneg (fun k hk => h k (List.mem_cons_of_mem _ hk))
    rcases List.mem_cons.mp hk with rfl | hk
    · omega
    · have := ih (fun k hk => h k (List.mem_cons_of_mem _ hk)) hk
      omega
theorem sumTo_tot (n : Nat) (F : Int → Nat → Int) (l : List Int) : sumTo n (fun j => tot (fun k => F k j) l) = tot (fun k => sumTo n (F k)) l := by
  induction l with
  | nil => exact sumTo_zero (fun _ _ => rfl)
  | cons x l ih =>
    rw [tot_cons, ← ih, ← sumTo_add]
    exact sumTo_congr (fun j _ => tot_cons _ _ _)
/-- An indicator's sum. -/
theorem sumTo_ind (n : Nat) (c : Int) (hc : c < (n : Int)) (p : Prop) [Decidable p] (v : Int) : sumTo n (fun j => if p ∧ (j : Int) = c then v else 0) = if p ∧ 0 ≤ c then v else 0 := by
  by_cases hp : p ∧ 0 ≤ c
  · obtain ⟨m, rfl⟩ := Int.eq_ofNat_of_zero_le hp.2
    rw [if_pos hp, sumTo_single (j := m) (g := fun _ => 0) (by omega) (fun l _ hl => if_neg (fun e => hl (by omega))) rfl, if_pos ⟨hp.1, rfl⟩, sumTo_zero (fun _ _ => rfl), Int.add_zero]
  · rw [if_neg hp]
    exact sumTo_zero (fun j _ => if_neg (fun e => hp ⟨e.1, by omega⟩))
/-- What a leg adds to a station's degree. -/
def dg (a b : Int) (i : Nat) : Int := (if (i : Int) = a then 1 else 0) + (if (i : Int) = b then 1 else 0)
theorem dg_nonneg (a b : Int) (i : Nat) : 0 ≤ dg a b i := by unfold dg; split <;> split <;> omega
theorem lapD_eq (a b : Int) (i j : Nat) : lapD a b i j = (if (i : Int) = a ∧ (j : Int) = a then 1 else 0) + (if (i : Int) = b ∧ (j : Int) = b then 1 else 0) - (if (i : Int) = a ∧ (j : Int) = b then 1 else 0) - (if (i : Int) = b ∧ (j : Int) = a then 1 else 0) := rfl
theorem lapD_sym (a b : Int) (i j : Nat) : lapD a b i j = lapD a b j i := by
  rw [lapD_eq, lapD_eq]
  by_cases c1 : (i : Int) = a <;> by_cases c2 : (i : Int) = b <;> by_cases c3 : (j : Int) = a <;> by_cases c4 : (j : Int) = b <;> simp only [c1, c2, c3, c4, and_self, and_true, true_and, and_false, false_and, if_true, if_false] <;> omega
theorem lapD_off (a b : Int) {i j : Nat} (h : i ≠ j) : lapD a b i j ≤ 0 := by
  rw [lapD_eq, if_neg (fun e => h (by omega)), if_neg (fun e => h (by omega))]
  split <;> split <;> omega
theorem sum_add3 (n : Nat) (f g h k : Nat → Int) : sumTo n (fun j => f j + g j - h j - k j) = sumTo n f + sumTo n g - sumTo n h - sumTo n k := by
  have e : (fun j => f j + g j - h j - k j) = fun j => (f j + g j) + (-(h j) + -(k j)) := by funext j; omega
  rw [e, sumTo_add, sumTo_add, sumTo_add, sumTo_neg, sumTo_neg]
  omega
theorem lapD_sum (n : Nat) (a b : Int) (ha : a < (n : Int)) (hb : b < (n : Int)) (i : Nat) : sumTo n (fun j => lapD a b i j) = (if (i : Int) = a ∧ b < 0 then 1 else 0) + (if (i : Int) = b ∧ a < 0 then 1 else 0) := by
  have e : sumTo n (fun j => lapD a b i j) = _ := sum_add3 n (fun j => if (i : Int) = a ∧ (j : Int) = a then 1 else 0) (fun j => if (i : Int) = b ∧ (j : Int) = b then 1 else 0) (fun j => if (i : Int) = a ∧ (j : Int) = b then 1 else 0) (fun j => if (i : Int) = b ∧ (j : Int) = a then 1 else 0)
  rw [e, sumTo_ind n a ha, sumTo_ind n b hb, sumTo_ind n b hb, sumTo_ind n a ha]
  by_cases c1 : (i : Int) = a <;> by_cases c2 : (i : Int) = b <;> by_cases c3 : 0 ≤ a <;> by_cases c4 : 0 ≤ b <;> simp [c1, c2, c3, c4] <;> omega
theorem lapD_ab (n : Nat) (a b : Int) (ha : a < (n : Int)) (hb : b < (n : Int)) (i : Nat) : sumTo n (fun j => ab (lapD a b i j)) ≤ 2 * dg a b i := by
  have h : ∀ j, j < n → ab (lapD a b i j) ≤ ((if (i : Int) = a ∧ (j : Int) = a then 1 else 0) + (if (i : Int) = b ∧ (j : Int) = b then 1 else 0)) + ((if (i : Int) = a ∧ (j : Int) = b then 1 else 0) + (if (i : Int) = b ∧ (j : Int) = a then 1 else 0)) := fun j _ => by
    rw [lapD_eq]
    unfold ab
    split <;> split <;> split <;> split <;> omega
  refine Int.le_trans (Det.sumTo_le h) ?_
  rw [sumTo_add, sumTo_add, sumTo_add, sumTo_ind n a ha, sumTo_ind n b hb, sumTo_ind n b hb, sumTo_ind n a ha]
  unfold dg
  split <;> split <;> split <;> split <;> (try split) <;> (try split) <;> omega
theorem rgtD_ab (a b v : Int) (i : Nat) : ab (rgtD a b v i) ≤ ab v * dg a b i := by
  unfold rgtD dg
  by_cases c1 : (i : Int) = a <;> by_cases c2 : (i : Int) = b
  · rw [if_pos c1, if_pos c2, if_pos c1, if_pos c2, Int.sub_self]
    have := ab_nonneg v
    unfold ab at *
    omega
  · rw [if_pos c1, if_neg c2, if_pos c1, if_neg c2]; unfold ab; omega
  · rw [if_neg c1, if_pos c2, if_neg c1, if_pos c2]; unfold ab; omega
  · rw [if_neg c1, if_neg c2, if_neg c1, if_neg c2]; unfold ab; omega
end Go.Proofs.YthplhbcafihacaaDoor.Net

/- The equations of a network: every station has a way to station 0, so the number of trees is positive; bounds. -/

namespace Go.Proofs.YthplhbcafihacaaDoor.Net
open Go.RowKit Go.Proofs.YthplhbcafihacaaDoorW.PrintWords Go.Proofs.YthplhbcafihacaaDoor.Plain
open Go.Proofs.YthplhbcafihacaaDoor.Det
set_option linter.unusedVariables false
set_option linter.unusedSimpArgs false
/-! ### Products -/
def prodN (d : Nat → Nat) : Nat → Nat
  | 0 => 1
  | k + 1 => prodN d k * max (d k) 1
def sumN (d : Nat → Nat) : Nat → Nat
  | 0 => 0
  | k + 1 => sumN d k + d k
theorem prodN_cube (d : Nat → Nat) : ∀ n, prodN d n * prodN d n * prodN d n ≤ 3 ^ sumN d n
  | 0 => by simp [prodN, sumN]
  | n + 1 => by
    have ih := prodN_cube d n
    have h : max (d n) 1 * max (d n) 1 * max (d n) 1 ≤ 3 ^ d n := by
      by_cases c : d n = 0
      · rw [c]; decide
      · rw [Nat.max_eq_left (by omega)]; exact cube_le (d n)
    have e : prodN d (n + 1) * prodN d (n + 1) * prodN d (n + 1) = (prodN d n * prodN d n * prodN d n) * (max (d n) 1 * max (d n) 1 * max (d n) 1) := by
      show prodN d n * max (d n) 1 * (prodN d n * max (d n) 1) * (prodN d n * max (d n) 1) = _
      generalize max (d n) 1 = m
      generalize prodN d n = p
      grind
    rw [e]
    show _ ≤ 3 ^ (sumN d n + d n)
    rw [Nat.pow_add]
    exact Nat.mul_le_mul ih h
theorem prodN_le (d : Nat → Nat) (n : Nat) (h : sumN d n ≤ 24) : prodN d n ≤ 6561 := by
  have h1 := prodN_cube d n
  have h2 : 3 ^ sumN d n ≤ 3 ^ 24 := Nat.pow_le_pow_right (by decide) h
  rcases Nat.lt_or_ge 6561 (prodN d n) with c | c
  · exfalso
    have h3 : 6562 * 6562 * 6562 ≤ prodN d n * prodN d n * prodN d n := Nat.mul_le_mul (Nat.mul_le_mul c c) c
    have h4 : 3 ^ 24 < 6562 * 6562 * 6562 := by decide
    omega
  · exact c
theorem prodTo_two (d : Nat → Int) : ∀ n, prodTo (fun r => 2 * max (d r) 1) n = ((2 ^ n * prodN (fun r => (d r).toNat) n : Nat) : Int)
  | 0 => rfl
  | n + 1 => by
    show prodTo (fun r => 2 * max (d r) 1) n * (2 * max (d n) 1) = _
    rw [prodTo_two d n]
    have e : (2 * max (d n) 1 : Int) = ((2 * max (d n).toNat 1 : Nat) : Int) := by omega
    rw [e, ← Int.natCast_mul]
    congr 1
    show 2 ^ n * prodN _ n * (2 * max (d n).toNat 1) = 2 ^ (n + 1) * (prodN _ n * max (d n).toNat 1)
    rw [Nat.pow_succ]
    generalize max (d n).toNat 1 = m
    generalize prodN (fun r => (d r).toNat) n = p
    grind
theorem sumN_int (d : Nat → Int) : ∀ n, (∀ r, r < n → 0 ≤ d r) → ((sumN (fun r => (d r).toNat) n : Nat) : Int) = sumTo n d
  | 0, _ => rfl
  | n + 1, h => by
    have ih := sumN_int d n (fun r hr => h r (by omega))
    have hn := h n (by omega)
    show ((sumN _ n + (d n).toNat : Nat) : Int) = sumTo n d + d n
    omega
theorem prodT_bound {d : Nat → Int} {n : Nat} (h0 : ∀ r, r < n → 0 ≤ d r) (hs : sumTo n d ≤ 24) (hn : n ≤ 7) : prodTo (fun r => 2 * max (d r) 1) n ≤ 839808 := by
  rw [prodTo_two]
  have h1 := sumN_int d n h0
  have h2 := prodN_le (fun r => (d r).toNat) n (by omega)
  have h3 : 2 ^ n ≤ 2 ^ 7 := Nat.pow_le_pow_right (by decide) hn
  have h4 := Nat.mul_le_mul h3 h2
  have h5 : 2 ^ 7 * 6561 = 839808 := by decide
  omega
theorem prodN_int (d : Nat → Int) : ∀ n, (∀ r, r < n → 0 ≤ d r) → prodTo (fun r => max (d r) 1) n = ((prodN (fun r => (d r).toNat) n : Nat) : Int)
  | 0, _ => rfl
  | n + 1, h => by
    have ih := prodN_int d n (fun r hr => h r (by omega))
    have hn := h n (by omega)
    show prodTo (fun r => max (d r) 1) n * max (d n) 1 = _
    rw [ih, show (max (d n) 1 : Int) = ((max (d n).toNat 1 : Nat) : Int) by omega, ← Int.natCast_mul]
    rfl
/-! ### The network's matrix -/
section
variable {ls : L}
/-- The matrix without wraps, the right sides, the degrees. -/
def LT (ls : L) : Nat → Nat → Int := lapT ls (unkL ls) (usedL ls)
def RT (ls : L) (ax : Int) : Nat → Int := rgtT ls (unkL ls) (usedL ls) ax
def fa (ls : L) (k : Int) : Int := fnd (unkL ls) (leg ls k).f0
def fb (ls : L) (k : Int) : Int := fnd (unkL ls) (leg ls k).f1
def dgT (ls : L) (r : Nat) : Int := tot (fun k => dg (fa ls k) (fb ls k) r) (usedL ls)
theorem LT_eq (ls : L) (i j : Nat) : LT ls i j = tot (fun k => lapD (fa ls k) (fb ls k) i j) (usedL ls) := rfl
theorem RT_eq (ls : L) (ax : Int) (i : Nat) : RT ls ax i = tot (fun k => rgtD (fa ls k) (fb ls k) (meas ls ax k) i) (usedL ls) := rfl
theorem fa_lt (ls : L) (k : Int) : fa ls k < ((unkL ls).length : Int) := (fnd_range _ _).2
theorem fb_lt (ls : L) (k : Int) : fb ls k < ((unkL ls).length : Int) := (fnd_range _ _).2
theorem dgT_nonneg (ls : L) (r : Nat) : 0 ≤ dgT ls r := tot_nonneg (fun _ _ => dg_nonneg _ _ _)
theorem LT_ab (ls : L) (i : Nat) : sumTo (unkL ls).length (fun j => ab (LT ls i j)) ≤ 2 * dgT ls i := by
  refine Int.le_trans (Det.sumTo_le (g := fun j => tot (fun k => ab (lapD (fa ls k) (fb ls k) i j)) (usedL ls)) (fun j _ => ab_tot _ _)) ?_
  rw [sumTo_tot, dgT, ← tot_mul]
  exact tot_le (fun k _ => lapD_ab _ _ _ (fa_lt ls k) (fb_lt ls k) i)
theorem lapD_ab1 (a b : Int) (i j : Nat) : ab (lapD a b i j) ≤ 2 * dg a b i := by
  rw [lapD_eq]
  unfold dg ab
  by_cases c1 : (i : Int) = a <;> by_cases c2 : (i : Int) = b <;> by_cases c3 : (j : Int) = a <;> by_cases c4 : (j : Int) = b <;> simp only [c1, c2, c3, c4, and_self, and_true, true_and, and_false, false_and, if_true, if_false] <;> omega
theorem LT_ab1 (ls : L) (i j : Nat) : ab (LT ls i j) ≤ 2 * dgT ls i := by
  refine Int.le_trans (ab_tot _ _) ?_
  rw [dgT, ← tot_mul]
  exact tot_le (fun k _ => lapD_ab1 _ _ _ _)
theorem RT_ab {ax : Int} (hm : ∀ k ∈ usedL ls, ab (meas ls ax k) ≤ 500) (i : Nat) : ab (RT ls ax i) ≤ 500 * dgT ls i := by
  refine Int.le_trans (ab_tot _ _) ?_
  rw [dgT, ← tot_mul]
  refine tot_le (fun k hk => Int.le_trans (rgtD_ab _ _ _ _) ?_)
  exact Int.mul_le_mul_of_nonneg_right (hm k hk) (dg_nonneg _ _ _)
theorem dg_sum (n : Nat) (a b : Int) (ha : a < (n : Int)) (hb : b < (n : Int)) : sumTo n (fun r => dg a b r) ≤ 2 := by
  have e1 := sumTo_ind n a ha True 1
  have e2 := sumTo_ind n b hb True 1
  simp only [true_and] at e1 e2
  unfold dg
  rw [sumTo_add, e1, e2]
  split <;> split <;> omega
theorem dgT_sum (hn : ls.length ≤ 12) : sumTo (unkL ls).length (dgT ls) ≤ 24 := by
  have e : sumTo (unkL ls).length (dgT ls) = tot (fun k => sumTo (unkL ls).length (fun r => dg (fa ls k) (fb ls k) r)) (usedL ls) := sumTo_tot _ (fun k r => dg (fa ls k) (fb ls k) r) _
  rw [e]
  refine Int.le_trans (tot_le (g := fun _ => 2) (fun k _ => dg_sum _ _ _ (fa_lt ls k) (fb_lt ls k))) ?_
  rw [tot_const]
  have := usedL_len ls
  omega
theorem RT_meas {ax : Int} (hg : ∀ x ∈ ls, Good x) {k : Int} (hk : k ∈ usedL ls) : ab (meas ls ax k) ≤ 500 := by
  have hr := usedL_range ls k hk
  obtain ⟨m, rfl⟩ := Int.eq_ofNat_of_zero_le hr.1
  have hx := leg_good hg m (by omega)
  have h := shift_bound _ hx
  unfold meas onM
  rw [ab_le]
  split
  · exact h.1
  · split
    · exact h.2.1
    · exact h.2.2
/-- The bounds that the elimination wants. -/
theorem LT_bnd (hn : ls.length ≤ 12) (hg : ∀ x ∈ ls, Good x) {A : Nat → Nat → Int} {s : Nat} (h1 : ∀ r, r < (unkL ls).length → ∀ j, j < (unkL ls).length → j ≠ s → A r j = LT ls r j) (h2 : ∀ r, r < (unkL ls).length → ab (A r s) ≤ 500 * dgT ls r) : Bnd (unkL ls).length s 250 839808 A := by
  refine ⟨fun r => 2 * max (dgT ls r) 1, fun r hr => ⟨by show 1 ≤ 2 * max (dgT ls r) 1; omega, ?_, ?_⟩, prodT_bound (fun r _ => dgT_nonneg ls r) (dgT_sum hn) (unkL_len hg)⟩
  · have e : sumTo (unkL ls).length (fun j => if j = s then 0 else ab (A r j)) ≤ sumTo (unkL ls).length (fun j => ab (LT ls r j)) := Det.sumTo_le (fun j hj => by
      by_cases c : j = s
      · rw [if_pos c]; exact ab_nonneg _
      · rw [if_neg c, h1 r hr j hj c]; exact Int.le_refl _)
    have := LT_ab ls r
    show _ ≤ 2 * max (dgT ls r) 1
    omega
  · have := h2 r hr
    show _ ≤ 250 * (2 * max (dgT ls r) 1)
    omega
end
end Go.Proofs.YthplhbcafihacaaDoor.Net

/- The equations of a network: the matrix is a grounded Laplacian; the number of trees is positive and at most 6561; the coordinates solve the equations. -/

namespace Go.Proofs.YthplhbcafihacaaDoor.Net
open Go.RowKit Go.Proofs.YthplhbcafihacaaDoorW.PrintWords Go.Proofs.YthplhbcafihacaaDoor.Plain
open Go.Proofs.YthplhbcafihacaaDoor.Det
set_option linter.unusedVariables false
set_option linter.unusedSimpArgs false
section
variable {ls : L}
theorem LT_rs (ls : L) (i : Nat) : rs (unkL ls).length 0 (LT ls) i = tot (fun k => (if (i : Int) = fa ls k ∧ fb ls k < 0 then 1 else 0) + (if (i : Int) = fb ls k ∧ fa ls k < 0 then 1 else 0)) (usedL ls) := by
  unfold rs
  rw [sumTo_congr (g := fun j => tot (fun k => lapD (fa ls k) (fb ls k) i j) (usedL ls)) (fun j _ => by rw [if_pos (Nat.zero_le j)]; rfl), sumTo_tot]
  exact tot_congr (fun k _ => lapD_sum _ _ _ (fa_lt ls k) (fb_lt ls k) i)
theorem rs_term (a b : Int) (i : Nat) : 0 ≤ (if (i : Int) = a ∧ b < 0 then (1 : Int) else 0) + (if (i : Int) = b ∧ a < 0 then 1 else 0) := by split <;> split <;> omega
/-- Station 0 stands first among the placed ones, and is no unknown. -/
theorem plL_head (hg : ∀ x ∈ ls, Good x) : plL (RR ls) = 0 :: unkL ls := by
  have hp := plL_pos ls
  have ha := asc_plL (RR ls)
  have h0 : (0 : Int) ∈ plL (RR ls) := (mem_plL _ _).mpr (by unfold Tree.verts; simp)
  unfold unkL
  cases hq : plL (RR ls) with
  | nil => rw [hq] at hp; simp at hp
  | cons h t =>
    rw [hq] at ha h0
    have hh : h = 0 := by
      have hr := Grow.in_range (ends ls) (RR_ok hg).1 (Good.range hg) h ((mem_plL _ _).mp (by rw [hq]; exact List.mem_cons_self ..))
      rcases List.mem_cons.mp h0 with e | e
      · exact e.symm
      · have := (List.pairwise_cons.mp ha).1 0 e
        omega
    rw [hh]
    rfl
theorem unk_iff (hg : ∀ x ∈ ls, Good x) (s : Int) : s ∈ unkL ls ↔ s ∈ Tree.verts 0 (RR ls) ∧ s ≠ 0 := by
  have ha := asc_plL (RR ls)
  have hm := mem_plL (RR ls) s
  rw [plL_head hg] at ha hm
  have h0 : ∀ x ∈ unkL ls, 0 < x := fun x hx => (List.pairwise_cons.mp ha).1 x hx
  rw [← hm, List.mem_cons]
  constructor
  · intro h
    exact ⟨Or.inr h, by have := h0 s h; omega⟩
  · rintro ⟨h | h, hn⟩
    · exact absurd h hn
    · exact h
theorem fnd_pos {un : List Int} {s : Int} (h : s ∈ un) : fnd un s = (un.idxOf s : Int) ∧ un.idxOf s < un.length := ⟨by unfold fnd; rw [if_pos h], List.idxOf_lt_length_iff.mpr h⟩
theorem fnd_neg {un : List Int} {s : Int} (h : s ∉ un) : fnd un s = -1 := by unfold fnd; rw [if_neg h]
theorem idx_inj {un : List Int} {s t : Int} (hs : s ∈ un) (ht : t ∈ un) (e : un.idxOf s = un.idxOf t) : s = t := by
  have h1 : un[un.idxOf s]'(List.idxOf_lt_length_iff.mpr hs) = s := List.getElem_idxOf _
  have h2 : un[un.idxOf t]'(List.idxOf_lt_length_iff.mpr ht) = t := List.getElem_idxOf _
  rw [← h1, ← h2]
  congr 1
/-- The legs of the growth are placed legs. -/
theorem used_of (hg : ∀ x ∈ ls, Good x) {x : Int × Int × Int} (hx : x ∈ RR ls) : x.1 ∈ usedL ls ∧ ((ends ls x.1 = (x.2.1, x.2.2)) ∨ ends ls x.1 = (x.2.2, x.2.1)) := by
  have ho := (RR_ok hg).1
  obtain ⟨he, h0, hn⟩ := ho.ends x hx
  obtain ⟨k, hk⟩ := Int.eq_ofNat_of_zero_le h0
  refine ⟨?_, he⟩
  have hl := ho.legs_ends (ends ls) (i := x.1) (List.mem_map.mpr ⟨x, hx, rfl⟩)
  refine (mem_selTo _ _ _).mpr ⟨k, hk, by omega, ?_⟩
  have hf : (leg ls (k : Int)).f0 ∈ Tree.verts 0 (RR ls) := by have := hl.1; rw [hk] at this; exact this
  have hgood := leg_good hg k (by omega)
  rw [Pq_eq, Int.toNat_of_nonneg hgood.1.1]
  exact decide_eq_true ((mem_plL _ _).mpr hf)
theorem LT_neg (hg : ∀ x ∈ ls, Good x) {k : Int} (hk : k ∈ usedL ls) {i j : Nat} (hij : i ≠ j) (h : (fa ls k = (i : Int) ∧ fb ls k = (j : Int)) ∨ (fa ls k = (j : Int) ∧ fb ls k = (i : Int))) : LT ls i j < 0 := by
  have hp := tot_pos (f := fun k => -(lapD (fa ls k) (fb ls k) i j)) (l := usedL ls) (fun k _ => by have := lapD_off (fa ls k) (fb ls k) hij; omega) hk (by
    show 0 < -(lapD (fa ls k) (fb ls k) i j)
    rw [lapD_eq]
    rcases h with ⟨h1, h2⟩ | ⟨h1, h2⟩ <;> rw [h1, h2]
    · rw [if_neg (by omega), if_neg (by omega), if_pos ⟨rfl, rfl⟩, if_neg (by omega)]; omega
    · rw [if_neg (by omega), if_neg (by omega), if_neg (by omega), if_pos ⟨rfl, rfl⟩]; omega)
  have e : tot (fun k => -(lapD (fa ls k) (fb ls k) i j)) (usedL ls) = - LT ls i j := by
    rw [LT_eq]
    have := tot_mul (-1) (fun k => lapD (fa ls k) (fb ls k) i j) (usedL ls)
    rw [show (fun k => -(lapD (fa ls k) (fb ls k) i j)) = fun k => -1 * lapD (fa ls k) (fb ls k) i j from by funext k; omega, this]
    omega
  omega
theorem LT_reach (hg : ∀ x ∈ ls, Good x) : ∀ (q : Grow.Q), (∀ x ∈ q, x ∈ RR ls) → Tree.Tr (0 : Int) q → ∀ s, s ∈ Tree.verts 0 q → s ≠ 0 → s ∈ Tree.verts 0 (RR ls) → Det.Reach (unkL ls).length 0 (LT ls) ((unkL ls).idxOf s)
  | [], _, _, s, hs, hn, _ => by simp [Tree.verts] at hs; exact absurd hs hn
  | (k, u, t) :: q, hsub, htr, s, hs, hn, hR => by
    have hq : ∀ x ∈ q, x ∈ RR ls := fun x hx => hsub x (List.mem_cons_of_mem _ hx)
    cases htr with
    | cons h1 h2 h3 h4 =>
      by_cases c : s = t
      · subst c
        obtain ⟨hk, he⟩ := used_of hg (hsub _ (List.mem_cons_self ..))
        simp only at hk he
        have hsu : s ∈ unkL ls := (unk_iff hg s).mpr ⟨hR, hn⟩
        obtain ⟨f1, f2⟩ := fnd_pos hsu
        by_cases hu : u = 0
        · subst hu
          have h0 : fnd (unkL ls) 0 = -1 := fnd_neg (fun e => ((unk_iff hg 0).mp e).2 rfl)
          refine .ground _ ?_
          rw [LT_rs]
          refine tot_pos (fun k _ => rs_term _ _ _) hk ?_
          unfold fa fb
          rcases he with he | he
          · have e1 : (leg ls k).f0 = 0 := congrArg Prod.fst he
            have e2 : (leg ls k).f1 = s := congrArg Prod.snd he
            rw [e1, e2, h0, f1]
            rw [if_neg (by omega), if_pos (by omega)]; omega
          · have e1 : (leg ls k).f0 = s := congrArg Prod.fst he
            have e2 : (leg ls k).f1 = 0 := congrArg Prod.snd he
            rw [e1, e2, h0, f1]
            rw [if_pos (by omega), if_neg (by omega)]; omega
        · have huR : u ∈ Tree.verts 0 (RR ls) := by
            have hl := (RR_ok hg).1.legs_ends (ends ls) (i := k) (List.mem_map.mpr ⟨_, hsub _ (List.mem_cons_self ..), rfl⟩)
            rcases he with he | he
            · have := hl.1; rw [he] at this; exact this
            · have := hl.2.1; rw [he] at this; exact this
          have ih := LT_reach hg q hq h1 u h2 hu huR
          have huu : u ∈ unkL ls := (unk_iff hg u).mpr ⟨huR, hu⟩
          obtain ⟨g1, g2⟩ := fnd_pos huu
          have hne : (unkL ls).idxOf u ≠ (unkL ls).idxOf s := fun e => h3 (by rw [← idx_inj huu hsu e]; exact h2)
          refine .step _ _ (Nat.zero_le _) g2 hne (LT_neg hg hk (fun e => hne e.symm) ?_) ih
          unfold fa fb
          rcases he with he | he
          · have e1 : (leg ls k).f0 = u := congrArg Prod.fst he
            have e2 : (leg ls k).f1 = s := congrArg Prod.snd he
            rw [e1, e2]
            exact Or.inr ⟨g1, f1⟩
          · have e1 : (leg ls k).f0 = s := congrArg Prod.fst he
            have e2 : (leg ls k).f1 = u := congrArg Prod.snd he
            rw [e1, e2]
            exact Or.inl ⟨f1, g1⟩
      · have hs' : s ∈ Tree.verts 0 q := by
          simp only [Tree.verts, List.map_cons, List.mem_cons] at hs ⊢
          rcases hs with h | h | h
          · exact Or.inl h
          · exact absurd h c
          · exact Or.inr h
        exact LT_reach hg q hq h1 s hs' hn hR
theorem LT_good (hg : ∀ x ∈ ls, Good x) : Det.Good (unkL ls).length 0 (LT ls) := by
  refine ⟨fun i j _ _ _ _ => tot_congr (fun k _ => lapD_sym _ _ _ _), fun i j _ _ _ _ hij => ?_, fun i _ _ => ?_, fun i _ hi => ?_⟩
  · have := tot_le (f := fun k => lapD (fa ls k) (fb ls k) i j) (g := fun _ => 0) (l := usedL ls) (fun k _ => lapD_off _ _ hij)
    rw [tot_const] at this
    rw [LT_eq]; omega
  · rw [LT_rs]
    exact tot_nonneg (fun k _ => rs_term _ _ _)
  · have hm : (unkL ls)[i] ∈ unkL ls := List.getElem_mem hi
    have hu := (unk_iff hg _).mp hm
    have h := LT_reach hg (RR ls) (fun _ h => h) (RR_ok hg).1.tr _ hu.1 hu.2 hu.1
    have hx : (unkL ls).idxOf (unkL ls)[i] = i := by
      have ha := asc_plL (RR ls)
      rw [plL_head hg] at ha
      have hnd : (unkL ls).Nodup := (List.pairwise_cons.mp ha).2.imp (fun h => by omega)
      exact hnd.idxOf_getElem i hi
    rw [hx] at h
    exact h
/-! ### The number of trees -/
def TB : Int := 1470503808
theorem tb_ok : 2 * (TB * TB) ≤ 9223372036854775807 := by unfold TB; decide
theorem bnd_le {n : Nat} (hn : n ≤ 7) : ((n : Int) * 250 + 1) * 839808 ≤ TB := by unfold TB; omega
theorem dgT_small (hn : ls.length ≤ 12) (r : Nat) : dgT ls r ≤ 24 := by
  refine Int.le_trans (tot_le (g := fun _ => 2) (fun k _ => by unfold dg; split <;> split <;> omega)) ?_
  rw [tot_const]
  have := usedL_len ls
  omega
theorem LT_wrap (hn : ls.length ≤ 12) (i j : Nat) : wrap64 (LT ls i j) = LT ls i j := by
  refine Elim.w_id ?_
  have h1 := LT_ab1 ls i j
  have h2 := dgT_small hn i
  omega
theorem RT_wrap (hn : ls.length ≤ 12) (hg : ∀ x ∈ ls, Good x) (ax : Int) (i : Nat) : wrap64 (RT ls ax i) = RT ls ax i := by
  refine Elim.w_id ?_
  have h1 := RT_ab (ax := ax) (fun k hk => RT_meas (ax := ax) hg hk) i
  have h2 := dgT_small hn i
  omega
theorem trees_F (hn : ls.length ≤ 12) (hg : ∀ x ∈ ls, Good x) : treesM ls = P (unkL ls).length (LT ls) (unkL ls).length := by
  have hb : Bnd (unkL ls).length (unkL ls).length 250 839808 (LT ls) := LT_bnd hn hg (fun _ _ _ _ _ => rfl) (fun r hr => by have := LT_ab1 ls r (unkL ls).length; have := dgT_nonneg ls r; omega)
  have h := Elim.det_F (by decide) (bnd_le (unkL_len hg)) tb_ok (by unfold TB; decide) (LT ls) hb
  rw [← show F (unkL ls).length (LT ls) (unkL ls).length (low (unkL ls).length) = P (unkL ls).length (LT ls) (unkL ls).length from rfl, ← h]
  exact Elim.det_same (n := (unkL ls).length) _ 0 1 1 _ _ (by omega) (fun p q _ hp _ hq => by
    unfold matM
    rw [if_neg (by omega)]
    exact LT_wrap hn p q)
theorem trees_pos (hn : ls.length ≤ 12) (hg : ∀ x ∈ ls, Good x) : 1 ≤ treesM ls := by
  rw [trees_F hn hg]
  exact (lap_stages (LT_good hg) _ (Nat.le_refl _)).1 _ (Nat.le_refl _)
theorem diag_prod (ls : L) : ∀ n, diagProd (LT ls) n ≤ prodTo (fun r => max (dgT ls r) 1) n ∧ 0 ≤ diagProd (LT ls) n
  | 0 => ⟨Int.le_refl _, by unfold diagProd; decide⟩
  | n + 1 => by
    obtain ⟨h1, h2⟩ := diag_prod ls n
    have h3 : LT ls n n ≤ dgT ls n := by
      rw [LT_eq]
      refine tot_le (fun k _ => ?_)
      rw [lapD_eq]; unfold dg
      by_cases c1 : (n : Int) = fa ls k <;> by_cases c2 : (n : Int) = fb ls k <;> simp only [c1, c2, and_self, and_true, true_and, and_false, false_and, if_true, if_false] <;> omega
    have h4 : 0 ≤ LT ls n n := by
      rw [LT_eq]
      refine tot_nonneg (fun k _ => ?_)
      rw [lapD_eq]
      by_cases c1 : (n : Int) = fa ls k <;> by_cases c2 : (n : Int) = fb ls k <;> simp only [c1, c2, and_self, and_true, true_and, and_false, false_and, if_true, if_false] <;> omega
    have h0 := dgT_nonneg ls n
    refine ⟨?_, Int.mul_nonneg h2 h4⟩
    exact Int.mul_le_mul h1 (by show LT ls n n ≤ max (dgT ls n) 1; omega) h4 (Int.le_trans h2 h1)
theorem trees_le (hn : ls.length ≤ 12) (hg : ∀ x ∈ ls, Good x) : treesM ls ≤ 6561 := by
  rw [trees_F hn hg]
  refine Int.le_trans (lap_det_le (LT_good hg) _ (Nat.le_refl _)) (Int.le_trans (diag_prod ls _).1 ?_)
  rw [prodN_int _ _ (fun r _ => dgT_nonneg ls r)]
  have h1 := sumN_int (dgT ls) (unkL ls).length (fun r _ => dgT_nonneg ls r)
  have h2 := dgT_sum hn
  have h3 := prodN_le (fun r => (dgT ls r).toNat) (unkL ls).length (by omega)
  omega
/-! ### The coordinates -/
theorem co_F (hn : ls.length ≤ 12) (hg : ∀ x ∈ ls, Good x) (ax : Int) (i : Nat) (hi : i < (unkL ls).length) : coM ls ax i = F (unkL ls).length (setc (LT ls) i (RT ls ax)) (unkL ls).length (low (unkL ls).length) := by
  have hb : Bnd (unkL ls).length i 250 839808 (setc (LT ls) i (RT ls ax)) := LT_bnd hn hg (fun r _ j _ hj => setc_ne _ _ _ _ _ hj) (fun r hr => by rw [setc_at]; exact RT_ab (fun k hk => RT_meas hg hk) r)
  have h := Elim.det_F (by decide) (bnd_le (unkL_len hg)) tb_ok (by unfold TB; decide) _ hb
  rw [← h]
  exact Elim.det_same (n := (unkL ls).length) _ 0 1 1 _ _ (by omega) (fun p q _ hp _ hq => by
    unfold matM setc
    by_cases c : q = i
    · rw [if_pos c, if_pos (by omega)]; exact RT_wrap hn hg ax p
    · rw [if_neg c, if_neg (by omega)]; exact LT_wrap hn p q)
theorem co_bound (hn : ls.length ≤ 12) (hg : ∀ x ∈ ls, Good x) (ax : Int) (i : Nat) (hi : i < (unkL ls).length) : ab (coM ls ax i) ≤ TB := by
  have hb : Bnd (unkL ls).length i 250 839808 (setc (LT ls) i (RT ls ax)) := LT_bnd hn hg (fun r _ j _ hj => setc_ne _ _ _ _ _ hj) (fun r hr => by rw [setc_at]; exact RT_ab (fun k hk => RT_meas hg hk) r)
  rw [co_F hn hg ax i hi]
  obtain ⟨m, hm⟩ : ∃ m, (unkL ls).length = m + 1 := ⟨(unkL ls).length - 1, by omega⟩
  have e : F (unkL ls).length (setc (LT ls) i (RT ls ax)) (unkL ls).length (low (unkL ls).length) = R (unkL ls).length (setc (LT ls) i (RT ls ax)) m m m := by
    rw [← P_succ, ← hm]; rfl
  rw [e]
  exact Int.le_trans (R_bound (by decide) hb (Nat.le_refl m) (by omega)) (bnd_le (unkL_len hg))
/-- THE COORDINATES SOLVE THE EQUATIONS. -/
theorem co_solve (hn : ls.length ≤ 12) (hg : ∀ x ∈ ls, Good x) (ax : Int) (r : Nat) (hr : r < (unkL ls).length) : sumTo (unkL ls).length (fun j => LT ls r j * coM ls ax j) = treesM ls * RT ls ax r := by
  rw [trees_F hn hg]
  rw [sumTo_congr (fun j hj => by rw [co_F hn hg ax j hj])]
  exact cramer (unkL ls).length (LT ls) (RT ls ax) r hr
end
end Go.Proofs.YthplhbcafihacaaDoor.Net

/- The residuals of a network: the equations in balance; the sum of their squares. -/

namespace Go.Proofs.YthplhbcafihacaaDoor.Net
open Go.RowKit Go.Proofs.YthplhbcafihacaaDoorW.PrintWords Go.Proofs.YthplhbcafihacaaDoor.Plain
open Go.Proofs.YthplhbcafihacaaDoor.Det
set_option linter.unusedVariables false
set_option linter.unusedSimpArgs false
section
variable {ls : L}
/-- The value at an index that may be -1. -/
def vAt (x : Nat → Int) (a : Int) : Int := if 0 ≤ a then x a.toNat else 0
theorem sumTo_indv (n : Nat) (x : Nat → Int) (c : Int) (hc : c < (n : Int)) (p : Prop) [Decidable p] : sumTo n (fun j => (if p ∧ (j : Int) = c then 1 else 0) * x j) = if p then vAt x c else 0 := by
  unfold vAt
  by_cases hp : p ∧ 0 ≤ c
  · obtain ⟨m, rfl⟩ := Int.eq_ofNat_of_zero_le hp.2
    rw [if_pos hp.1, if_pos hp.2, sumTo_single (j := m) (g := fun _ => 0) (by omega) (fun l _ hl => by rw [if_neg (fun e => hl (by omega)), Int.zero_mul]) rfl, if_pos ⟨hp.1, rfl⟩, sumTo_zero (fun _ _ => rfl), Int.add_zero, Int.one_mul, Int.toNat_natCast]
  · rw [sumTo_zero (fun j _ => by rw [if_neg (fun e => hp ⟨e.1, by omega⟩), Int.zero_mul])]
    by_cases c1 : p
    · rw [if_pos c1, if_neg (fun e => hp ⟨c1, e⟩)]
    · rw [if_neg c1]
theorem lapD_mul (n : Nat) (x : Nat → Int) (a b : Int) (ha : a < (n : Int)) (hb : b < (n : Int)) (i : Nat) : sumTo n (fun j => lapD a b i j * x j) = rgtD a b (vAt x b - vAt x a) i := by
  have e : (fun j : Nat => lapD a b i j * x j) = fun j : Nat => (if (i : Int) = a ∧ (j : Int) = a then 1 else 0) * x j + (if (i : Int) = b ∧ (j : Int) = b then 1 else 0) * x j - (if (i : Int) = a ∧ (j : Int) = b then 1 else 0) * x j - (if (i : Int) = b ∧ (j : Int) = a then 1 else 0) * x j := by
    funext j
    rw [lapD_eq, Int.sub_mul, Int.sub_mul, Int.add_mul]
  rw [e, sum_add3, sumTo_indv n x a ha, sumTo_indv n x b hb, sumTo_indv n x b hb, sumTo_indv n x a ha]
  unfold rgtD
  split <;> split <;> omega
theorem rgtD_mul (n : Nat) (x : Nat → Int) (a b v : Int) (ha : a < (n : Int)) (hb : b < (n : Int)) : sumTo n (fun r => x r * rgtD a b v r) = v * (vAt x b - vAt x a) := by
  have e1 := sumTo_indv n x a ha True
  have e2 := sumTo_indv n x b hb True
  simp only [true_and, if_true] at e1 e2
  have e : (fun r : Nat => x r * rgtD a b v r) = fun r : Nat => v * ((if (r : Int) = b then 1 else 0) * x r) + (-v) * ((if (r : Int) = a then 1 else 0) * x r) := by
    funext r
    unfold rgtD
    by_cases c1 : (r : Int) = b <;> by_cases c2 : (r : Int) = a <;> simp only [c1, c2, if_true, if_false] <;> grind
  rw [e, sumTo_add, sumTo_mul, sumTo_mul, e1, e2]
  grind
theorem rgtD_lin (a b u v : Int) (r : Nat) : rgtD a b (u - v) r = rgtD a b u r - rgtD a b v r := by unfold rgtD; split <;> split <;> omega
theorem rgtD_scale (a b c v : Int) (r : Nat) : rgtD a b (c * v) r = c * rgtD a b v r := by
  unfold rgtD
  by_cases c1 : (r : Int) = b <;> by_cases c2 : (r : Int) = a <;> simp only [c1, c2, if_true, if_false] <;> grind
/-- The coordinate of an end of a leg; the residual of a leg times the number of trees. -/
def dT (ls : L) (ax k : Int) : Int := vAt (coM ls ax) (fb ls k) - vAt (coM ls ax) (fa ls k)
def nT (ls : L) (ax k : Int) : Int := treesM ls * meas ls ax k - dT ls ax k
/-- The residuals are in balance at every unknown station. -/
theorem balance (hn : ls.length ≤ 12) (hg : ∀ x ∈ ls, Good x) (ax : Int) (r : Nat) (hr : r < (unkL ls).length) : tot (fun k => rgtD (fa ls k) (fb ls k) (nT ls ax k) r) (usedL ls) = 0 := by
  have h := co_solve hn hg ax r hr
  have e1 : sumTo (unkL ls).length (fun j => LT ls r j * coM ls ax j) = tot (fun k => rgtD (fa ls k) (fb ls k) (dT ls ax k) r) (usedL ls) := by
    have e2 : ∀ j, LT ls r j * coM ls ax j = tot (fun k => lapD (fa ls k) (fb ls k) r j * coM ls ax j) (usedL ls) := fun j => by
      rw [Int.mul_comm, LT_eq, ← tot_mul]
      exact tot_congr (fun k _ => Int.mul_comm _ _)
    rw [sumTo_congr (fun j _ => e2 j), sumTo_tot]
    exact tot_congr (fun k _ => lapD_mul _ _ _ _ (fa_lt ls k) (fb_lt ls k) r)
  have e3 : treesM ls * RT ls ax r = tot (fun k => rgtD (fa ls k) (fb ls k) (treesM ls * meas ls ax k) r) (usedL ls) := by
    rw [RT_eq, ← tot_mul]
    exact tot_congr (fun k _ => (rgtD_scale _ _ _ _ _).symm)
  have e4 : tot (fun k => rgtD (fa ls k) (fb ls k) (nT ls ax k) r) (usedL ls) = tot (fun k => rgtD (fa ls k) (fb ls k) (treesM ls * meas ls ax k) r) (usedL ls) + (-1) * tot (fun k => rgtD (fa ls k) (fb ls k) (dT ls ax k) r) (usedL ls) := by
    rw [← tot_mul, ← tot_add]
    exact tot_congr (fun k _ => by unfold nT; rw [rgtD_lin]; omega)
  rw [e4, ← e3, ← e1, h]
  omega
theorem orth (hn : ls.length ≤ 12) (hg : ∀ x ∈ ls, Good x) (ax : Int) : tot (fun k => nT ls ax k * dT ls ax k) (usedL ls) = 0 := by
  have e : tot (fun k => nT ls ax k * dT ls ax k) (usedL ls) = sumTo (unkL ls).length (fun r => tot (fun k => coM ls ax r * rgtD (fa ls k) (fb ls k) (nT ls ax k) r) (usedL ls)) := by
    rw [sumTo_tot]
    exact tot_congr (fun k _ => (rgtD_mul _ _ _ _ _ (fa_lt ls k) (fb_lt ls k)).symm)
  rw [e]
  refine sumTo_zero (fun r hr => ?_)
  rw [tot_mul, balance hn hg ax r hr, Int.mul_zero]
/-- The sum of the squares is the number of trees times the sum of residual times measure. -/
theorem sq_sum (hn : ls.length ≤ 12) (hg : ∀ x ∈ ls, Good x) (ax : Int) : tot (fun k => nT ls ax k * nT ls ax k) (usedL ls) = treesM ls * tot (fun k => nT ls ax k * meas ls ax k) (usedL ls) := by
  have h := orth hn hg ax
  have e : tot (fun k => nT ls ax k * nT ls ax k) (usedL ls) = tot (fun k => treesM ls * (nT ls ax k * meas ls ax k)) (usedL ls) + (-1) * tot (fun k => nT ls ax k * dT ls ax k) (usedL ls) := by
    rw [← tot_mul, ← tot_add]
    exact tot_congr (fun k _ => by
      have e2 : nT ls ax k = treesM ls * meas ls ax k - dT ls ax k := rfl
      generalize nT ls ax k = n at *
      grind)
  rw [e, tot_mul, h]
  omega
theorem sq_nonneg (x : Int) : 0 ≤ x * x := by
  rcases Int.le_total 0 x with h | h
  · exact Int.mul_nonneg h h
  · exact Int.mul_nonneg_of_nonpos_of_nonpos h h
/-- The residuals are no greater than the measures. -/
theorem sq_le (hn : ls.length ≤ 12) (hg : ∀ x ∈ ls, Good x) (ax : Int) : tot (fun k => nT ls ax k * nT ls ax k) (usedL ls) ≤ treesM ls * treesM ls * tot (fun k => meas ls ax k * meas ls ax k) (usedL ls) := by
  have h := sq_sum hn hg ax
  have hp := tot_nonneg (f := fun k => (treesM ls * meas ls ax k - nT ls ax k) * (treesM ls * meas ls ax k - nT ls ax k)) (l := usedL ls) (fun k _ => sq_nonneg _)
  have e : tot (fun k => (treesM ls * meas ls ax k - nT ls ax k) * (treesM ls * meas ls ax k - nT ls ax k)) (usedL ls) = treesM ls * treesM ls * tot (fun k => meas ls ax k * meas ls ax k) (usedL ls) + ((-2 * treesM ls) * tot (fun k => nT ls ax k * meas ls ax k) (usedL ls) + tot (fun k => nT ls ax k * nT ls ax k) (usedL ls)) := by
    rw [← tot_mul, ← tot_mul, ← tot_add, ← tot_add]
    exact tot_congr (fun k _ => by grind)
  rw [e] at hp
  have e2 : (-2 * treesM ls) * tot (fun k => nT ls ax k * meas ls ax k) (usedL ls) = -2 * tot (fun k => nT ls ax k * nT ls ax k) (usedL ls) := by rw [h, Int.mul_assoc]
  omega
theorem tot_one {f : Int → Int} {l : List Int} (h : ∀ k ∈ l, 0 ≤ f k) {k : Int} (hk : k ∈ l) : f k ≤ tot f l := by
  induction l with
  | nil => cases hk
  | cons x l ih =>
    rw [tot_cons]
    have h1 := h x (List.mem_cons_self ..)
    have h2 := tot_nonneg (fun k hk => h k (List.mem_cons_of_mem _ hk))
    rcases List.mem_cons.mp hk with rfl | hk
    · omega
    · have := ih (fun k hk => h k (List.mem_cons_of_mem _ hk)) hk
      omega
theorem meas_sq (hn : ls.length ≤ 12) (hg : ∀ x ∈ ls, Good x) (ax : Int) : tot (fun k => meas ls ax k * meas ls ax k) (usedL ls) ≤ 3000000 := by
  refine Int.le_trans (tot_le (g := fun _ => 250000) (fun k hk => ?_)) ?_
  · have h := RT_meas (ax := ax) hg hk
    have h2 := Elim.mul_le_sq (B := 500) (by decide) h h
    have h3 : meas ls ax k * meas ls ax k ≤ ab (meas ls ax k * meas ls ax k) := by unfold ab; omega
    omega
  · rw [tot_const]
    have := usedL_len ls
    omega
/-- Sums of squares: at most 6561^2 * 3000000. -/
theorem sq_bound (hn : ls.length ≤ 12) (hg : ∀ x ∈ ls, Good x) (ax : Int) : tot (fun k => nT ls ax k * nT ls ax k) (usedL ls) ≤ 129140163000000 := by
  have h1 := sq_le hn hg ax
  have h2 := meas_sq hn hg ax
  have h3 := trees_pos hn hg
  have h4 := trees_le hn hg
  have h5 : treesM ls * treesM ls ≤ 6561 * 6561 := Int.mul_le_mul h4 h4 (by omega) (by decide)
  have h6 := tot_nonneg (f := fun k => meas ls ax k * meas ls ax k) (l := usedL ls) (fun k _ => sq_nonneg _)
  have h7 : treesM ls * treesM ls * tot (fun k => meas ls ax k * meas ls ax k) (usedL ls) ≤ 6561 * 6561 * 3000000 := Int.mul_le_mul h5 h2 h6 (by decide)
  have h8 : (6561 * 6561 * 3000000 : Int) = 129140163000000 := by decide
  omega
theorem nT_bound (hn : ls.length ≤ 12) (hg : ∀ x ∈ ls, Good x) (ax : Int) {k : Int} (hk : k ∈ usedL ls) : ab (nT ls ax k) ≤ 11400000 := by
  have h1 := sq_bound hn hg ax
  have h2 := tot_one (f := fun k => nT ls ax k * nT ls ax k) (l := usedL ls) (fun k _ => sq_nonneg _) hk
  have e : nT ls ax k * nT ls ax k = ab (nT ls ax k) * ab (nT ls ax k) := by
    unfold ab
    rcases Int.le_total 0 (nT ls ax k) with h | h
    · rw [Int.natAbs_of_nonneg h]
    · rw [show ((nT ls ax k).natAbs : Int) = -(nT ls ax k) by omega, Int.neg_mul_neg]
  rcases Int.lt_or_le 11400000 (ab (nT ls ax k)) with c | c
  · exfalso
    have h3 : (11400000 : Int) * 11400000 ≤ ab (nT ls ax k) * ab (nT ls ax k) := Int.mul_le_mul (Int.le_of_lt c) (Int.le_of_lt c) (by decide) (ab_nonneg _)
    have h4 : (11400000 : Int) * 11400000 = 129960000000000 := by decide
    omega
  · exact c
end
end Go.Proofs.YthplhbcafihacaaDoor.Net

/- Fractions in lowest terms: they are what they are by their value alone; Euclid's steps; the comparison by Euclid's steps. Plain mathematics. -/

namespace Go.Proofs.YthplhbcafihacaaDoor.Frac
set_option linter.unusedVariables false
/-- n / d is N / T in lowest terms. -/
def Red (n d N T : Int) : Prop := 0 < d ∧ Int.gcd n d = 1 ∧ n * T = N * d
theorem Red.dvd {n d n' d' : Int} (h1 : Int.gcd n d = 1) (e : n * d' = n' * d) : d ∣ d' := by
  have hd : d ∣ n * d' := ⟨n', by rw [e, Int.mul_comm]⟩
  have h2 : d.natAbs ∣ n.natAbs * d'.natAbs := by rw [← Int.natAbs_mul]; exact Int.natAbs_dvd_natAbs.mpr hd
  exact Int.natAbs_dvd_natAbs.mp (Nat.Coprime.dvd_of_dvd_mul_left (show Nat.gcd d.natAbs n.natAbs = 1 by rw [Nat.gcd_comm]; exact h1) h2)
theorem Red.unique {n d n' d' N T : Int} (hT : 0 < T) (h : Red n d N T) (h' : Red n' d' N T) : n = n' ∧ d = d' := by
  obtain ⟨p1, p2, p3⟩ := h
  obtain ⟨q1, q2, q3⟩ := h'
  have e : n * d' = n' * d := by
    have e1 : T * (n * d') = T * (n' * d) := by
      have a : n * T * d' = n' * T * d := by rw [p3, q3, Int.mul_assoc, Int.mul_assoc, Int.mul_comm d]
      grind
    exact Int.eq_of_mul_eq_mul_left (by omega) e1
  have h1 := Red.dvd p2 e
  have h2 := Red.dvd q2 e.symm
  have hd : d = d' := Int.dvd_antisymm (by omega) (by omega) h1 h2
  subst hd
  exact ⟨Int.eq_of_mul_eq_mul_right (by omega) e, rfl⟩
theorem tdiv_exact {a g : Int} (hg : g ≠ 0) (h : g ∣ a) : a.tdiv g * g = a := Int.tdiv_mul_cancel h
theorem Red.of_div {N D : Int} (hD : 0 < D) : Red (N.tdiv (Int.gcd N D)) (D.tdiv (Int.gcd N D)) N D := by
  have hg : 0 < (Int.gcd N D : Int) := by
    have := Int.gcd_pos_of_ne_zero_right N (show D ≠ 0 by omega)
    omega
  have h1 := tdiv_exact (a := N) (g := Int.gcd N D) (by omega) (Int.gcd_dvd_left ..)
  have h2 := tdiv_exact (a := D) (g := Int.gcd N D) (by omega) (Int.gcd_dvd_right ..)
  generalize hn : N.tdiv (Int.gcd N D) = n at *
  generalize hd : D.tdiv (Int.gcd N D) = d at *
  generalize hgg : Int.gcd N D = g at *
  have hdp : 0 < d := by
    rcases Int.lt_or_le 0 d with c | c
    · exact c
    · exfalso
      have := Int.mul_le_mul_of_nonneg_right c (Int.le_of_lt hg)
      omega
  refine ⟨hdp, ?_, ?_⟩
  · have e : Int.gcd (n * g) (d * g) = g := by rw [h1, h2, hgg]
    rw [Int.gcd_mul_right] at e
    simp only [Int.natAbs_natCast] at e
    have hgn : 0 < g := by omega
    exact Nat.eq_of_mul_eq_mul_right hgn (by rw [e, Nat.one_mul])
  · rw [← h1, ← h2]
    generalize (g : Int) = z
    grind
/-- The same value with another pair. -/
theorem Red.change {n d x y N T : Int} (hy : 0 < y) (h : Red n d x y) (e : x * T = N * y) : Red n d N T := by
  obtain ⟨p1, p2, p3⟩ := h
  refine ⟨p1, p2, ?_⟩
  have e1 : y * (n * T) = y * (N * d) := by
    have a : n * y * T = x * d * T := by rw [p3]
    have b : x * T * d = N * y * d := by rw [e]
    grind
  exact Int.eq_of_mul_eq_mul_left (by omega) e1
/-- The sum of two fractions, over the least common multiple. -/
theorem Red.sum {n d a b N A T g : Int} (hd : 0 < d) (hb : 0 < b) (hg : 0 < g) (h1 : n * T = N * d) (h2 : a * T = A * b) {d' b' : Int} (e1 : d' * g = d) (e2 : b' * g = b) : (n * b' + a * d') * T = (N + A) * (d' * b) := by
  have a1 : n * T * b' = N * d * b' := by rw [h1]
  have a2 : a * T * d' = A * b * d' := by rw [h2]
  subst e1
  subst e2
  grind
/-! ### Euclid -/
theorem gcd_step (a b : Int) (hb : b ≠ 0) : Int.gcd b (a.tmod b) = Int.gcd a b := by
  unfold Int.gcd
  rw [Int.natAbs_tmod, Nat.gcd_comm a.natAbs, Nat.gcd_rec b.natAbs a.natAbs, Nat.gcd_comm]
theorem tmod_lt (a b : Int) (hb : b ≠ 0) : (a.tmod b).natAbs < b.natAbs := by
  rw [Int.natAbs_tmod]
  exact Nat.mod_lt _ (by omega)
/-! ### The comparison -/
end Go.Proofs.YthplhbcafihacaaDoor.Frac

/- Euclid's loop, as a printed function with fuel. Plain Lean. -/
namespace Go.Proofs.YthplhbcafihacaaDoor.Frac
open Go.RowKit Go.Proofs.YthplhbcafihacaaDoorW.PrintWords Go.Proofs.YthplhbcafihacaaDoor.Plain
set_option linter.unusedVariables false
theorem gcd_loop {β : Type} {g : Nat → Int → Int → Option β} {fin : Int → β} (h0 : ∀ k a, g (k + 1) a 0 = some (fin a)) (h1 : ∀ k a b, b ≠ 0 → g (k + 1) a b = g k b (Int.tmod a b)) :
    ∀ (n : Nat) (a b : Int), b.natAbs < n → ∃ z : Int, z.natAbs = Int.gcd a b ∧ (0 ≤ a → 0 ≤ b → 0 ≤ z) ∧ Ev (fun k => g k a b) (fin z) := by
  intro n
  induction n with
  | zero => intro a b h; omega
  | succ n ih =>
    intro a b h
    by_cases hb : b = 0
    · subst hb
      refine ⟨a, by rw [Int.gcd_zero_right], fun h _ => h, ⟨1, fun k hk => ?_⟩⟩
      obtain ⟨k, rfl⟩ : ∃ m, k = m + 1 := ⟨k - 1, by omega⟩
      exact h0 k a
    · obtain ⟨z, hz, hs, K, hK⟩ := ih b (Int.tmod a b) (by have := tmod_lt a b hb; omega)
      refine ⟨z, by rw [hz, gcd_step a b hb], fun ha hb' => hs hb' (Int.tmod_nonneg b ha), ⟨K + 1, fun k hk => ?_⟩⟩
      obtain ⟨k, rfl⟩ : ∃ m, k = m + 1 := ⟨k - 1, by omega⟩
      show g (k + 1) a b = _
      rw [h1 k a b hb]
      exact hK k (by omega)
end Go.Proofs.YthplhbcafihacaaDoor.Frac

/- The strain of a network as a fraction in lowest terms. Plain mathematics. -/

namespace Go.Proofs.YthplhbcafihacaaDoor.Net
open Go.RowKit Go.Proofs.YthplhbcafihacaaDoorW.PrintWords Go.Proofs.YthplhbcafihacaaDoor.Plain
open Go.Proofs.YthplhbcafihacaaDoor.Frac
set_option linter.unusedVariables false
set_option linter.unusedSimpArgs false
section
variable {ls : L}
/-- The sum of the squares on an axis; the sum of residual times measure. -/
def SA (ls : L) (ax : Int) : Int := tot (fun k => nT ls ax k * nT ls ax k) (usedL ls)
def AM (ls : L) (ax : Int) : Int := tot (fun k => nT ls ax k * meas ls ax k) (usedL ls)
theorem SA_nonneg (ls : L) (ax : Int) : 0 ≤ SA ls ax := tot_nonneg (fun _ _ => sq_nonneg _)
theorem SA_AM (hn : ls.length ≤ 12) (hg : ∀ x ∈ ls, Good x) (ax : Int) : SA ls ax = treesM ls * AM ls ax := sq_sum hn hg ax
theorem AM_bound (hn : ls.length ≤ 12) (hg : ∀ x ∈ ls, Good x) (ax : Int) : 0 ≤ AM ls ax ∧ AM ls ax ≤ 19683000000 := by
  have h1 := SA_AM hn hg ax
  have h2 := SA_nonneg ls ax
  have h3 : SA ls ax ≤ treesM ls * treesM ls * tot (fun k => meas ls ax k * meas ls ax k) (usedL ls) := sq_le hn hg ax
  have h4 := trees_pos hn hg
  have h5 := trees_le hn hg
  have h6 := meas_sq hn hg ax
  have h7 := tot_nonneg (f := fun k => meas ls ax k * meas ls ax k) (l := usedL ls) (fun k _ => sq_nonneg _)
  generalize tot (fun k => meas ls ax k * meas ls ax k) (usedL ls) = m at *
  generalize AM ls ax = a at *
  generalize treesM ls = t at *
  rw [h1] at h2 h3
  refine ⟨?_, ?_⟩
  · exact Int.le_of_mul_le_mul_left (a := t) (by omega) (by omega)
  · have h8 : a ≤ t * m := Int.le_of_mul_le_mul_left (a := t) (by rw [← Int.mul_assoc]; exact h3) (by omega)
    have h9 : t * m ≤ 6561 * 3000000 := Int.mul_le_mul h5 h6 h7 (by decide)
    omega
/-- The denominators divide the number of trees. -/
theorem Red.le {n d N T : Int} (hT : 0 < T) (hN : 0 ≤ N) (h : Red n d N T) : d ≤ T ∧ 0 ≤ n ∧ n ≤ N := by
  obtain ⟨p1, p2, p3⟩ := h
  have hd : d ∣ T := Red.dvd p2 p3
  have h1 := Int.le_of_dvd hT hd
  have h0 : 0 ≤ n := by
    rcases Int.lt_or_le n 0 with c | c
    · exfalso
      have a := Int.mul_neg_of_neg_of_pos c hT
      have b := Int.mul_nonneg hN (Int.le_of_lt p1)
      omega
    · exact c
  refine ⟨h1, h0, ?_⟩
  have h2 : N * d ≤ N * T := Int.mul_le_mul_of_nonneg_left h1 hN
  exact Int.le_of_mul_le_mul_right (a := T) (by omega) hT
/-- The strain: the sum of residual times measure on the three axes, over the number of trees, in lowest terms. -/
def sN (ls : L) : Int := AM ls 0 + AM ls 1 + AM ls 2
def sNum (ls : L) : Int := (sN ls).tdiv (Int.gcd (sN ls) (treesM ls))
def sDen (ls : L) : Int := (treesM ls).tdiv (Int.gcd (sN ls) (treesM ls))
theorem sRed (hn : ls.length ≤ 12) (hg : ∀ x ∈ ls, Good x) : Red (sNum ls) (sDen ls) (sN ls) (treesM ls) := Red.of_div (by have := trees_pos hn hg; omega)
theorem sN_bound (hn : ls.length ≤ 12) (hg : ∀ x ∈ ls, Good x) : 0 ≤ sN ls ∧ sN ls ≤ 59049000000 := by
  have h0 := AM_bound hn hg 0
  have h1 := AM_bound hn hg 1
  have h2 := AM_bound hn hg 2
  unfold sN
  omega
theorem s_bound (hn : ls.length ≤ 12) (hg : ∀ x ∈ ls, Good x) : (0 < sDen ls ∧ sDen ls ≤ 6561) ∧ 0 ≤ sNum ls ∧ sNum ls ≤ 59049000000 := by
  have hr := sRed hn hg
  have ht := trees_pos hn hg
  have hl := trees_le hn hg
  have hb := sN_bound hn hg
  have h := Red.le (by omega) hb.1 hr
  exact ⟨⟨hr.1, by omega⟩, h.2.1, by omega⟩
end
end Go.Proofs.YthplhbcafihacaaDoor.Net

/- A leg's residual, as both sides reckon it, is nT. Plain mathematics. -/

namespace Go.Proofs.YthplhbcafihacaaDoor.Net
open Go.RowKit Go.Proofs.YthplhbcafihacaaDoorW.PrintWords Go.Proofs.YthplhbcafihacaaDoor.Plain
open Go.Proofs.YthplhbcafihacaaDoor.Det
set_option linter.unusedVariables false
set_option linter.unusedSimpArgs false
section
variable {ls : L}
theorem unk_nodup (hg : ∀ x ∈ ls, Good x) : (unkL ls).Nodup := by
  have ha := asc_plL (RR ls)
  rw [plL_head hg] at ha
  exact (List.pairwise_cons.mp ha).2.imp (fun h => by omega)
theorem coTo_at (hg : ∀ x ∈ ls, Good x) (ax : Int) (s : Nat) (hs : s < 8) : ∀ k, k ≤ (unkL ls).length → rd (coTo ls ax k) (s : Int) = if fnd (unkL ls) (s : Int) < (k : Int) then vAt (coM ls ax) (fnd (unkL ls) (s : Int)) else 0
  | 0, _ => by
    have h0 : rd (coTo ls ax 0) (s : Int) = 0 := by
      show rd (List.replicate 8 0) (s : Int) = 0
      unfold rd
      rw [Int.toNat_natCast, List.getD_eq_getElem?_getD, List.getElem?_replicate_of_lt hs]; rfl
    rw [h0]
    by_cases c : fnd (unkL ls) (s : Int) < ((0 : Nat) : Int)
    · rw [if_pos c]; unfold vAt; rw [if_neg (by omega)]
    · rw [if_neg c]
  | k + 1, hk => by
    have ih := coTo_at hg ax s hs k (by omega)
    have hlt : k < (unkL ls).length := by omega
    have hr := unkL_range hg (rd (unkL ls) (k : Int)) (by rw [rd_get _ k hlt]; exact List.getElem_mem hlt)
    have hm : (unkL ls)[k] ∈ unkL ls := List.getElem_mem hlt
    have hidx : (unkL ls).idxOf (unkL ls)[k] = k := (unk_nodup hg).idxOf_getElem k hlt
    obtain ⟨u, hu⟩ := Int.eq_ofNat_of_zero_le hr.1
    have hst : rd (coTo ls ax (k + 1)) (s : Int) = if s = u then coM ls ax k else rd (coTo ls ax k) (s : Int) := by
      show rd ((coTo ls ax k).set (rd (unkL ls) (k : Int)).toNat (coM ls ax k)) (s : Int) = _
      rw [hu, Int.toNat_natCast]
      unfold rd
      rw [Int.toNat_natCast, List.getD_eq_getElem?_getD]
      by_cases c : s = u
      · rw [if_pos c, c, List.getElem?_set_self (by rw [coTo_len]; omega)]; rfl
      · rw [if_neg c, List.getElem?_set_ne (fun e => c e.symm), List.getD_eq_getElem?_getD]
    have hf : fnd (unkL ls) (u : Int) = (k : Int) := by
      rw [← hu, rd_get _ k hlt, (fnd_pos hm).1, hidx]
    rw [hst]
    by_cases c : s = u
    · subst c
      rw [if_pos rfl, hf, if_pos (by omega)]
      unfold vAt
      rw [if_pos (by omega), Int.toNat_natCast]
    · rw [if_neg c, ih]
      have hne : fnd (unkL ls) (s : Int) ≠ (k : Int) := fun e => by
        have hsm : (s : Int) ∈ unkL ls := by
          by_cases h : (s : Int) ∈ unkL ls
          · exact h
          · rw [fnd_neg h] at e; omega
        have e2 := (fnd_pos hsm).1
        have e3 : (unkL ls).idxOf (s : Int) = (unkL ls).idxOf (unkL ls)[k] := by rw [hidx]; omega
        have e4 := idx_inj hsm hm e3
        rw [rd_get _ k hlt] at hu
        omega
      by_cases d : fnd (unkL ls) (s : Int) < (k : Int)
      · rw [if_pos d, if_pos (by omega)]
      · rw [if_neg d, if_neg (by omega)]
/-- The adjusted coordinate of a station. -/
theorem coL_at (hg : ∀ x ∈ ls, Good x) (ax s : Int) (h0 : 0 ≤ s) (h8 : s < 8) : rd (coL ls ax) s = vAt (coM ls ax) (fnd (unkL ls) s) := by
  obtain ⟨m, rfl⟩ := Int.eq_ofNat_of_zero_le h0
  unfold coL
  rw [coTo_at hg ax m (by omega) _ (Nat.le_refl _), if_pos (fnd_range _ _).2]
theorem vAt_bound (hn : ls.length ≤ 12) (hg : ∀ x ∈ ls, Good x) (ax a : Int) (ha : a < ((unkL ls).length : Int)) : ab (vAt (coM ls ax) a) ≤ TB := by
  unfold vAt
  by_cases c : 0 ≤ a
  · rw [if_pos c]; exact co_bound hn hg ax _ (by omega)
  · rw [if_neg c]; unfold ab TB; decide
/-- What is reckoned for a leg. -/
def restV (m den c1 c0 : Int) : Int := wrap64 (wrap64 (wrap64 (m * den) - c1) + c0)
theorem rest_eq (hn : ls.length ≤ 12) (hg : ∀ x ∈ ls, Good x) (ax : Int) {k : Int} (hk : k ∈ usedL ls) : restV (meas ls ax k) (treesM ls) (rd (coL ls ax) (leg ls k).f1) (rd (coL ls ax) (leg ls k).f0) = nT ls ax k := by
  have hr := usedL_range ls k hk
  obtain ⟨m, rfl⟩ := Int.eq_ofNat_of_zero_le hr.1
  have hx := leg_good hg m (by omega)
  rw [coL_at hg ax _ hx.1.1 hx.1.2, coL_at hg ax _ hx.2.1.1 hx.2.1.2]
  have b1 := vAt_bound hn hg ax _ (fnd_range (unkL ls) (leg ls (m : Int)).f1).2
  have b0 := vAt_bound hn hg ax _ (fnd_range (unkL ls) (leg ls (m : Int)).f0).2
  have hm := RT_meas (ax := ax) hg hk
  have ht := trees_pos hn hg
  have hl := trees_le hn hg
  have hmul : ab (meas ls ax (m : Int) * treesM ls) ≤ 500 * 6561 := by
    rw [ab_mul]
    exact Int.mul_le_mul hm (by unfold ab; omega) (ab_nonneg _) (by decide)
  unfold restV nT dT fa fb
  generalize vAt (coM ls ax) (fnd (unkL ls) (leg ls (m : Int)).f1) = x1 at *
  generalize vAt (coM ls ax) (fnd (unkL ls) (leg ls (m : Int)).f0) = x0 at *
  rw [Int.mul_comm (treesM ls)]
  generalize meas ls ax (m : Int) * treesM ls = p at *
  unfold TB at b1 b0
  rw [ab_le] at b1 b0 hmul
  rw [w64 (x := p) (by omega) (by omega), w64 (x := p - x1) (by omega) (by omega), w64 (x := p - x1 + x0) (by omega) (by omega)]
  omega
end
end Go.Proofs.YthplhbcafihacaaDoor.Net

/- The laws of the adjustment on lists of residuals and coordinates. Plain mathematics. -/

namespace Go.Proofs.YthplhbcafihacaaDoor.Net
open Go.RowKit Go.Proofs.YthplhbcafihacaaDoorW.PrintWords Go.Proofs.YthplhbcafihacaaDoor.Plain
open Go.Proofs.YthplhbcafihacaaDoor.Det
set_option linter.unusedVariables false
set_option linter.unusedSimpArgs false
/-! ### Least and greatest -/
section
variable {ls : L}
theorem coL_len (ls : L) (ax : Int) : (coL ls ax).length = 8 := coTo_len ls ax _
end
end Go.Proofs.YthplhbcafihacaaDoor.Net

/- The program's residual of a leg, walked. -/
namespace Go.Proofs.YthplhbcafihacaaDoor.Net
open Go Go.RowKit Go.Proofs.YthplhbcafihacaaDoorW.PrintWords Go.Proofs.YthplhbcafihacaaDoorW.PrintLast Go.Proofs.YthplhbcafihacaaDoorW.PrintMore Go.Proofs.YthplhbcafihacaaDoor.A Go.Proofs.YthplhbcafihacaaDoor.Plain
set_option linter.unusedVariables false
set_option linter.unusedSimpArgs false
/-! ### The residual -/
def resM (x : S50) (axis : Int) (cs : List Int) (den : Int) : Int := wrap64 (wrap64 (wrap64 (onM (shift x) axis * den) - rd cs x.f1) + rd cs x.f0)
set_option maxHeartbeats 2000000 in
set_option maxRecDepth 100000 in
theorem residualW (A2 : Option Addr) (c2 : Nat) (cs : List Int) (x : S50) (axis den : Int) (w : World) (hL : Sine.Laid w) (hr2 : Kd.C (Kd.int .i64) w A2 cs.length cs) (h8 : cs.length = 8) (hx : Good x) (h0 : 0 ≤ axis) (h2 : axis ≤ 2) :
    Calls Tryd.prog 37 #[.agg #[.int .i64 x.f0, .int .i64 x.f1, .int .i64 x.f2, .int .i64 x.f3, .int .i64 x.f4], .int .i64 axis, .slice A2 cs.length c2, .int .i64 den] w fun e w' => e = .returned (.int .i64 (resM x axis cs den)) ∧ Below w.heap.size w w' := by
  have HLS := Aside0.mk (fun W (hl : Sine.Laid W) => legShift x W hl hx)
  have HON := Aside0.mk (fun W => onW (shift x) axis h0 h2 W)
  obtain ⟨⟨a0, a8⟩, ⟨d0, d8⟩, had, _⟩ := hx
  obtain ⟨ad, e1, p0⟩ := Kd.at_int hr2 x.f0 (by omega) (by omega)
  obtain ⟨ad', e2, p1⟩ := Kd.at_int hr2 x.f1 (by omega) (by omega)
  subst e1
  cases e2
  have k0 : x.f0 < (cs.length : Int) := by omega
  have k1 : x.f1 < (cs.length : Int) := by omega
  unfold resM
  obtain ⟨sv, hsv⟩ : ∃ sv, sv = onM (shift x) axis := ⟨_, rfl⟩
  rw [← hsv]
  simp only [← hsv] at HON
  have HL := Aside0.mk hL
  have HB := Aside0.mk (below_alloc (Below.refl w.heap.size w) (Obj.cells #[Value.int IntKind.i64 x.f0, Value.int IntKind.i64 x.f1, Value.int IntKind.i64 x.f2, Value.int IntKind.i64 x.f3, Value.int IntKind.i64 x.f4] 50))
  clear hr2 hL hsv
  go_enter Tryd.func37, Tryd.ntmps37
  go_wp2
  have h0 : (w.alloc (Obj.cells #[Value.int IntKind.i64 x.f0, Value.int IntKind.i64 x.f1, Value.int IntKind.i64 x.f2, Value.int IntKind.i64 x.f3, Value.int IntKind.i64 x.f4] 50)).cell? ⟨w.heap.size, 0, none⟩ = some (.int .i64 x.f0) := by go_simp
  have h1 : (w.alloc (Obj.cells #[Value.int IntKind.i64 x.f0, Value.int IntKind.i64 x.f1, Value.int IntKind.i64 x.f2, Value.int IntKind.i64 x.f3, Value.int IntKind.i64 x.f4] 50)).cell? ⟨w.heap.size, 1, none⟩ = some (.int .i64 x.f1) := by go_simp
  have h2 : (w.alloc (Obj.cells #[Value.int IntKind.i64 x.f0, Value.int IntKind.i64 x.f1, Value.int IntKind.i64 x.f2, Value.int IntKind.i64 x.f3, Value.int IntKind.i64 x.f4] 50)).cell? ⟨w.heap.size, 2, none⟩ = some (.int .i64 x.f2) := by go_simp
  have h3 : (w.alloc (Obj.cells #[Value.int IntKind.i64 x.f0, Value.int IntKind.i64 x.f1, Value.int IntKind.i64 x.f2, Value.int IntKind.i64 x.f3, Value.int IntKind.i64 x.f4] 50)).cell? ⟨w.heap.size, 3, none⟩ = some (.int .i64 x.f3) := by go_simp
  have h4 : (w.alloc (Obj.cells #[Value.int IntKind.i64 x.f0, Value.int IntKind.i64 x.f1, Value.int IntKind.i64 x.f2, Value.int IntKind.i64 x.f3, Value.int IntKind.i64 x.f4] 50)).cell? ⟨w.heap.size, 4, none⟩ = some (.int .i64 x.f4) := by go_simp
  replace p0 := Sine.keepc p0 HB.out
  replace p1 := Sine.keepc p1 HB.out
  generalize (w.alloc (Obj.cells #[Value.int IntKind.i64 x.f0, Value.int IntKind.i64 x.f1, Value.int IntKind.i64 x.f2, Value.int IntKind.i64 x.f3, Value.int IntKind.i64 x.f4] 50)) = W1 at *
  go_region_held3 (fun w' => w'.cell? ⟨w.heap.size, 0, none⟩ = some (.int .i64 x.f0) ∧ w'.cell? ⟨w.heap.size, 1, none⟩ = some (.int .i64 x.f1) ∧ w'.cell? ⟨w.heap.size, 2, none⟩ = some (.int .i64 x.f2) ∧ w'.cell? ⟨w.heap.size, 3, none⟩ = some (.int .i64 x.f3) ∧ w'.cell? ⟨w.heap.size, 4, none⟩ = some (.int .i64 x.f4) ∧ w'.cell? (ad.add x.f0.toNat) = some (.int .i64 (rd cs x.f0)) ∧ w'.cell? (ad.add x.f1.toNat) = some (.int .i64 (rd cs x.f1)))
    ((repeat' refine And.intro ?_ ?_) <;> exact Sine.keepc (w := W1) (by assumption) (by (repeat (first | exact Below.refl _ _ | apply pw_below_drewN | apply below_drew1 | exact HB.out | refine below_step ?_ (by assumption))); done))
    (first
      | (go_at_call 64; (with_reducible refine (HLS.out _ ?s1).mono ?_); (case s1 => exact HL.out.keep (by (repeat (first | exact Below.refl _ _ | apply pw_below_drewN | apply below_drew1 | exact HB.out | refine below_step ?_ (by assumption))); done)); rintro e w' ⟨rfl, hw1⟩)
      | (go_at_call 65; (with_reducible refine (HON.out _).mono ?_); rintro e w' ⟨rfl, hw2⟩
         have HB3 : Aside0 (Below w.heap.size w w') := ⟨by (repeat (first | exact Below.refl _ _ | apply pw_below_drewN | apply below_drew1 | exact HB.out | refine below_step ?_ (by assumption))); done⟩))
  go_wp2
  go_ret
  exact ⟨by simp [i64_w], by repeat (first | exact HB3.out | apply below_drew1)⟩
/-! ### A coordinate out of bounds -/
end Go.Proofs.YthplhbcafihacaaDoor.Net

/- The program's residuals of an axis, walked. -/
namespace Go.Proofs.YthplhbcafihacaaDoor.Net
open Go Go.RowKit Go.Proofs.YthplhbcafihacaaDoorW.PrintWords Go.Proofs.YthplhbcafihacaaDoorW.PrintLast Go.Proofs.YthplhbcafihacaaDoorW.PrintMore Go.Proofs.YthplhbcafihacaaDoor.A Go.Proofs.YthplhbcafihacaaDoor.Plain
set_option linter.unusedVariables false
set_option linter.unusedSimpArgs false
theorem res_all {ls : L} (hn : ls.length ≤ 12) (hg : ∀ x ∈ ls, Good x) (ax : Int) {k : Int} (hk : k ∈ usedL ls) : resM (leg ls k) ax (coL ls ax) (treesM ls) = nT ls ax k := rest_eq hn hg ax hk
end Go.Proofs.YthplhbcafihacaaDoor.Net

/- The printed reductions (the program's and the reference's) are the lowest terms. -/
namespace Go.Proofs.YthplhbcafihacaaDoor.Net
open Go.RowKit Go.Proofs.YthplhbcafihacaaDoorW.PrintWords Go.Proofs.YthplhbcafihacaaDoor.Plain Go.Proofs.YthplhbcafihacaaDoor.A Go.Proofs.YthplhbcafihacaaDoor.Frac
set_option linter.unusedVariables false
set_option linter.unusedSimpArgs false
/-- Lowest terms. -/
def redN (n d : Int) : Int := n.tdiv (Int.gcd n d)
def redD (n d : Int) : Int := d.tdiv (Int.gcd n d)
theorem tdiv_small (n : Int) (g : Nat) {B : Int} (h1 : -B ≤ n) (h2 : n ≤ B) : -B ≤ n.tdiv (g : Int) ∧ n.tdiv (g : Int) ≤ B := by
  have h : (n.tdiv (g : Int)).natAbs ≤ n.natAbs := by rw [Int.natAbs_tdiv]; exact Nat.div_le_self _ _
  omega
theorem wtdiv (n : Int) (g : Nat) (h1 : -9000000000000000000 ≤ n) (h2 : n ≤ 9000000000000000000) : wrap64 (n.tdiv (g : Int)) = n.tdiv (g : Int) := by
  have := tdiv_small n g h1 h2
  unfold wrap64; omega
theorem gcd_small {n d : Int} (hd : 0 < d) (hd2 : d ≤ 9000000000000000000) : 0 < Int.gcd n d ∧ (Int.gcd n d : Int) ≤ 9000000000000000000 := by
  have h1 := Int.gcd_pos_of_ne_zero_right n (show d ≠ 0 by omega)
  have h2 := Nat.le_of_dvd (show 0 < d.natAbs by omega) (Nat.gcd_dvd_right n.natAbs d.natAbs)
  have h3 : Int.gcd n d = Nat.gcd n.natAbs d.natAbs := rfl
  omega
theorem gcd_ev (n d : Int) (hd : 0 < d) (hd2 : d ≤ 9000000000000000000) : Ev (fun k => impl_gcd.f k n d) (Int.gcd n d : Int) := by
  have hs := gcd_small (n := n) hd hd2
  obtain ⟨z, hz, _, K, hK⟩ := gcd_loop (g := impl_gcd.l0) (fin := fun a => if a < wrap64 (-a) then wrap64 (-a) else a) (fun k a => by
    unfold impl_gcd.l0; rw [if_pos rfl]; unfold impl_absolute.f; rfl) (fun k a b hb => by
    conv => lhs; unfold impl_gcd.l0
    rw [if_neg hb]) (d.natAbs + 1) n d (by omega)
  refine ⟨K, fun k hk => ?_⟩
  show impl_gcd.l0 k n d = _
  have h := hK k hk
  simp only at h
  rw [h]
  congr 1
  have hw : wrap64 (-z) = -z := by unfold wrap64; omega
  rw [hw]
  split <;> omega
theorem reduced_ev (n d : Int) (hd : 0 < d) (hd2 : d ≤ 9000000000000000000) (h1 : -9000000000000000000 ≤ n) (h2 : n ≤ 9000000000000000000) : Ev (fun k => impl_reduced.f k n d) (redN n d, redD n d) := by
  have hs := gcd_small (n := n) hd hd2
  obtain ⟨K, hK⟩ := gcd_ev n d hd hd2
  refine ⟨K, fun k hk => ?_⟩
  show impl_reduced.f k n d = _
  unfold impl_reduced.f
  have h := hK k hk
  simp only at h
  rw [h]
  show (if ((Int.gcd n d : Nat) : Int) = 0 then _ else _) = _
  rw [if_neg (by omega), wtdiv n _ h1 h2, wtdiv d _ (by omega) (by omega)]
  rfl
theorem l9_loop (n d : Int) : ∀ (m : Nat) (a b : Int), b.natAbs < m → 0 ≤ a → 0 ≤ b → 0 < Int.gcd a b → Ev (fun k => spec_l9Reduce.l0 k n d a b) (wrap64 (n.tdiv (Int.gcd a b)), wrap64 (d.tdiv (Int.gcd a b)))
  | 0, a, b, h, _, _, _ => by omega
  | m + 1, a, b, h, ha, hb, hg => by
    by_cases h0 : b = 0
    · subst h0
      rw [Int.gcd_zero_right] at hg ⊢
      refine ⟨1, fun k hk => ?_⟩
      obtain ⟨k, rfl⟩ : ∃ m, k = m + 1 := ⟨k - 1, by omega⟩
      show spec_l9Reduce.l0 (k + 1) n d a 0 = _
      unfold spec_l9Reduce.l0
      rw [if_pos rfl, if_neg (by omega), show ((a.natAbs : Nat) : Int) = a by omega]
    · obtain ⟨K, hK⟩ := l9_loop n d m b (Int.tmod a b) (by have := tmod_lt a b h0; omega) hb (Int.tmod_nonneg b ha) (by rw [gcd_step a b h0]; exact hg)
      refine ⟨K + 1, fun k hk => ?_⟩
      obtain ⟨k, rfl⟩ : ∃ m, k = m + 1 := ⟨k - 1, by omega⟩
      show spec_l9Reduce.l0 (k + 1) n d a b = _
      conv => lhs; unfold spec_l9Reduce.l0
      rw [if_neg h0]
      have h := hK k (by omega)
      simp only at h
      rw [h, gcd_step a b h0]
theorem l9Reduce_ev (n d : Int) (hd : 0 < d) (hd2 : d ≤ 9000000000000000000) (h1 : -9000000000000000000 ≤ n) (h2 : n ≤ 9000000000000000000) : Ev (fun k => spec_l9Reduce.f k n d) (redN n d, redD n d) := by
  have ha : spec_l1Most.f n (wrap64 (-n)) = some (n.natAbs : Int) := by
    have hw : wrap64 (-n) = -n := by unfold wrap64; omega
    rw [hw]
    unfold spec_l1Most.f
    split <;> (congr 1; omega)
  have hg : Int.gcd (n.natAbs : Int) d = Int.gcd n d := by unfold Int.gcd; rw [Int.natAbs_natCast]
  have hs := gcd_small (n := n) hd hd2
  obtain ⟨K, hK⟩ := l9_loop n d (d.natAbs + 1) (n.natAbs : Int) d (by omega) (by omega) (by omega) (by rw [hg]; exact hs.1)
  refine ⟨K, fun k hk => ?_⟩
  show spec_l9Reduce.f k n d = _
  unfold spec_l9Reduce.f
  rw [ha]
  show spec_l9Reduce.l0 k n d (n.natAbs : Int) d = _
  have h := hK k hk
  simp only at h
  rw [h, hg, wtdiv n _ h1 h2, wtdiv d _ (by omega) (by omega)]
  rfl
end Go.Proofs.YthplhbcafihacaaDoor.Net

/- The error of a leg whose ends are placed. -/
namespace Go.Proofs.YthplhbcafihacaaDoor.Net
open Go.RowKit Go.Proofs.YthplhbcafihacaaDoorW.PrintWords Go.Proofs.YthplhbcafihacaaDoorW.PrintLast Go.Proofs.YthplhbcafihacaaDoorW.PrintMore Go.Proofs.YthplhbcafihacaaDoor.A Go.Proofs.YthplhbcafihacaaDoor.Plain
set_option linter.unusedVariables false
set_option linter.unusedSimpArgs false
end Go.Proofs.YthplhbcafihacaaDoor.Net

/- The program's closingLeg, placedLeg, placedAt: the network, and whether it holds what is asked for. -/
namespace Go.Proofs.YthplhbcafihacaaDoor.Net
open Go.RowKit Go.Proofs.YthplhbcafihacaaDoorW.PrintWords Go.Proofs.YthplhbcafihacaaDoorW.PrintLast Go.Proofs.YthplhbcafihacaaDoorW.PrintMore Go.Proofs.YthplhbcafihacaaDoor.A Go.Proofs.YthplhbcafihacaaDoor.Plain
set_option linter.unusedVariables false
set_option linter.unusedSimpArgs false
def Gate (ls : L) (b : Bool) (w : World) (e : Ending) (w' : World) : Prop := ∃ g T cA cC, e = .returned (.tuple #[.pointer (some ⟨g, 0, none⟩), .bool b]) ∧ St ls.length T g (Pq (RR ls)) (Xq ls (RR ls)) (Bq (RR ls)) (.slice cA (closeL ls).length cC) w' ∧ Kd.R (Kd.int .i64) 3 w' w.heap.size (fun k => k ≠ g ∧ k ≠ T) (.slice cA (closeL ls).length cC) (closeL ls) ∧ Below w.heap.size w w'
set_option maxHeartbeats 1000000 in
set_option maxRecDepth 100000 in
theorem placedLeg (A : Option Addr) (c : Nat) (ls : L) (i : Int) (w : World) (hL : Sine.Laid w) (hr0 : Kd.C k50 w A ls.length ls) (hc : ls.length ≤ c) (hv : legsB ls = true) (h0 : 0 ≤ i) (h1 : i < ls.length) :
    Calls Tryd.prog 33 #[.slice A ls.length c, .int .i64 i] w (Gate ls (Pq (RR ls) (leg ls i).f0.toNat) w) := by
  have hv' := legsB_iff.mp hv
  have hn := hv'.2
  obtain ⟨K, hK⟩ := areLegs_ev ls (by omega)
  have HA := Aside0.mk (hK K (Nat.le_refl _))
  rw [hv] at HA
  have HW : Aside0 (impl_within.f i 0 ((ls.length : Int) - 1) = some true) := ⟨by rw [within_eq, decide_eq_true (by omega)]⟩
  obtain ⟨k, rfl⟩ := Int.eq_ofNat_of_zero_le h0
  have hg := leg_good hv'.1 k (by omega)
  obtain ⟨a, ha⟩ := Int.eq_ofNat_of_zero_le hg.1.1
  have ha8 : (a : Int) < 8 := by have := hg.1.2; omega
  rw [ha, Int.toNat_natCast]
  obtain ⟨_, e2, h2, _⟩ := at_T50 hr0 (k : Int) h0 h1
  cases e2
  rw [Int.toNat_natCast, show rd_T50 ls (k : Int) = leg ls k from rfl, ha] at h2
  have H2 := Aside0.mk h2
  have HG := Aside0.mk hv'.1
  have HR := Aside0.mk hr0
  have HL := Aside0.mk hL
  have HB := Aside0.mk (Below.refl w.heap.size w)
  clear hK hr0 hL hv hv' hg ha h2
  go_enter Tryd.func33, Tryd.ntmps33
  go_wp2_with (first
    | (go_at_call 41; (with_reducible refine (impl_areLegs.calls K _ _ ls true _ ?s1 ?s2 HA.out).mono ?_); (case s1 => exact Kd.C_below HR.out (by (repeat (first | exact HB.out | exact Below.refl _ _ | apply below_alloc | apply pw_below_drewN | apply below_drew1)); done)); (case s2 => exact hc); rintro e w' ⟨rfl, hw⟩; replace HB := Aside0.mk (below_step (show Below w.heap.size w _ from by (repeat (first | exact HB.out | exact Below.refl _ _ | apply below_alloc | apply pw_below_drewN | apply below_drew1)); done) hw); clear hw)
    | (go_at_call 57; (with_reducible refine (impl_within.calls _ _ _ _ _ HW.out).mono ?_); rintro e w' ⟨rfl, ⟨nd, rfl⟩⟩; replace HB := Aside0.mk (pw_below_drewN HB.out nd))
    | ((go_at_call 58; (with_reducible refine (place _ c ls _ ?s1 ?s2 hc hn HG.out (RR ls) rfl).mono ?_); (case s1 => exact HL.out.keep (by (repeat (first | exact HB.out | exact Below.refl _ _ | apply below_alloc | apply pw_below_drewN | apply below_drew1)); done)); (case s2 => exact Kd.C_below HR.out (by (repeat (first | exact HB.out | exact Below.refl _ _ | apply below_alloc | apply pw_below_drewN | apply below_drew1)); done)); rintro e w' ⟨g, T, cl, rfl, hst, ho, hw⟩; have HO : Aside0 (Kd.R (Kd.int .i64) 3 w' w.heap.size (fun k => k ≠ g ∧ k ≠ T) cl (closeL ls)) := ⟨Kd.R_lower ho (below_size (show Below w.heap.size w _ from by (repeat (first | exact HB.out | exact Below.refl _ _ | apply below_alloc | apply pw_below_drewN | apply below_drew1)); done))⟩; replace HB := Aside0.mk (below_step (show Below w.heap.size w _ from by (repeat (first | exact HB.out | exact Below.refl _ _ | apply below_alloc | apply pw_below_drewN | apply below_drew1)); done) hw); have HS := Aside0.mk hst; clear hst ho hw; obtain ⟨cA, cC, ecl⟩ := Kd.R_slice HO.out; subst ecl); have h2 := Sine.keepc H2.out HB.out; have pa := HS.out.pb a (by omega)))
  go_quiet (fail)
  go_wp2
  go_ret2
  exact ⟨g, T, cA, cC, rfl, HS.out.keep (pw_below_drewN (Below.refl _ _) _), Kd.R_drewN HO.out _, pw_below_drewN HB.out _⟩
set_option maxHeartbeats 1000000 in
theorem placedLeg_no (A : Option Addr) (c : Nat) (ls : L) (i : Int) (w : World) (hr0 : Kd.C k50 w A ls.length ls) (hc : ls.length ≤ c) (hb : ls.length ≤ 140737488351232) (hv : legsB ls = true → ¬ (0 ≤ i ∧ i < ls.length)) :
    Calls Tryd.prog 33 #[.slice A ls.length c, .int .i64 i] w fun e w' => e = .returned (.tuple #[.pointer none, .bool false]) ∧ Below w.heap.size w w' := by
  obtain ⟨K, hK⟩ := areLegs_ev ls hb
  have HA := Aside0.mk (hK K (Nat.le_refl _))
  have HR := Aside0.mk hr0
  have HB := Aside0.mk (Below.refl w.heap.size w)
  clear hK hr0
  cases hq : legsB ls
  · rw [hq] at HA
    clear hq hv
    go_enter Tryd.func33, Tryd.ntmps33
    go_wp2_with (go_at_call 41; (with_reducible refine (impl_areLegs.calls K _ _ ls false _ ?s1 ?s2 HA.out).mono ?_); (case s1 => exact Kd.C_below HR.out (by (repeat (first | exact HB.out | exact Below.refl _ _ | apply below_alloc | apply pw_below_drewN | apply below_drew1)); done)); (case s2 => exact hc); rintro e w' ⟨rfl, hw⟩; replace HB := Aside0.mk (below_step (show Below w.heap.size w _ from by (repeat (first | exact HB.out | exact Below.refl _ _ | apply below_alloc | apply pw_below_drewN | apply below_drew1)); done) hw); clear hw)
    go_ret2
    exact ⟨rfl, HB.out⟩
  · rw [hq] at HA
    have hv2 := hv hq
    have HW : Aside0 (impl_within.f i 0 ((ls.length : Int) - 1) = some false) := ⟨by rw [within_eq, decide_eq_false (by omega)]⟩
    clear hq hv
    go_enter Tryd.func33, Tryd.ntmps33
    go_wp2_with (first
      | (go_at_call 41; (with_reducible refine (impl_areLegs.calls K _ _ ls true _ ?s1 ?s2 HA.out).mono ?_); (case s1 => exact Kd.C_below HR.out (by (repeat (first | exact HB.out | exact Below.refl _ _ | apply below_alloc | apply pw_below_drewN | apply below_drew1)); done)); (case s2 => exact hc); rintro e w' ⟨rfl, hw⟩; replace HB := Aside0.mk (below_step (show Below w.heap.size w _ from by (repeat (first | exact HB.out | exact Below.refl _ _ | apply below_alloc | apply pw_below_drewN | apply below_drew1)); done) hw); clear hw)
      | (go_at_call 57; (with_reducible refine (impl_within.calls _ _ _ _ _ HW.out).mono ?_); rintro e w' ⟨rfl, ⟨nd, rfl⟩⟩; replace HB := Aside0.mk (pw_below_drewN HB.out nd)))
    go_ret2
    exact ⟨rfl, HB.out⟩
end Go.Proofs.YthplhbcafihacaaDoor.Net

/- The program's ResidualOf, in the form of the printed functions, over the laid table of sines. -/
namespace Go.Proofs.YthplhbcafihacaaDoor.A
open Go Go.RowKit Go.Proofs.YthplhbcafihacaaDoorW.PrintWords Go.Proofs.YthplhbcafihacaaDoorW.PrintLast Go.Proofs.YthplhbcafihacaaDoorW.PrintMore
open Go.Proofs.YthplhbcafihacaaDoor.Net (L leg Pq RR Good leg_mem Sine.Laid legsB legsB_iff areLegs_ev treesM coL nT resM usedL adjustW coordinatesW residualW AdjPost placedLeg placedLeg_no redN redD reduced_ev mem_selTo)
set_option linter.unusedVariables false
set_option linter.unusedSimpArgs false
def resOfM (ls : L) (ax i : Int) : Int × Int × Bool := if legsB ls = true ∧ (0 ≤ ax ∧ ax ≤ 2) ∧ i ∈ usedL ls then (redN (nT ls ax i) (treesM ls), redD (nT ls ax i) (treesM ls), true) else (0, 0, false)
theorem usedL_mem (ls : L) (k : Nat) (hk : k < ls.length) : ((k : Int) ∈ usedL ls) ↔ Pq (RR ls) (leg ls (k : Int)).f0.toNat = true := by
  constructor
  · intro h
    obtain ⟨q, e, _, hp⟩ := (mem_selTo _ _ _).mp h
    have : q = k := by omega
    subst this
    exact hp
  · exact fun h => (mem_selTo _ _ _).mpr ⟨k, rfl, hk, h⟩
def impl_ResidualOf.f (l0 : List (S50)) (a1 a2 : Int) : Option (Int × Int × Bool) := if l0.length ≤ 140737488351232 then some (resOfM l0 a1 a2) else none
set_option maxHeartbeats 2000000 in
set_option maxRecDepth 100000 in
theorem impl_ResidualOf.calls (A0 : Option Addr) (c0 : Nat) (l0 : List (S50)) (a1 : Int) (a2 : Int) (r1 : Int) (r2 : Int) (r3 : Bool) (w : World) (hr0 : Kd.C k50 w A0 l0.length l0) (hc0 : l0.length ≤ c0) (h : impl_ResidualOf.f l0 a1 a2 = some (r1, r2, r3)) (hL : Sine.Laid w) :
    Calls Tryd.prog 11 #[.slice A0 l0.length c0, .int .i64 a1, .int .i64 a2] w fun e w' => e = .returned (.tuple #[.int .i64 r1, .int .i64 r2, .bool r3]) ∧ Below w.heap.size w w' := by
  unfold impl_ResidualOf.f at h
  by_cases hb : l0.length ≤ 140737488351232
  case neg => rw [if_neg hb] at h; cases h
  rw [if_pos hb] at h
  have HR := Aside0.mk hr0
  have HL := Aside0.mk hL
  have HB := Aside0.mk (Below.refl w.heap.size w)
  have HAX : Aside0 (impl_isAxis.f a1 = some (decide (0 ≤ a1 ∧ a1 ≤ 2))) := ⟨by unfold impl_isAxis.f; rw [Net.within_eq]; rfl⟩
  clear hr0 hL
  unfold resOfM at h
  by_cases hin : legsB l0 = true ∧ (0 ≤ a2 ∧ a2 < l0.length)
  case neg =>
    have hno : legsB l0 = true → ¬ (0 ≤ a2 ∧ a2 < l0.length) := fun e f => hin ⟨e, f⟩
    rw [if_neg (fun e => hin ⟨e.1, Net.usedL_range l0 _ e.2.2⟩)] at h
    simp only [Option.some.injEq, Prod.mk.injEq] at h
    obtain ⟨rfl, rfl, rfl⟩ := h
    clear hin
    go_enter Tryd.func11, Tryd.ntmps11
    go_wp2_with (go_at_call 33; (with_reducible refine (placedLeg_no A0 c0 l0 a2 _ ?s1 hc0 hb hno).mono ?_); (case s1 => exact Kd.C_below HR.out (by (repeat (first | exact HB.out | exact Below.refl _ _ | apply below_alloc | apply pw_below_drewN | apply below_drew1)); done)); rintro e w' ⟨rfl, hw⟩; replace HB := Aside0.mk (below_step (show Below w.heap.size w _ from by (repeat (first | exact HB.out | exact Below.refl _ _ | apply below_alloc | apply pw_below_drewN | apply below_drew1)); done) hw); clear hw)
    exact bodyPost_ret (v := .tuple #[.int .i64 0, .int .i64 0, .bool false]) (by simp [results, Tryd.results11, go_sem]) rfl ⟨rfl, HB.out⟩
  obtain ⟨hv, h0, h1⟩ := hin
  obtain ⟨k, rfl⟩ := Int.eq_ofNat_of_zero_le h0
  have hk : k < l0.length := by omega
  have hmem := usedL_mem l0 k hk
  by_cases hp : Pq (RR l0) (leg l0 (k : Int)).f0.toNat = true
  case neg =>
    have hpq : Pq (RR l0) (leg l0 (k : Int)).f0.toNat = false := by simpa using hp
    rw [if_neg (fun e => hp (hmem.mp e.2.2))] at h
    simp only [Option.some.injEq, Prod.mk.injEq] at h
    obtain ⟨rfl, rfl, rfl⟩ := h
    go_enter Tryd.func11, Tryd.ntmps11
    go_wp2_with (go_at_call 33; (with_reducible refine (placedLeg _ c0 l0 (k : Int) _ ?s0 ?s1 hc0 hv h0 h1).mono ?_); (case s0 => exact HL.out.keep (by (repeat (first | exact HB.out | exact Below.refl _ _ | apply below_alloc | apply pw_below_drewN | apply below_drew1)); done)); (case s1 => exact Kd.C_below HR.out (by (repeat (first | exact HB.out | exact Below.refl _ _ | apply below_alloc | apply pw_below_drewN | apply below_drew1)); done)); rintro e w' ⟨g, T, cA, cC, rfl, _, _, hw⟩; rw [hpq]; replace HB := Aside0.mk (below_step (show Below w.heap.size w _ from by (repeat (first | exact HB.out | exact Below.refl _ _ | apply below_alloc | apply pw_below_drewN | apply below_drew1)); done) hw); clear hw)
    exact bodyPost_ret (v := .tuple #[.int .i64 0, .int .i64 0, .bool false]) (by simp [results, Tryd.results11, go_sem]) rfl ⟨rfl, HB.out⟩
  have hpq := hp
  by_cases hx : 0 ≤ a1 ∧ a1 ≤ 2
  case neg =>
    rw [if_neg (fun e => hx e.2.1)] at h
    simp only [Option.some.injEq, Prod.mk.injEq] at h
    obtain ⟨rfl, rfl, rfl⟩ := h
    rw [decide_eq_false hx] at HAX
    go_enter Tryd.func11, Tryd.ntmps11
    go_wp2_with (first
      | (go_at_call 33; (with_reducible refine (placedLeg _ c0 l0 (k : Int) _ ?s0 ?s1 hc0 hv h0 h1).mono ?_); (case s0 => exact HL.out.keep (by (repeat (first | exact HB.out | exact Below.refl _ _ | apply below_alloc | apply pw_below_drewN | apply below_drew1)); done)); (case s1 => exact Kd.C_below HR.out (by (repeat (first | exact HB.out | exact Below.refl _ _ | apply below_alloc | apply pw_below_drewN | apply below_drew1)); done)); rintro e w' ⟨g, T, cA, cC, rfl, _, _, hw⟩; rw [hpq]; replace HB := Aside0.mk (below_step (show Below w.heap.size w _ from by (repeat (first | exact HB.out | exact Below.refl _ _ | apply below_alloc | apply pw_below_drewN | apply below_drew1)); done) hw); clear hw)
      | (go_at_call 34; (with_reducible refine (impl_isAxis.calls _ _ _ HAX.out).mono ?_); rintro e w' ⟨rfl, ⟨nd, rfl⟩⟩; replace HB := Aside0.mk (pw_below_drewN HB.out nd)))
    exact bodyPost_ret (v := .tuple #[.int .i64 0, .int .i64 0, .bool false]) (by simp [results, Tryd.results11, go_sem]) rfl ⟨rfl, HB.out⟩
  rw [if_pos ⟨hv, hx, hmem.mpr hp⟩] at h
  simp only [Option.some.injEq, Prod.mk.injEq] at h
  obtain ⟨rfl, rfl, rfl⟩ := h
  rw [decide_eq_true hx] at HAX
  have hv' := legsB_iff.mp hv
  have HG := Aside0.mk hv'.1
  have hn := hv'.2
  have x0 := hx.1
  have x2 := hx.2
  have HQ : Aside0 (∀ cA cC W, Sine.Laid W → Kd.C (Kd.int .i64) W cA (coL l0 a1).length (coL l0 a1) → Calls Tryd.prog 37 #[.agg #[.int .i64 (leg l0 k).f0, .int .i64 (leg l0 k).f1, .int .i64 (leg l0 k).f2, .int .i64 (leg l0 k).f3, .int .i64 (leg l0 k).f4], .int .i64 a1, .slice cA (coL l0 a1).length cC, .int .i64 (treesM l0)] W fun e w' => e = .returned (.int .i64 (nT l0 a1 k)) ∧ Below W.heap.size W w') := ⟨fun cA cC W hl hc => by
    have hq := residualW cA cC (coL l0 a1) (leg l0 k) a1 (treesM l0) W hl hc (Net.coL_len l0 a1) (HG.out _ (leg_mem hk)) x0 x2
    rw [Net.res_all hn HG.out a1 (hmem.mpr hp)] at hq; exact hq⟩
  have HRD : Aside0 (∀ W, Calls Tryd.prog 36 #[.int .i64 (nT l0 a1 k), .int .i64 (treesM l0)] W fun e w' => e = .returned (.tuple #[.int .i64 (redN (nT l0 a1 k) (treesM l0)), .int .i64 (redD (nT l0 a1 k) (treesM l0))]) ∧ Below W.heap.size W w') := ⟨fun W => by
    have ht1 := Net.trees_pos hn HG.out
    have ht2 := Net.trees_le hn HG.out
    have hs := Net.nT_bound hn HG.out a1 (hmem.mpr hp)
    rw [Det.ab_le] at hs
    obtain ⟨K, hK⟩ := reduced_ev (nT l0 a1 k) (treesM l0) (by omega) (by omega) (by omega) (by omega)
    exact impl_reduced.calls K _ _ _ _ W (hK K (Nat.le_refl _))⟩
  obtain ⟨al, e2, g0, g1, g2, g3, g4⟩ := at_T50 HR.out (k : Int) h0 h1
  subst e2
  have ek : rd_T50 l0 (k : Int) = leg l0 k := rfl
  rw [Int.toNat_natCast] at g0 g1 g2 g3 g4
  rw [ek] at g0 g1 g2 g3 g4
  clear ek hv' hx hmem hp
  generalize nT l0 a1 k = nv at *
  go_enter Tryd.func11, Tryd.ntmps11
  go_wp2_with (first
    | (go_at_call 33; (with_reducible refine (placedLeg _ c0 l0 (k : Int) _ ?s0 ?s1 hc0 hv h0 h1).mono ?_); (case s0 => exact HL.out.keep (by (repeat (first | exact HB.out | exact Below.refl _ _ | apply below_alloc | apply pw_below_drewN | apply below_drew1)); done)); (case s1 => exact Kd.C_below HR.out (by (repeat (first | exact HB.out | exact Below.refl _ _ | apply below_alloc | apply pw_below_drewN | apply below_drew1)); done)); rintro e w' ⟨g, T, cA, cC, rfl, _, _, hw⟩; rw [hpq]; replace HB := Aside0.mk (below_step (show Below w.heap.size w _ from by (repeat (first | exact HB.out | exact Below.refl _ _ | apply below_alloc | apply pw_below_drewN | apply below_drew1)); done) hw); clear hw)
    | (go_at_call 34; (with_reducible refine (impl_isAxis.calls _ _ _ HAX.out).mono ?_); rintro e w' ⟨rfl, ⟨nd, rfl⟩⟩; replace HB := Aside0.mk (pw_below_drewN HB.out nd))
    | (go_at_call 35; (with_reducible refine (adjustW _ c0 l0 _ ?s1 ?s2 hc0 hn HG.out).mono ?_); (case s1 => exact HL.out.keep HB.out); (case s2 => exact Kd.C_below HR.out HB.out); rintro e w2 ⟨ba, uA, pA, uc, pc, rfl, hadj, ht, hba, hw⟩; replace HB := Aside0.mk (below_step HB.out hw); have HJ := Aside0.mk hadj; clear hadj hw))
  replace g0 := Net.Sine.keepc g0 HB.out
  replace g1 := Net.Sine.keepc g1 HB.out
  replace g2 := Net.Sine.keepc g2 HB.out
  replace g3 := Net.Sine.keepc g3 HB.out
  replace g4 := Net.Sine.keepc g4 HB.out
  generalize leg l0 k = x at *
  go_region_held3 (fun w' => w'.cell? ⟨ba, 4, none⟩ = some (.int .i64 (treesM l0)) ∧ w'.cell? (al.add (k * 5)) = some (.int .i64 x.f0) ∧ w'.cell? { block := (al.add (k * 5)).block, off := (al.add (k * 5)).off + 1 } = some (.int .i64 x.f1) ∧ w'.cell? { block := (al.add (k * 5)).block, off := (al.add (k * 5)).off + 2 } = some (.int .i64 x.f2) ∧ w'.cell? { block := (al.add (k * 5)).block, off := (al.add (k * 5)).off + 3 } = some (.int .i64 x.f3) ∧ w'.cell? { block := (al.add (k * 5)).block, off := (al.add (k * 5)).off + 4 } = some (.int .i64 x.f4))
    ((repeat' refine And.intro ?_ ?_) <;> first | assumption | exact Net.Sine.keepc (w := w2) (by assumption) (by first | assumption | ((repeat (first | exact Below.refl _ _ | apply pw_below_drewN | apply below_drew1 | exact HB.out | refine below_step ?_ (by assumption))); done)))
    (first
      | (go_at_call 38; (with_reducible refine (coordinatesW ba (some al) uA pA c0 uc pc l0 a1 _ ?s1 ?s2 hn HG.out x0 x2).mono ?_); (case s1 => exact HL.out.keep (below_step HB.out (show Below w2.heap.size w2 _ from by (repeat (first | exact Below.refl _ _ | apply pw_below_drewN | apply below_drew1 | exact HB.out | refine below_step ?_ (by assumption))); done))); (case s2 => exact HJ.out.keep (by (repeat (first | exact Below.refl _ _ | apply pw_below_drewN | apply below_drew1 | exact HB.out | refine below_step ?_ (by assumption))); done)); rintro e w3 ⟨v, rfl, hv3, hw3⟩
         have hB3 : Below w2.heap.size w2 w3 := by (repeat (first | exact Below.refl _ _ | apply pw_below_drewN | apply below_drew1 | exact HB.out | refine below_step ?_ (by assumption))); done
         have HB3 := Aside0.mk (below_step HB.out hB3)
         have HV := Aside0.mk hv3
         clear hv3 hw3
         obtain ⟨cA2, cC2, ec⟩ := Kd.R_slice HV.out
         subst ec)
      | (go_at_call 37; (with_reducible refine (HQ.out cA2 cC2 _ ?s1 ?s2).mono ?_); (case s1 => exact HL.out.keep HB3.out); (case s2 => exact (Kd.R_reads' HV.out).2.2); rintro e w4 ⟨rfl, hw4⟩
         have hB4 : Below w2.heap.size w2 w4 := below_step hB3 hw4
         clear hw4)
      | (go_at_call 36; (with_reducible refine (HRD.out _).mono ?_); rintro e w5 ⟨rfl, hw5⟩
         have hB5 : Below w2.heap.size w2 w5 := below_step hB4 hw5
         have HB5 := Aside0.mk (below_step HB.out hB5)
         clear hw5))
  go_wp2
  exact bodyPost_ret (v := .tuple #[.int .i64 (redN nv (treesM l0)), .int .i64 (redD nv (treesM l0)), .bool true]) (by simp [results, Tryd.results11, go_sem]) rfl ⟨rfl, HB5.out⟩
end Go.Proofs.YthplhbcafihacaaDoor.A

namespace Go.Proofs.YthplhbcafihacaaDoor.A
open Go.Proofs.YthplhbcafihacaaDoor Go.RowKit Go.Proofs.YthplhbcafihacaaDoorW.PrintWords Go.Proofs.YthplhbcafihacaaDoorW.PrintLast Go.Proofs.YthplhbcafihacaaDoorW.PrintMore
attribute [local go_sem] max2_int min2_int max_two min_two max_three min_three max_four min_four   -- for this text's walks alone
set_option linter.unusedVariables false
set_option linter.unusedSimpArgs false

/-! ### laws_FnExactResidualOf: function 3 -/
def laws_FnExactResidualOf.j0 : Nat → List (S53) → List (S50) → Bool → Option (Bool)
 | 0, _, _, _ => none
 | k + 1, x0, x11, x51 => if x51 = true then (some false) else ((laws_toLegS.f k x0).bind fun t308 => ((laws_eqLegS.f k x11 t308).bind fun t311 => (if t311 = true then (some true) else (some false))))
def laws_FnExactResidualOf.f (k : Nat) (l0 : List (S53)) (a1 : Int) (a2 : Int) : Option (Bool) := (laws_szLegS.f l0 1048576).bind fun t295 => (if t295 < 0 then (some true) else ((laws_toLegS.f k l0).bind fun t296 => ((spec_ResidualOf.f k t296 a1 a2).bind fun bt299 => ((laws_toLegS.f k l0).bind fun t302 => ((impl_ResidualOf.f t302 a1 a2).bind fun bt305 => (if bt305.1 = bt299.1 then (if bt305.2.1 = bt299.2.1 then (laws_FnExactResidualOf.j0 k l0 t302 (bt305.2.2 != bt299.2.2)) else (laws_FnExactResidualOf.j0 k l0 t302 true)) else (laws_FnExactResidualOf.j0 k l0 t302 true)))))))
theorem laws_FnExactResidualOf.mono_l : ∀ k, (∀ y0 y1 y2, LeO (laws_FnExactResidualOf.j0 k y0 y1 y2) (laws_FnExactResidualOf.j0 (k + 1) y0 y1 y2))
 | 0 => fun _ _ _ r h => by simp [laws_FnExactResidualOf.j0] at h
 | k + 1 => by
  have ih0 := laws_FnExactResidualOf.mono_l k
  ·
   intro y0 y1 y2
   unfold laws_FnExactResidualOf.j0
   repeat' first
   | (with_reducible exact ih0 _ _ _)
   | (with_reducible exact laws_eqLegS.mono _ _ _)
   | (with_reducible exact laws_toLegS.mono _ _)
   | (with_reducible exact spec_ResidualOf.mono _ _ _ _)
   | (with_reducible exact LeO.refl _)
   | (with_reducible exact LeO.none _)
   | (with_reducible refine LeO.ite ?_ ?_)
   | (with_reducible refine LeO.bind ?_ (fun _ => ?_))
   | exact ih0 _ _ _
   | exact laws_eqLegS.mono _ _ _
   | exact laws_toLegS.mono _ _
   | exact spec_ResidualOf.mono _ _ _ _
   | exact LeO.none _
   | refine LeO.ite ?_ ?_
   | refine LeO.bind ?_ (fun _ => ?_)
theorem laws_FnExactResidualOf.mono : ∀ a0 a1 a2 k, LeO (laws_FnExactResidualOf.f k a0 a1 a2) (laws_FnExactResidualOf.f (k + 1) a0 a1 a2) := by
 intro a0 a1 a2 k
 have ih0 := laws_FnExactResidualOf.mono_l k
 unfold laws_FnExactResidualOf.f
 repeat' first
   | (with_reducible exact ih0 _ _ _)
   | (with_reducible exact laws_eqLegS.mono _ _ _)
   | (with_reducible exact laws_toLegS.mono _ _)
   | (with_reducible exact spec_ResidualOf.mono _ _ _ _)
   | (with_reducible exact LeO.refl _)
   | (with_reducible exact LeO.none _)
   | (with_reducible refine LeO.ite ?_ ?_)
   | (with_reducible refine LeO.bind ?_ (fun _ => ?_))
   | exact ih0 _ _ _
   | exact laws_eqLegS.mono _ _ _
   | exact laws_toLegS.mono _ _
   | exact spec_ResidualOf.mono _ _ _ _
   | exact LeO.none _
   | refine LeO.ite ?_ ?_
   | refine LeO.bind ?_ (fun _ => ?_)
set_option maxHeartbeats 8000000 in
set_option maxRecDepth 100000 in
theorem laws_FnExactResidualOf.calls (k : Nat) (A0 : Option Addr) (c0 : Nat) (l0 : List (S53)) (a1 : Int) (a2 : Int) (r : Bool) (w : World) (hr0 : Kd.C k53 w A0 l0.length l0) (hc0 : l0.length ≤ c0) (h : laws_FnExactResidualOf.f k l0 a1 a2 = some r) (hL : Net.Sine.Laid w) :
  Calls Tryd.prog 3 #[.slice A0 l0.length c0, .int .i64 a1, .int .i64 a2] w fun e w' => e = .returned (.bool r) ∧ Below w.heap.size w w' := by
 have HL := Aside0.mk hL
 clear hL
 have HR0 := Aside0.mk hr0
 have HC0 := Aside0.mk hc0
 clear hr0 hc0
 have HB := Aside0.mk (Below.refl w.heap.size w)
 have H : ((laws_szLegS.f l0 1048576).bind fun t295 => (if t295 < 0 then (some true) else ((laws_toLegS.f k l0).bind fun t296 => ((spec_ResidualOf.f k t296 a1 a2).bind fun bt299 => ((laws_toLegS.f k l0).bind fun t302 => ((impl_ResidualOf.f t302 a1 a2).bind fun bt305 => (if bt305.1 = bt299.1 then (if bt305.2.1 = bt299.2.1 then (laws_FnExactResidualOf.j0 k l0 t302 (bt305.2.2 != bt299.2.2)) else (laws_FnExactResidualOf.j0 k l0 t302 true)) else (laws_FnExactResidualOf.j0 k l0 t302 true)))))))) = some r := h
 clear h
 replace H := Option.bind_eq_some_iff.mp H
 obtain ⟨t295, A40, H⟩ := H
 replace H : (if t295 < 0 then (some true) else ((laws_toLegS.f k l0).bind fun t296 => ((spec_ResidualOf.f k t296 a1 a2).bind fun bt299 => ((laws_toLegS.f k l0).bind fun t302 => ((impl_ResidualOf.f t302 a1 a2).bind fun bt305 => (if bt305.1 = bt299.1 then (if bt305.2.1 = bt299.2.1 then (laws_FnExactResidualOf.j0 k l0 t302 (bt305.2.2 != bt299.2.2)) else (laws_FnExactResidualOf.j0 k l0 t302 true)) else (laws_FnExactResidualOf.j0 k l0 t302 true))))))) = some r := H
 have A4 := Aside0.mk A40
 clear A40
 by_cases c5 : t295 < 0
 ·
  rw [if_pos c5] at H
  have c5b0 : decide (t295 < 0) = true := decide_eq_true c5
  clear c5
  obtain rfl := Option.some.inj H
  go_enter Tryd.func3, Tryd.ntmps3
  go_wp2_with (first | ((with_reducible refine gate_callee (f := 8) rfl ?_); refine goesL_ (some 17) rfl rfl Tryd.func8 (by kernel_rfl) rfl #[.slice A0 l0.length c0, .int .i64 1048576] rfl (by (try simp only [List.map_toArray, List.map_cons, List.map_nil]); first | done | rfl | (simp only [List.length_drop, List.length_take]; rfl)) ?_; (with_reducible refine (laws_szLegS.calls _ _ l0 1048576 t295 _ ?side1 ?side2 A4.out).mono ?_); (case side1 => repeat (first | exact HR0.out | (with_reducible refine Kd.C_alloc ?_ _) | (with_reducible refine Kd.C_drewN ?_ _) | (with_reducible refine Kd.C_drew ?_))); (case side2 => exact HC0.out); rintro e w' ⟨rfl, ⟨nd, rfl⟩⟩; refine ⟨_, rfl, ?_⟩))
  go_ret
  exact ⟨by first | rfl | (simp [errW_none, errW_some] <;> rfl) | (simp [*, errW_none, errW_some] <;> rfl), by repeat (first | (with_reducible first | exact HB.out | apply below_alloc | apply pw_below_drewN | apply below_drew1) | exact HB.out)⟩
 ·
  rw [if_neg c5] at H
  have c5b0 : decide (t295 < 0) = false := decide_eq_false c5
  clear c5
  replace H := Option.bind_eq_some_iff.mp H
  obtain ⟨t296, A60, H⟩ := H
  replace H : ((spec_ResidualOf.f k t296 a1 a2).bind fun bt299 => ((laws_toLegS.f k l0).bind fun t302 => ((impl_ResidualOf.f t302 a1 a2).bind fun bt305 => (if bt305.1 = bt299.1 then (if bt305.2.1 = bt299.2.1 then (laws_FnExactResidualOf.j0 k l0 t302 (bt305.2.2 != bt299.2.2)) else (laws_FnExactResidualOf.j0 k l0 t302 true)) else (laws_FnExactResidualOf.j0 k l0 t302 true))))) = some r := H
  have A6 := Aside0.mk A60
  clear A60
  replace H := Option.bind_eq_some_iff.mp H
  obtain ⟨⟨t299, t300, t301⟩, A70, H⟩ := H
  replace H : ((laws_toLegS.f k l0).bind fun t302 => ((impl_ResidualOf.f t302 a1 a2).bind fun bt305 => (if bt305.1 = t299 then (if bt305.2.1 = t300 then (laws_FnExactResidualOf.j0 k l0 t302 (bt305.2.2 != t301)) else (laws_FnExactResidualOf.j0 k l0 t302 true)) else (laws_FnExactResidualOf.j0 k l0 t302 true)))) = some r := H
  have A7 := Aside0.mk A70
  clear A70
  replace H := Option.bind_eq_some_iff.mp H
  obtain ⟨t302, A80, H⟩ := H
  replace H : ((impl_ResidualOf.f t302 a1 a2).bind fun bt305 => (if bt305.1 = t299 then (if bt305.2.1 = t300 then (laws_FnExactResidualOf.j0 k l0 t302 (bt305.2.2 != t301)) else (laws_FnExactResidualOf.j0 k l0 t302 true)) else (laws_FnExactResidualOf.j0 k l0 t302 true))) = some r := H
  have A8 := Aside0.mk A80
  clear A80
  replace H := Option.bind_eq_some_iff.mp H
  obtain ⟨⟨t305, t306, t307⟩, A90, H⟩ := H
  replace H : (if t305 = t299 then (if t306 = t300 then (laws_FnExactResidualOf.j0 k l0 t302 (t307 != t301)) else (laws_FnExactResidualOf.j0 k l0 t302 true)) else (laws_FnExactResidualOf.j0 k l0 t302 true)) = some r := H
  have A9 := Aside0.mk A90
  clear A90
  have HC10 := Aside0.mk H
  clear H
  go_enter Tryd.func3, Tryd.ntmps3
  go_upto_region 8 with (first | ((with_reducible refine gate_callee (f := 8) rfl ?_); refine goesL_ (some 17) rfl rfl Tryd.func8 (by kernel_rfl) rfl #[.slice A0 l0.length c0, .int .i64 1048576] rfl (by (try simp only [List.map_toArray, List.map_cons, List.map_nil]); first | done | rfl | (simp only [List.length_drop, List.length_take]; rfl)) ?_; (with_reducible refine (laws_szLegS.calls _ _ l0 1048576 t295 _ ?side1 ?side2 A4.out).mono ?_); (case side1 => repeat (first | exact HR0.out | (with_reducible refine Kd.C_alloc ?_ _) | (with_reducible refine Kd.C_drewN ?_ _) | (with_reducible refine Kd.C_drew ?_))); (case side2 => exact HC0.out); rintro e w' ⟨rfl, ⟨nd, rfl⟩⟩; refine ⟨_, rfl, ?_⟩) | ((with_reducible refine gate_callee (f := 10) rfl ?_); refine goesL_ (some 22) rfl rfl Tryd.func10 (by kernel_rfl) rfl #[.slice A0 l0.length c0] rfl (by (try simp only [List.map_toArray, List.map_cons, List.map_nil]); first | done | rfl | (simp only [List.length_drop, List.length_take]; rfl)) ?_; (with_reducible refine (laws_toLegS.calls k _ _ l0 t296 _ ?side1 ?side2 A6.out).mono ?_); (case side1 => repeat (first | exact HR0.out | (with_reducible refine Kd.C_alloc ?_ _) | (with_reducible refine Kd.C_drewN ?_ _) | (with_reducible refine Kd.C_drew ?_))); (case side2 => exact HC0.out); rintro e w11 ⟨v297, rfl, ho0, hb⟩; refine ⟨_, rfl, ?_⟩; have n0_ := Aside0.mk (Kd.R_lower ho0 (below_size (by repeat (first | (with_reducible first | exact HB.out | apply below_alloc | apply pw_below_drewN | apply below_drew1) | exact HB.out)))); have n1_ := Aside0.mk (below_step (by repeat (first | (with_reducible first | exact HB.out | apply below_alloc | apply pw_below_drewN | apply below_drew1) | exact HB.out)) hb); clear HB; have HO298 := n0_; have HB := n1_; clear n0_ n1_; (try clear hb); (try clear hb2); (try clear hk); (try clear hi); (try clear ho0); obtain ⟨Ao12, co12, eo12⟩ := Kd.R_slice HO298.out; subst eo12) | ((with_reducible refine gate_callee (f := 9) rfl ?_); refine goesL_ (some 25) rfl rfl Tryd.func9 (by kernel_rfl) rfl #[.slice Ao12 t296.length co12, .int .i64 a1, .int .i64 a2] rfl (by (try simp only [List.map_toArray, List.map_cons, List.map_nil]); first | done | rfl | (simp only [List.length_drop, List.length_take]; rfl)) ?_; (with_reducible refine (spec_ResidualOf.calls k _ _ t296 a1 a2 t299 t300 t301 _ ?side1 ?side2 A7.out ?sideL).mono ?_); (case sideL => exact HL.out.keep (by repeat (first | (with_reducible first | exact HB.out | apply below_alloc | apply pw_below_drewN | apply below_drew1) | exact HB.out))); (case side1 => repeat (first | exact (Kd.R_reads' HO298.out).2.2 | (with_reducible refine Kd.C_alloc ?_ _) | (with_reducible refine Kd.C_drewN ?_ _) | (with_reducible refine Kd.C_drew ?_))); (case side2 => exact (Kd.R_reads' HO298.out).2.1); rintro e w13 ⟨rfl, hb⟩; refine ⟨_, rfl, ?_⟩; have n0_ := Aside0.mk (Kd.R_below (by (with_reducible repeat (first | apply Kd.R_alloc | apply Kd.R_drewN | apply Kd.R_drew)); exact HO298.out) hb); have n1_ := Aside0.mk (below_step (by repeat (first | (with_reducible first | exact HB.out | apply below_alloc | apply pw_below_drewN | apply below_drew1) | exact HB.out)) hb); clear HO298; clear HB; have HO298 := n0_; have HB := n1_; clear n0_ n1_; (try clear hb); (try clear hb2); (try clear hk); (try clear hi)) | ((with_reducible refine gate_callee (f := 10) rfl ?_); refine goesL_ (some 30) rfl rfl Tryd.func10 (by kernel_rfl) rfl #[.slice A0 l0.length c0] rfl (by (try simp only [List.map_toArray, List.map_cons, List.map_nil]); first | done | rfl | (simp only [List.length_drop, List.length_take]; rfl)) ?_; (with_reducible refine (laws_toLegS.calls k _ _ l0 t302 _ ?side1 ?side2 A8.out).mono ?_); (case side1 => repeat (first | exact (Kd.C_below HR0.out HB.out) | (with_reducible refine Kd.C_alloc ?_ _) | (with_reducible refine Kd.C_drewN ?_ _) | (with_reducible refine Kd.C_drew ?_))); (case side2 => exact HC0.out); rintro e w14 ⟨v303, rfl, ho0, hb⟩; refine ⟨_, rfl, ?_⟩; have n0_ := Aside0.mk (Kd.R_elder' (by (with_reducible repeat (first | apply Kd.R_alloc | apply Kd.R_drewN | apply Kd.R_drew)); exact HO298.out) (Kd.R_base ho0) hb); have n1_ := Aside0.mk (Kd.R_lower (Kd.R_new' ho0 (Kd.R_lt (by (with_reducible repeat (first | apply Kd.R_alloc | apply Kd.R_drewN | apply Kd.R_drew)); exact HO298.out))) (below_size (by repeat (first | (with_reducible first | exact HB.out | apply below_alloc | apply pw_below_drewN | apply below_drew1) | exact HB.out)))); have n2_ := Aside0.mk (below_step (by repeat (first | (with_reducible first | exact HB.out | apply below_alloc | apply pw_below_drewN | apply below_drew1) | exact HB.out)) hb); clear HO298; clear HB; have HO298 := n0_; have HO304 := n1_; have HB := n2_; clear n0_ n1_ n2_; (try clear hb); (try clear hb2); (try clear hk); (try clear hi); (try clear ho0); obtain ⟨Ao15, co15, eo15⟩ := Kd.R_slice HO304.out; subst eo15) | ((with_reducible refine gate_callee (f := 11) rfl ?_); refine goesL_ (some 35) rfl rfl Tryd.func11 (by kernel_rfl) rfl #[.slice Ao15 t302.length co15, .int .i64 a1, .int .i64 a2] rfl (by (try simp only [List.map_toArray, List.map_cons, List.map_nil]); first | done | rfl | (simp only [List.length_drop, List.length_take]; rfl)) ?_; (with_reducible refine (impl_ResidualOf.calls _ _ t302 a1 a2 t305 t306 t307 _ ?side1 ?side2 A9.out ?sideL).mono ?_); (case sideL => exact HL.out.keep (by repeat (first | (with_reducible first | exact HB.out | apply below_alloc | apply pw_below_drewN | apply below_drew1) | exact HB.out))); (case side1 => repeat (first | exact (Kd.R_reads' HO304.out).2.2 | (with_reducible refine Kd.C_alloc ?_ _) | (with_reducible refine Kd.C_drewN ?_ _) | (with_reducible refine Kd.C_drew ?_))); (case side2 => exact (Kd.R_reads' HO304.out).2.1); rintro e w16 ⟨rfl, hb⟩; refine ⟨_, rfl, ?_⟩; have n0_ := Aside0.mk (Kd.R_below (by (with_reducible repeat (first | apply Kd.R_alloc | apply Kd.R_drewN | apply Kd.R_drew)); exact HO298.out) hb); have n1_ := Aside0.mk (Kd.R_below (by (with_reducible repeat (first | apply Kd.R_alloc | apply Kd.R_drewN | apply Kd.R_drew)); exact HO304.out) hb); have n2_ := Aside0.mk (below_step (by repeat (first | (with_reducible first | exact HB.out | apply below_alloc | apply pw_below_drewN | apply below_drew1) | exact HB.out)) hb); clear HO298; clear HO304; clear HB; have HO298 := n0_; have HO304 := n1_; have HB := n2_; clear n0_ n1_ n2_; (try clear hb); (try clear hb2); (try clear hk); (try clear hi)))
  (try simp only [Act.put, List.setIfInBounds_toArray, List.set_cons_zero, List.set_cons_succ])
  go_cut [51] (fun v51 wc => ∃ (kq : Nat) (x51_9 : Bool), v51 = .bool x51_9 ∧ Aside0 (laws_FnExactResidualOf.j0 kq l0 t302 x51_9 = some r) ∧ Aside0 (kq ≤ k) ∧ Aside0 (Kd.R k50 50 wc w.heap.size (fun _ => True) (.slice Ao15 t302.length co15) t302) ∧ Aside0 (Below w.heap.size w wc))
  case first =>
   have H := HC10.out
   clear HC10
   by_cases c17 : t305 = t299
   ·
    rw [if_pos c17] at H
    have c17b0 : (t305 == t299) = true := beq_iff_eq.mpr c17
    have c17b1 : (t305 != t299) = false := bne_eq_false_iff_eq.mpr c17
    clear c17
    (first | rw [c17b0] | (simp only [i64_w, i32_w]; rw [c17b0]) | skip)
    by_cases c18 : t306 = t300
    ·
     rw [if_pos c18] at H
     have c18b0 : (t306 == t300) = true := beq_iff_eq.mpr c18
     have c18b1 : (t306 != t300) = false := bne_eq_false_iff_eq.mpr c18
     clear c18
     have H' := Aside0.mk H
     clear H
     go_wp2
     go_meet
     case rel => exact ⟨_, ((t307 != t301)), (by first | rfl | (simp; done) | (simp [*]; done)), H', ⟨by first | omega | exact Nat.le_refl _⟩, ⟨by (with_reducible repeat (first | apply Kd.R_alloc | apply Kd.R_drewN | apply Kd.R_drew)); exact Kd.R_mono HO304.out (fun _ hk => trivial)⟩, ⟨by repeat (first | (with_reducible first | exact HB.out | apply below_alloc | apply pw_below_drewN | apply below_drew1) | exact HB.out)⟩⟩
    ·
     rw [if_neg c18] at H
     have c18b0 : (t306 == t300) = false := beq_eq_false_iff_ne.mpr c18
     have c18b1 : (t306 != t300) = true := bne_iff_ne.mpr c18
     have H' := Aside0.mk H
     clear H
     go_wp2
     go_meet
     case rel => exact ⟨_, (true), (by first | rfl | (simp; done) | (simp [*]; done)), H', ⟨by first | omega | exact Nat.le_refl _⟩, ⟨by (with_reducible repeat (first | apply Kd.R_alloc | apply Kd.R_drewN | apply Kd.R_drew)); exact Kd.R_mono HO304.out (fun _ hk => trivial)⟩, ⟨by repeat (first | (with_reducible first | exact HB.out | apply below_alloc | apply pw_below_drewN | apply below_drew1) | exact HB.out)⟩⟩
   ·
    rw [if_neg c17] at H
    have c17b0 : (t305 == t299) = false := beq_eq_false_iff_ne.mpr c17
    have c17b1 : (t305 != t299) = true := bne_iff_ne.mpr c17
    (first | rw [c17b0] | (simp only [i64_w, i32_w]; rw [c17b0]) | skip)
    have H' := Aside0.mk H
    clear H
    go_wp2
    go_meet
    case rel => exact ⟨_, (true), (by first | rfl | (simp; done) | (simp [*]; done)), H', ⟨by first | omega | exact Nat.le_refl _⟩, ⟨by (with_reducible repeat (first | apply Kd.R_alloc | apply Kd.R_drewN | apply Kd.R_drew)); exact Kd.R_mono HO304.out (fun _ hk => trivial)⟩, ⟨by repeat (first | (with_reducible first | exact HB.out | apply below_alloc | apply pw_below_drewN | apply below_drew1) | exact HB.out)⟩⟩
  case rest =>
   clear HC10
   try clear c1
   try clear p2
   try clear c3
   try clear c5
   try clear c5b0
   try clear c8
   try clear c9
   try clear c10
   try clear c11
   try clear c17
   try clear c17b0
   try clear c17b1
   try clear c18
   try clear c18b0
   try clear c18b1
   obtain ⟨kq, x51_9, rfl, HA, HJ9, HO_11, HB⟩ := hcut
   cases kq with
   | zero => exact absurd HA.out (by simp [laws_FnExactResidualOf.j0])
   | succ kj9 =>
    have H := HA.out
    clear HA
    simp only [laws_FnExactResidualOf.j0] at H
    by_cases c19 : x51_9 = true
    ·
     subst c19
     have H1 : (some false) = some r := by rw [if_pos rfl] at H; exact H
     clear H
     have H := H1
     clear H1
     obtain rfl := Option.some.inj H
     go_wp2
     go_ret
     exact ⟨by first | rfl | (simp [errW_none, errW_some] <;> rfl) | (simp [*, errW_none, errW_some] <;> rfl), by repeat (first | (with_reducible first | exact HB.out | apply below_alloc | apply pw_below_drewN | apply below_drew1) | exact HB.out)⟩
    ·
     replace c19 := Bool.eq_false_iff.mpr c19
     subst c19
     have H1 : ((laws_toLegS.f kj9 l0).bind fun t308 => ((laws_eqLegS.f kj9 t302 t308).bind fun t311 => (if t311 = true then (some true) else (some false)))) = some r := by rw [if_neg (show ¬ (false = true) by decide)] at H; exact H
     clear H
     have H := H1
     clear H1
     replace H := Option.bind_eq_some_iff.mp H
     obtain ⟨t308, A200, H⟩ := H
     replace H : ((laws_eqLegS.f kj9 t302 t308).bind fun t311 => (if t311 = true then (some true) else (some false))) = some r := H
     have A20 := Aside0.mk A200
     clear A200
     replace H := Option.bind_eq_some_iff.mp H
     obtain ⟨t311, A210, H⟩ := H
     replace H : (if t311 = true then (some true) else (some false)) = some r := H
     have A21 := Aside0.mk A210
     clear A210
     by_cases c22 : t311 = true
     ·
      subst c22
      have H1 : (some true) = some r := by rw [if_pos rfl] at H; exact H
      clear H
      have H := H1
      clear H1
      obtain rfl := Option.some.inj H
      go_wp2_with (first | ((with_reducible refine gate_callee (f := 10) rfl ?_); refine goesL_ (some 54) rfl rfl Tryd.func10 (by kernel_rfl) rfl #[.slice A0 l0.length c0] rfl (by (try simp only [List.map_toArray, List.map_cons, List.map_nil]); first | done | rfl | (simp only [List.length_drop, List.length_take]; rfl)) ?_; (with_reducible refine (laws_toLegS.calls kj9 _ _ l0 t308 _ ?side1 ?side2 A20.out).mono ?_); (case side1 => repeat (first | exact (Kd.C_below HR0.out HB.out) | (with_reducible refine Kd.C_alloc ?_ _) | (with_reducible refine Kd.C_drewN ?_ _) | (with_reducible refine Kd.C_drew ?_))); (case side2 => exact HC0.out); rintro e w23 ⟨v309, rfl, ho0, hb⟩; refine ⟨_, rfl, ?_⟩; have n0_ := Aside0.mk (Kd.R_elder' (by (with_reducible repeat (first | apply Kd.R_alloc | apply Kd.R_drewN | apply Kd.R_drew)); exact HO_11.out) (Kd.R_base ho0) hb); have n1_ := Aside0.mk (Kd.R_lower (Kd.R_new' ho0 (Kd.R_lt (by (with_reducible repeat (first | apply Kd.R_alloc | apply Kd.R_drewN | apply Kd.R_drew)); exact HO_11.out))) (below_size (by repeat (first | (with_reducible first | exact HB.out | apply below_alloc | apply pw_below_drewN | apply below_drew1) | exact HB.out)))); have n2_ := Aside0.mk (below_step (by repeat (first | (with_reducible first | exact HB.out | apply below_alloc | apply pw_below_drewN | apply below_drew1) | exact HB.out)) hb); clear HO_11; clear HB; have HO_11 := n0_; have HO310 := n1_; have HB := n2_; clear n0_ n1_ n2_; (try clear hb); (try clear hb2); (try clear hk); (try clear hi); (try clear ho0); obtain ⟨Ao24, co24, eo24⟩ := Kd.R_slice HO310.out; subst eo24) | ((with_reducible refine gate_callee (f := 12) rfl ?_); refine goesL_ (some 55) rfl rfl Tryd.func12 (by kernel_rfl) rfl #[.slice Ao15 t302.length co15, .slice Ao24 t308.length co24] rfl (by (try simp only [List.map_toArray, List.map_cons, List.map_nil]); first | done | rfl | (simp only [List.length_drop, List.length_take]; rfl)) ?_; (with_reducible refine (laws_eqLegS.calls kj9 _ _ t302 _ _ t308 true _ ?side1 ?side2 ?side3 ?side4 A21.out).mono ?_); (case side1 => repeat (first | exact (Kd.R_reads' HO_11.out).2.2 | (with_reducible refine Kd.C_alloc ?_ _) | (with_reducible refine Kd.C_drewN ?_ _) | (with_reducible refine Kd.C_drew ?_))); (case side2 => exact (Kd.R_reads' HO_11.out).2.1); (case side3 => repeat (first | exact (Kd.R_reads' HO310.out).2.2 | (with_reducible refine Kd.C_alloc ?_ _) | (with_reducible refine Kd.C_drewN ?_ _) | (with_reducible refine Kd.C_drew ?_))); (case side4 => exact (Kd.R_reads' HO310.out).2.1); rintro e w25 ⟨rfl, hb⟩; refine ⟨_, rfl, ?_⟩; have n0_ := Aside0.mk (Kd.R_below (by (with_reducible repeat (first | apply Kd.R_alloc | apply Kd.R_drewN | apply Kd.R_drew)); exact HO_11.out) hb); have n1_ := Aside0.mk (Kd.R_below (by (with_reducible repeat (first | apply Kd.R_alloc | apply Kd.R_drewN | apply Kd.R_drew)); exact HO310.out) hb); have n2_ := Aside0.mk (below_step (by repeat (first | (with_reducible first | exact HB.out | apply below_alloc | apply pw_below_drewN | apply below_drew1) | exact HB.out)) hb); clear HO_11; clear HO310; clear HB; have HO_11 := n0_; have HO310 := n1_; have HB := n2_; clear n0_ n1_ n2_; (try clear hb); (try clear hb2); (try clear hk); (try clear hi)))
      go_ret
      exact ⟨by first | rfl | (simp [errW_none, errW_some] <;> rfl) | (simp [*, errW_none, errW_some] <;> rfl), by repeat (first | (with_reducible first | exact HB.out | apply below_alloc | apply pw_below_drewN | apply below_drew1) | exact HB.out)⟩
     ·
      replace c22 := Bool.eq_false_iff.mpr c22
      subst c22
      have H1 : (some false) = some r := by rw [if_neg (show ¬ (false = true) by decide)] at H; exact H
      clear H
      have H := H1
      clear H1
      obtain rfl := Option.some.inj H
      go_wp2_with (first | ((with_reducible refine gate_callee (f := 10) rfl ?_); refine goesL_ (some 54) rfl rfl Tryd.func10 (by kernel_rfl) rfl #[.slice A0 l0.length c0] rfl (by (try simp only [List.map_toArray, List.map_cons, List.map_nil]); first | done | rfl | (simp only [List.length_drop, List.length_take]; rfl)) ?_; (with_reducible refine (laws_toLegS.calls kj9 _ _ l0 t308 _ ?side1 ?side2 A20.out).mono ?_); (case side1 => repeat (first | exact (Kd.C_below HR0.out HB.out) | (with_reducible refine Kd.C_alloc ?_ _) | (with_reducible refine Kd.C_drewN ?_ _) | (with_reducible refine Kd.C_drew ?_))); (case side2 => exact HC0.out); rintro e w26 ⟨v309, rfl, ho0, hb⟩; refine ⟨_, rfl, ?_⟩; have n0_ := Aside0.mk (Kd.R_elder' (by (with_reducible repeat (first | apply Kd.R_alloc | apply Kd.R_drewN | apply Kd.R_drew)); exact HO_11.out) (Kd.R_base ho0) hb); have n1_ := Aside0.mk (Kd.R_lower (Kd.R_new' ho0 (Kd.R_lt (by (with_reducible repeat (first | apply Kd.R_alloc | apply Kd.R_drewN | apply Kd.R_drew)); exact HO_11.out))) (below_size (by repeat (first | (with_reducible first | exact HB.out | apply below_alloc | apply pw_below_drewN | apply below_drew1) | exact HB.out)))); have n2_ := Aside0.mk (below_step (by repeat (first | (with_reducible first | exact HB.out | apply below_alloc | apply pw_below_drewN | apply below_drew1) | exact HB.out)) hb); clear HO_11; clear HB; have HO_11 := n0_; have HO310 := n1_; have HB := n2_; clear n0_ n1_ n2_; (try clear hb); (try clear hb2); (try clear hk); (try clear hi); (try clear ho0); obtain ⟨Ao27, co27, eo27⟩ := Kd.R_slice HO310.out; subst eo27) | ((with_reducible refine gate_callee (f := 12) rfl ?_); refine goesL_ (some 55) rfl rfl Tryd.func12 (by kernel_rfl) rfl #[.slice Ao15 t302.length co15, .slice Ao27 t308.length co27] rfl (by (try simp only [List.map_toArray, List.map_cons, List.map_nil]); first | done | rfl | (simp only [List.length_drop, List.length_take]; rfl)) ?_; (with_reducible refine (laws_eqLegS.calls kj9 _ _ t302 _ _ t308 false _ ?side1 ?side2 ?side3 ?side4 A21.out).mono ?_); (case side1 => repeat (first | exact (Kd.R_reads' HO_11.out).2.2 | (with_reducible refine Kd.C_alloc ?_ _) | (with_reducible refine Kd.C_drewN ?_ _) | (with_reducible refine Kd.C_drew ?_))); (case side2 => exact (Kd.R_reads' HO_11.out).2.1); (case side3 => repeat (first | exact (Kd.R_reads' HO310.out).2.2 | (with_reducible refine Kd.C_alloc ?_ _) | (with_reducible refine Kd.C_drewN ?_ _) | (with_reducible refine Kd.C_drew ?_))); (case side4 => exact (Kd.R_reads' HO310.out).2.1); rintro e w28 ⟨rfl, hb⟩; refine ⟨_, rfl, ?_⟩; have n0_ := Aside0.mk (Kd.R_below (by (with_reducible repeat (first | apply Kd.R_alloc | apply Kd.R_drewN | apply Kd.R_drew)); exact HO_11.out) hb); have n1_ := Aside0.mk (Kd.R_below (by (with_reducible repeat (first | apply Kd.R_alloc | apply Kd.R_drewN | apply Kd.R_drew)); exact HO310.out) hb); have n2_ := Aside0.mk (below_step (by repeat (first | (with_reducible first | exact HB.out | apply below_alloc | apply pw_below_drewN | apply below_drew1) | exact HB.out)) hb); clear HO_11; clear HO310; clear HB; have HO_11 := n0_; have HO310 := n1_; have HB := n2_; clear n0_ n1_ n2_; (try clear hb); (try clear hb2); (try clear hk); (try clear hi)))
      go_ret
      exact ⟨by first | rfl | (simp [errW_none, errW_some] <;> rfl) | (simp [*, errW_none, errW_some] <;> rfl), by repeat (first | (with_reducible first | exact HB.out | apply below_alloc | apply pw_below_drewN | apply below_drew1) | exact HB.out)⟩

end Go.Proofs.YthplhbcafihacaaDoor.A
