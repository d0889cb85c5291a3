/- The program's ExactLegs, in the form of the printed functions, over the laid table of sines. -/
import Derived.Deep.RegionHeld3
import Derived.Test.YthplhbcafihacaaDoorKFnExactExactLegs0
import Derived.Test.YthplhbcafihacaaDoorKFnExactExactLegs3
import Derived.Test.YthplhbcafihacaaDoorKFnExactExactLegsU1
import Derived.Test.YthplhbcafihacaaDoorKFnExactExactLegsU2
import Derived.Test.YthplhbcafihacaaDoorKFnExactExactLegsU4
import Derived.Test.YthplhbcafihacaaDoorKFnExactExactLegsU6
/- The equations of a network: the matrix is a grounded Laplacian; the number of trees is positive and at most 6561; the coordinates solve the equations. -/

namespace Go.Proofs.YthplhbcafihacaaDoor.Net
open Go.RowKit Go.Proofs.YthplhbcafihacaaDoorW.PrintWords Go.Proofs.YthplhbcafihacaaDoor.Plain
open Go.Proofs.YthplhbcafihacaaDoor.Det
set_option linter.unusedVariables false
set_option linter.unusedSimpArgs false
section
variable {ls : L}
theorem LT_rs (ls : L) (i : Nat) : rs (unkL ls).length 0 (LT ls) i = tot (fun k => (if (i : Int) = fa ls k ∧ fb ls k < 0 then 1 else 0) + (if (i : Int) = fb ls k ∧ fa ls k < 0 then 1 else 0)) (usedL ls) := by
  unfold rs
  rw [sumTo_congr (g := fun j => tot (fun k => lapD (fa ls k) (fb ls k) i j) (usedL ls)) (fun j _ => by rw [if_pos (Nat.zero_le j)]; rfl), sumTo_tot]
  exact tot_congr (fun k _ => lapD_sum _ _ _ (fa_lt ls k) (fb_lt ls k) i)
theorem rs_term (a b : Int) (i : Nat) : 0 ≤ (if (i : Int) = a ∧ b < 0 then (1 : Int) else 0) + (if (i : Int) = b ∧ a < 0 then 1 else 0) := by split <;> split <;> omega
/-- Station 0 stands first among the placed ones, and is no unknown. -/
theorem plL_head (hg : ∀ x ∈ ls, Good x) : plL (RR ls) = 0 :: unkL ls := by
  have hp := plL_pos ls
  have ha := asc_plL (RR ls)
  have h0 : (0 : Int) ∈ plL (RR ls) := (mem_plL _ _).mpr (by unfold Tree.verts; simp)
  unfold unkL
  cases hq : plL (RR ls) with
  | nil => rw [hq] at hp; simp at hp
  | cons h t =>
    rw [hq] at ha h0
    have hh : h = 0 := by
      have hr := Grow.in_range (ends ls) (RR_ok hg).1 (Good.range hg) h ((mem_plL _ _).mp (by rw [hq]; exact List.mem_cons_self ..))
      rcases List.mem_cons.mp h0 with e | e
      · exact e.symm
      · have := (List.pairwise_cons.mp ha).1 0 e
        omega
    rw [hh]
    rfl
theorem unk_iff (hg : ∀ x ∈ ls, Good x) (s : Int) : s ∈ unkL ls ↔ s ∈ Tree.verts 0 (RR ls) ∧ s ≠ 0 := by
  have ha := asc_plL (RR ls)
  have hm := mem_plL (RR ls) s
  rw [plL_head hg] at ha hm
  have h0 : ∀ x ∈ unkL ls, 0 < x := fun x hx => (List.pairwise_cons.mp ha).1 x hx
  rw [← hm, List.mem_cons]
  constructor
  · intro h
    exact ⟨Or.inr h, by have := h0 s h; omega⟩
  · rintro ⟨h | h, hn⟩
    · exact absurd h hn
    · exact h
theorem fnd_pos {un : List Int} {s : Int} (h : s ∈ un) : fnd un s = (un.idxOf s : Int) ∧ un.idxOf s < un.length := ⟨by unfold fnd; rw [if_pos h], List.idxOf_lt_length_iff.mpr h⟩
theorem fnd_neg {un : List Int} {s : Int} (h : s ∉ un) : fnd un s = -1 := by unfold fnd; rw [if_neg h]
theorem idx_inj {un : List Int} {s t : Int} (hs : s ∈ un) (ht : t ∈ un) (e : un.idxOf s = un.idxOf t) : s = t := by
  have h1 : un[un.idxOf s]'(List.idxOf_lt_length_iff.mpr hs) = s := List.getElem_idxOf _
  have h2 : un[un.idxOf t]'(List.idxOf_lt_length_iff.mpr ht) = t := List.getElem_idxOf _
  rw [← h1, ← h2]
  congr 1
/-- The legs of the growth are placed legs. -/
theorem used_of (hg : ∀ x ∈ ls, Good x) {x : Int × Int × Int} (hx : x ∈ RR ls) : x.1 ∈ usedL ls ∧ ((ends ls x.1 = (x.2.1, x.2.2)) ∨ ends ls x.1 = (x.2.2, x.2.1)) := by
  have ho := (RR_ok hg).1
  obtain ⟨he, h0, hn⟩ := ho.ends x hx
  obtain ⟨k, hk⟩ := Int.eq_ofNat_of_zero_le h0
  refine ⟨?_, he⟩
  have hl := ho.legs_ends (ends ls) (i := x.1) (List.mem_map.mpr ⟨x, hx, rfl⟩)
  refine (mem_selTo _ _ _).mpr ⟨k, hk, by omega, ?_⟩
  have hf : (leg ls (k : Int)).f0 ∈ Tree.verts 0 (RR ls) := by have := hl.1; rw [hk] at this; exact this
  have hgood := leg_good hg k (by omega)
  rw [Pq_eq, Int.toNat_of_nonneg hgood.1.1]
  exact decide_eq_true ((mem_plL _ _).mpr hf)
theorem LT_neg (hg : ∀ x ∈ ls, Good x) {k : Int} (hk : k ∈ usedL ls) {i j : Nat} (hij : i ≠ j) (h : (fa ls k = (i : Int) ∧ fb ls k = (j : Int)) ∨ (fa ls k = (j : Int) ∧ fb ls k = (i : Int))) : LT ls i j < 0 := by
  have hp := tot_pos (f := fun k => -(lapD (fa ls k) (fb ls k) i j)) (l := usedL ls) (fun k _ => by have := lapD_off (fa ls k) (fb ls k) hij; omega) hk (by
    show 0 < -(lapD (fa ls k) (fb ls k) i j)
    rw [lapD_eq]
    rcases h with ⟨h1, h2⟩ | ⟨h1, h2⟩ <;> rw [h1, h2]
    · rw [if_neg (by omega), if_neg (by omega), if_pos ⟨rfl, rfl⟩, if_neg (by omega)]; omega
    · rw [if_neg (by omega), if_neg (by omega), if_neg (by omega), if_pos ⟨rfl, rfl⟩]; omega)
  have e : tot (fun k => -(lapD (fa ls k) (fb ls k) i j)) (usedL ls) = - LT ls i j := by
    rw [LT_eq]
    have := tot_mul (-1) (fun k => lapD (fa ls k) (fb ls k) i j) (usedL ls)
    rw [show (fun k => -(lapD (fa ls k) (fb ls k) i j)) = fun k => -1 * lapD (fa ls k) (fb ls k) i j from by funext k; omega, this]
    omega
  omega
theorem LT_reach (hg : ∀ x ∈ ls, Good x) : ∀ (q : Grow.Q), (∀ x ∈ q, x ∈ RR ls) → Tree.Tr (0 : Int) q → ∀ s, s ∈ Tree.verts 0 q → s ≠ 0 → s ∈ Tree.verts 0 (RR ls) → Det.Reach (unkL ls).length 0 (LT ls) ((unkL ls).idxOf s)
  | [], _, _, s, hs, hn, _ => by simp [Tree.verts] at hs; exact absurd hs hn
  | (k, u, t) :: q, hsub, htr, s, hs, hn, hR => by
    have hq : ∀ x ∈ q, x ∈ RR ls := fun x hx => hsub x (List.mem_cons_of_mem _ hx)
    cases htr with
    | cons h1 h2 h3 h4 =>
      by_cases c : s = t
      · subst c
        obtain ⟨hk, he⟩ := used_of hg (hsub _ (List.mem_cons_self ..))
        simp only at hk he
        have hsu : s ∈ unkL ls := (unk_iff hg s).mpr ⟨hR, hn⟩
        obtain ⟨f1, f2⟩ := fnd_pos hsu
        by_cases hu : u = 0
        · subst hu
          have h0 : fnd (unkL ls) 0 = -1 := fnd_neg (fun e => ((unk_iff hg 0).mp e).2 rfl)
          refine .ground _ ?_
          rw [LT_rs]
          refine tot_pos (fun k _ => rs_term _ _ _) hk ?_
          unfold fa fb
          rcases he with he | he
          · have e1 : (leg ls k).f0 = 0 := congrArg Prod.fst he
            have e2 : (leg ls k).f1 = s := congrArg Prod.snd he
            rw [e1, e2, h0, f1]
            rw [if_neg (by omega), if_pos (by omega)]; omega
          · have e1 : (leg ls k).f0 = s := congrArg Prod.fst he
            have e2 : (leg ls k).f1 = 0 := congrArg Prod.snd he
            rw [e1, e2, h0, f1]
            rw [if_pos (by omega), if_neg (by omega)]; omega
        · have huR : u ∈ Tree.verts 0 (RR ls) := by
            have hl := (RR_ok hg).1.legs_ends (ends ls) (i := k) (List.mem_map.mpr ⟨_, hsub _ (List.mem_cons_self ..), rfl⟩)
            rcases he with he | he
            · have := hl.1; rw [he] at this; exact this
            · have := hl.2.1; rw [he] at this; exact this
          have ih := LT_reach hg q hq h1 u h2 hu huR
          have huu : u ∈ unkL ls := (unk_iff hg u).mpr ⟨huR, hu⟩
          obtain ⟨g1, g2⟩ := fnd_pos huu
          have hne : (unkL ls).idxOf u ≠ (unkL ls).idxOf s := fun e => h3 (by rw [← idx_inj huu hsu e]; exact h2)
          refine .step _ _ (Nat.zero_le _) g2 hne (LT_neg hg hk (fun e => hne e.symm) ?_) ih
          unfold fa fb
          rcases he with he | he
          · have e1 : (leg ls k).f0 = u := congrArg Prod.fst he
            have e2 : (leg ls k).f1 = s := congrArg Prod.snd he
            rw [e1, e2]
            exact Or.inr ⟨g1, f1⟩
          · have e1 : (leg ls k).f0 = s := congrArg Prod.fst he
            have e2 : (leg ls k).f1 = u := congrArg Prod.snd he
            rw [e1, e2]
            exact Or.inl ⟨f1, g1⟩
      · have hs' : s ∈ Tree.verts 0 q := by
          simp only [Tree.verts, List.map_cons, List.mem_cons] at hs ⊢
          rcases hs with h | h | h
          · exact Or.inl h
          · exact absurd h c
          · exact Or.inr h
        exact LT_reach hg q hq h1 s hs' hn hR
theorem LT_good (hg : ∀ x ∈ ls, Good x) : Det.Good (unkL ls).length 0 (LT ls) := by
  refine ⟨fun i j _ _ _ _ => tot_congr (fun k _ => lapD_sym _ _ _ _), fun i j _ _ _ _ hij => ?_, fun i _ _ => ?_, fun i _ hi => ?_⟩
  · have := tot_le (f := fun k => lapD (fa ls k) (fb ls k) i j) (g := fun _ => 0) (l := usedL ls) (fun k _ => lapD_off _ _ hij)
    rw [tot_const] at this
    rw [LT_eq]; omega
  · rw [LT_rs]
    exact tot_nonneg (fun k _ => rs_term _ _ _)
  · have hm : (unkL ls)[i] ∈ unkL ls := List.getElem_mem hi
    have hu := (unk_iff hg _).mp hm
    have h := LT_reach hg (RR ls) (fun _ h => h) (RR_ok hg).1.tr _ hu.1 hu.2 hu.1
    have hx : (unkL ls).idxOf (unkL ls)[i] = i := by
      have ha := asc_plL (RR ls)
      rw [plL_head hg] at ha
      have hnd : (unkL ls).Nodup := (List.pairwise_cons.mp ha).2.imp (fun h => by omega)
      exact hnd.idxOf_getElem i hi
    rw [hx] at h
    exact h
/-! ### The number of trees -/
def TB : Int := 1470503808
theorem tb_ok : 2 * (TB * TB) ≤ 9223372036854775807 := by unfold TB; decide
theorem bnd_le {n : Nat} (hn : n ≤ 7) : ((n : Int) * 250 + 1) * 839808 ≤ TB := by unfold TB; omega
theorem dgT_small (hn : ls.length ≤ 12) (r : Nat) : dgT ls r ≤ 24 := by
  refine Int.le_trans (tot_le (g := fun _ => 2) (fun k _ => by unfold dg; split <;> split <;> omega)) ?_
  rw [tot_const]
  have := usedL_len ls
  omega
theorem LT_wrap (hn : ls.length ≤ 12) (i j : Nat) : wrap64 (LT ls i j) = LT ls i j := by
  refine Elim.w_id ?_
  have h1 := LT_ab1 ls i j
  have h2 := dgT_small hn i
  omega
theorem RT_wrap (hn : ls.length ≤ 12) (hg : ∀ x ∈ ls, Good x) (ax : Int) (i : Nat) : wrap64 (RT ls ax i) = RT ls ax i := by
  refine Elim.w_id ?_
  have h1 := RT_ab (ax := ax) (fun k hk => RT_meas (ax := ax) hg hk) i
  have h2 := dgT_small hn i
  omega
theorem trees_F (hn : ls.length ≤ 12) (hg : ∀ x ∈ ls, Good x) : treesM ls = P (unkL ls).length (LT ls) (unkL ls).length := by
  have hb : Bnd (unkL ls).length (unkL ls).length 250 839808 (LT ls) := LT_bnd hn hg (fun _ _ _ _ _ => rfl) (fun r hr => by have := LT_ab1 ls r (unkL ls).length; have := dgT_nonneg ls r; omega)
  have h := Elim.det_F (by decide) (bnd_le (unkL_len hg)) tb_ok (by unfold TB; decide) (LT ls) hb
  rw [← show F (unkL ls).length (LT ls) (unkL ls).length (low (unkL ls).length) = P (unkL ls).length (LT ls) (unkL ls).length from rfl, ← h]
  exact Elim.det_same (n := (unkL ls).length) _ 0 1 1 _ _ (by omega) (fun p q _ hp _ hq => by
    unfold matM
    rw [if_neg (by omega)]
    exact LT_wrap hn p q)
theorem trees_pos (hn : ls.length ≤ 12) (hg : ∀ x ∈ ls, Good x) : 1 ≤ treesM ls := by
  rw [trees_F hn hg]
  exact (lap_stages (LT_good hg) _ (Nat.le_refl _)).1 _ (Nat.le_refl _)
theorem diag_prod (ls : L) : ∀ n, diagProd (LT ls) n ≤ prodTo (fun r => max (dgT ls r) 1) n ∧ 0 ≤ diagProd (LT ls) n
  | 0 => ⟨Int.le_refl _, by unfold diagProd; decide⟩
  | n + 1 => by
    obtain ⟨h1, h2⟩ := diag_prod ls n
    have h3 : LT ls n n ≤ dgT ls n := by
      rw [LT_eq]
      refine tot_le (fun k _ => ?_)
      rw [lapD_eq]; unfold dg
      by_cases c1 : (n : Int) = fa ls k <;> by_cases c2 : (n : Int) = fb ls k <;> simp only [c1, c2, and_self, and_true, true_and, and_false, false_and, if_true, if_false] <;> omega
    have h4 : 0 ≤ LT ls n n := by
      rw [LT_eq]
      refine tot_nonneg (fun k _ => ?_)
      rw [lapD_eq]
      by_cases c1 : (n : Int) = fa ls k <;> by_cases c2 : (n : Int) = fb ls k <;> simp only [c1, c2, and_self, and_true, true_and, and_false, false_and, if_true, if_false] <;> omega
    have h0 := dgT_nonneg ls n
    refine ⟨?_, Int.mul_nonneg h2 h4⟩
    exact Int.mul_le_mul h1 (by show LT ls n n ≤ max (dgT ls n) 1; omega) h4 (Int.le_trans h2 h1)
theorem trees_le (hn : ls.length ≤ 12) (hg : ∀ x ∈ ls, Good x) : treesM ls ≤ 6561 := by
  rw [trees_F hn hg]
  refine Int.le_trans (lap_det_le (LT_good hg) _ (Nat.le_refl _)) (Int.le_trans (diag_prod ls _).1 ?_)
  rw [prodN_int _ _ (fun r _ => dgT_nonneg ls r)]
  have h1 := sumN_int (dgT ls) (unkL ls).length (fun r _ => dgT_nonneg ls r)
  have h2 := dgT_sum hn
  have h3 := prodN_le (fun r => (dgT ls r).toNat) (unkL ls).length (by omega)
  omega
/-! ### The coordinates -/
theorem co_F (hn : ls.length ≤ 12) (hg : ∀ x ∈ ls, Good x) (ax : Int) (i : Nat) (hi : i < (unkL ls).length) : coM ls ax i = F (unkL ls).length (setc (LT ls) i (RT ls ax)) (unkL ls).length (low (unkL ls).length) := by
  have hb : Bnd (unkL ls).length i 250 839808 (setc (LT ls) i (RT ls ax)) := LT_bnd hn hg (fun r _ j _ hj => setc_ne _ _ _ _ _ hj) (fun r hr => by rw [setc_at]; exact RT_ab (fun k hk => RT_meas hg hk) r)
  have h := Elim.det_F (by decide) (bnd_le (unkL_len hg)) tb_ok (by unfold TB; decide) _ hb
  rw [← h]
  exact Elim.det_same (n := (unkL ls).length) _ 0 1 1 _ _ (by omega) (fun p q _ hp _ hq => by
    unfold matM setc
    by_cases c : q = i
    · rw [if_pos c, if_pos (by omega)]; exact RT_wrap hn hg ax p
    · rw [if_neg c, if_neg (by omega)]; exact LT_wrap hn p q)
theorem co_bound (hn : ls.length ≤ 12) (hg : ∀ x ∈ ls, Good x) (ax : Int) (i : Nat) (hi : i < (unkL ls).length) : ab (coM ls ax i) ≤ TB := by
  have hb : Bnd (unkL ls).length i 250 839808 (setc (LT ls) i (RT ls ax)) := LT_bnd hn hg (fun r _ j _ hj => setc_ne _ _ _ _ _ hj) (fun r hr => by rw [setc_at]; exact RT_ab (fun k hk => RT_meas hg hk) r)
  rw [co_F hn hg ax i hi]
  obtain ⟨m, hm⟩ : ∃ m, (unkL ls).length = m + 1 := ⟨(unkL ls).length - 1, by omega⟩
  have e : F (unkL ls).length (setc (LT ls) i (RT ls ax)) (unkL ls).length (low (unkL ls).length) = R (unkL ls).length (setc (LT ls) i (RT ls ax)) m m m := by
    rw [← P_succ, ← hm]; rfl
  rw [e]
  exact Int.le_trans (R_bound (by decide) hb (Nat.le_refl m) (by omega)) (bnd_le (unkL_len hg))
/-- THE COORDINATES SOLVE THE EQUATIONS. -/
theorem co_solve (hn : ls.length ≤ 12) (hg : ∀ x ∈ ls, Good x) (ax : Int) (r : Nat) (hr : r < (unkL ls).length) : sumTo (unkL ls).length (fun j => LT ls r j * coM ls ax j) = treesM ls * RT ls ax r := by
  rw [trees_F hn hg]
  rw [sumTo_congr (fun j hj => by rw [co_F hn hg ax j hj])]
  exact cramer (unkL ls).length (LT ls) (RT ls ax) r hr
end
end Go.Proofs.YthplhbcafihacaaDoor.Net

/- The residuals of a network: the equations in balance; the sum of their squares. -/

namespace Go.Proofs.YthplhbcafihacaaDoor.Net
open Go.RowKit Go.Proofs.YthplhbcafihacaaDoorW.PrintWords Go.Proofs.YthplhbcafihacaaDoor.Plain
open Go.Proofs.YthplhbcafihacaaDoor.Det
set_option linter.unusedVariables false
set_option linter.unusedSimpArgs false
section
variable {ls : L}
/-- The value at an index that may be -1. -/
def vAt (x : Nat → Int) (a : Int) : Int := if 0 ≤ a then x a.toNat else 0
theorem sumTo_indv (n : Nat) (x : Nat → Int) (c : Int) (hc : c < (n : Int)) (p : Prop) [Decidable p] : sumTo n (fun j => (if p ∧ (j : Int) = c then 1 else 0) * x j) = if p then vAt x c else 0 := by
  unfold vAt
  by_cases hp : p ∧ 0 ≤ c
  · obtain ⟨m, rfl⟩ := Int.eq_ofNat_of_zero_le hp.2
    rw [if_pos hp.1, if_pos hp.2, sumTo_single (j := m) (g := fun _ => 0) (by omega) (fun l _ hl => by rw [if_neg (fun e => hl (by omega)), Int.zero_mul]) rfl, if_pos ⟨hp.1, rfl⟩, sumTo_zero (fun _ _ => rfl), Int.add_zero, Int.one_mul, Int.toNat_natCast]
  · rw [sumTo_zero (fun j _ => by rw [if_neg (fun e => hp ⟨e.1, by omega⟩), Int.zero_mul])]
    by_cases c1 : p
    · rw [if_pos c1, if_neg (fun e => hp ⟨c1, e⟩)]
    · rw [if_neg c1]
theorem lapD_mul (n : Nat) (x : Nat → Int) (a b : Int) (ha : a < (n : Int)) (hb : b < (n : Int)) (i : Nat) : sumTo n (fun j => lapD a b i j * x j) = rgtD a b (vAt x b - vAt x a) i := by
  have e : (fun j : Nat => lapD a b i j * x j) = fun j : Nat => (if (i : Int) = a ∧ (j : Int) = a then 1 else 0) * x j + (if (i : Int) = b ∧ (j : Int) = b then 1 else 0) * x j - (if (i : Int) = a ∧ (j : Int) = b then 1 else 0) * x j - (if (i : Int) = b ∧ (j : Int) = a then 1 else 0) * x j := by
    funext j
    rw [lapD_eq, Int.sub_mul, Int.sub_mul, Int.add_mul]
  rw [e, sum_add3, sumTo_indv n x a ha, sumTo_indv n x b hb, sumTo_indv n x b hb, sumTo_indv n x a ha]
  unfold rgtD
  split <;> split <;> omega
theorem rgtD_mul (n : Nat) (x : Nat → Int) (a b v : Int) (ha : a < (n : Int)) (hb : b < (n : Int)) : sumTo n (fun r => x r * rgtD a b v r) = v * (vAt x b - vAt x a) := by
  have e1 := sumTo_indv n x a ha True
  have e2 := sumTo_indv n x b hb True
  simp only [true_and, if_true] at e1 e2
  have e : (fun r : Nat => x r * rgtD a b v r) = fun r : Nat => v * ((if (r : Int) = b then 1 else 0) * x r) + (-v) * ((if (r : Int) = a then 1 else 0) * x r) := by
    funext r
    unfold rgtD
    by_cases c1 : (r : Int) = b <;> by_cases c2 : (r : Int) = a <;> simp only [c1, c2, if_true, if_false] <;> grind
  rw [e, sumTo_add, sumTo_mul, sumTo_mul, e1, e2]
  grind
theorem rgtD_lin (a b u v : Int) (r : Nat) : rgtD a b (u - v) r = rgtD a b u r - rgtD a b v r := by unfold rgtD; split <;> split <;> omega
theorem rgtD_scale (a b c v : Int) (r : Nat) : rgtD a b (c * v) r = c * rgtD a b v r := by
  unfold rgtD
  by_cases c1 : (r : Int) = b <;> by_cases c2 : (r : Int) = a <;> simp only [c1, c2, if_true, if_false] <;> grind
/-- The coordinate of an end of a leg; the residual of a leg times the number of trees. -/
def dT (ls : L) (ax k : Int) : Int := vAt (coM ls ax) (fb ls k) - vAt (coM ls ax) (fa ls k)
def nT (ls : L) (ax k : Int) : Int := treesM ls * meas ls ax k - dT ls ax k
/-- The residuals are in balance at every unknown station. -/
theorem balance (hn : ls.length ≤ 12) (hg : ∀ x ∈ ls, Good x) (ax : Int) (r : Nat) (hr : r < (unkL ls).length) : tot (fun k => rgtD (fa ls k) (fb ls k) (nT ls ax k) r) (usedL ls) = 0 := by
  have h := co_solve hn hg ax r hr
  have e1 : sumTo (unkL ls).length (fun j => LT ls r j * coM ls ax j) = tot (fun k => rgtD (fa ls k) (fb ls k) (dT ls ax k) r) (usedL ls) := by
    have e2 : ∀ j, LT ls r j * coM ls ax j = tot (fun k => lapD (fa ls k) (fb ls k) r j * coM ls ax j) (usedL ls) := fun j => by
      rw [Int.mul_comm, LT_eq, ← tot_mul]
      exact tot_congr (fun k _ => Int.mul_comm _ _)
    rw [sumTo_congr (fun j _ => e2 j), sumTo_tot]
    exact tot_congr (fun k _ => lapD_mul _ _ _ _ (fa_lt ls k) (fb_lt ls k) r)
  have e3 : treesM ls * RT ls ax r = tot (fun k => rgtD (fa ls k) (fb ls k) (treesM ls * meas ls ax k) r) (usedL ls) := by
    rw [RT_eq, ← tot_mul]
    exact tot_congr (fun k _ => (rgtD_scale _ _ _ _ _).symm)
  have e4 : tot (fun k => rgtD (fa ls k) (fb ls k) (nT ls ax k) r) (usedL ls) = tot (fun k => rgtD (fa ls k) (fb ls k) (treesM ls * meas ls ax k) r) (usedL ls) + (-1) * tot (fun k => rgtD (fa ls k) (fb ls k) (dT ls ax k) r) (usedL ls) := by
    rw [← tot_mul, ← tot_add]
    exact tot_congr (fun k _ => by unfold nT; rw [rgtD_lin]; omega)
  rw [e4, ← e3, ← e1, h]
  omega
theorem orth (hn : ls.length ≤ 12) (hg : ∀ x ∈ ls, Good x) (ax : Int) : tot (fun k => nT ls ax k * dT ls ax k) (usedL ls) = 0 := by
  have e : tot (fun k => nT ls ax k * dT ls ax k) (usedL ls) = sumTo (unkL ls).length (fun r => tot (fun k => coM ls ax r * rgtD (fa ls k) (fb ls k) (nT ls ax k) r) (usedL ls)) := by
    rw [sumTo_tot]
    exact tot_congr (fun k _ => (rgtD_mul _ _ _ _ _ (fa_lt ls k) (fb_lt ls k)).symm)
  rw [e]
  refine sumTo_zero (fun r hr => ?_)
  rw [tot_mul, balance hn hg ax r hr, Int.mul_zero]
/-- The sum of the squares is the number of trees times the sum of residual times measure. -/
theorem sq_sum (hn : ls.length ≤ 12) (hg : ∀ x ∈ ls, Good x) (ax : Int) : tot (fun k => nT ls ax k * nT ls ax k) (usedL ls) = treesM ls * tot (fun k => nT ls ax k * meas ls ax k) (usedL ls) := by
  have h := orth hn hg ax
  have e : tot (fun k => nT ls ax k * nT ls ax k) (usedL ls) = tot (fun k => treesM ls * (nT ls ax k * meas ls ax k)) (usedL ls) + (-1) * tot (fun k => nT ls ax k * dT ls ax k) (usedL ls) := by
    rw [← tot_mul, ← tot_add]
    exact tot_congr (fun k _ => by
      have e2 : nT ls ax k = treesM ls * meas ls ax k - dT ls ax k := rfl
      generalize nT ls ax k = n at *
      grind)
  rw [e, tot_mul, h]
  omega
theorem sq_nonneg (x : Int) : 0 ≤ x * x := by
  rcases Int.le_total 0 x with h | h
  · exact Int.mul_nonneg h h
  · exact Int.mul_nonneg_of_nonpos_of_nonpos h h
/-- The residuals are no greater than the measures. -/
theorem sq_le (hn : ls.length ≤ 12) (hg : ∀ x ∈ ls, Good x) (ax : Int) : tot (fun k => nT ls ax k * nT ls ax k) (usedL ls) ≤ treesM ls * treesM ls * tot (fun k => meas ls ax k * meas ls ax k) (usedL ls) := by
  have h := sq_sum hn hg ax
  have hp := tot_nonneg (f := fun k => (treesM ls * meas ls ax k - nT ls ax k) * (treesM ls * meas ls ax k - nT ls ax k)) (l := usedL ls) (fun k _ => sq_nonneg _)
  have e : tot (fun k => (treesM ls * meas ls ax k - nT ls ax k) * (treesM ls * meas ls ax k - nT ls ax k)) (usedL ls) = treesM ls * treesM ls * tot (fun k => meas ls ax k * meas ls ax k) (usedL ls) + ((-2 * treesM ls) * tot (fun k => nT ls ax k * meas ls ax k) (usedL ls) + tot (fun k => nT ls ax k * nT ls ax k) (usedL ls)) := by
    rw [← tot_mul, ← tot_mul, ← tot_add, ← tot_add]
    exact tot_congr (fun k _ => by grind)
  rw [e] at hp
  have e2 : (-2 * treesM ls) * tot (fun k => nT ls ax k * meas ls ax k) (usedL ls) = -2 * tot (fun k => nT ls ax k * nT ls ax k) (usedL ls) := by rw [h, Int.mul_assoc]
  omega
theorem meas_sq (hn : ls.length ≤ 12) (hg : ∀ x ∈ ls, Good x) (ax : Int) : tot (fun k => meas ls ax k * meas ls ax k) (usedL ls) ≤ 3000000 := by
  refine Int.le_trans (tot_le (g := fun _ => 250000) (fun k hk => ?_)) ?_
  · have h := RT_meas (ax := ax) hg hk
    have h2 := Elim.mul_le_sq (B := 500) (by decide) h h
    have h3 : meas ls ax k * meas ls ax k ≤ ab (meas ls ax k * meas ls ax k) := by unfold ab; omega
    omega
  · rw [tot_const]
    have := usedL_len ls
    omega
end
end Go.Proofs.YthplhbcafihacaaDoor.Net

/- Fractions in lowest terms: they are what they are by their value alone; Euclid's steps; the comparison by Euclid's steps. Plain mathematics. -/

namespace Go.Proofs.YthplhbcafihacaaDoor.Frac
set_option linter.unusedVariables false
/-- n / d is N / T in lowest terms. -/
def Red (n d N T : Int) : Prop := 0 < d ∧ Int.gcd n d = 1 ∧ n * T = N * d
theorem Red.dvd {n d n' d' : Int} (h1 : Int.gcd n d = 1) (e : n * d' = n' * d) : d ∣ d' := by
  have hd : d ∣ n * d' := ⟨n', by rw [e, Int.mul_comm]⟩
  have h2 : d.natAbs ∣ n.natAbs * d'.natAbs := by rw [← Int.natAbs_mul]; exact Int.natAbs_dvd_natAbs.mpr hd
  exact Int.natAbs_dvd_natAbs.mp (Nat.Coprime.dvd_of_dvd_mul_left (show Nat.gcd d.natAbs n.natAbs = 1 by rw [Nat.gcd_comm]; exact h1) h2)
theorem Red.unique {n d n' d' N T : Int} (hT : 0 < T) (h : Red n d N T) (h' : Red n' d' N T) : n = n' ∧ d = d' := by
  obtain ⟨p1, p2, p3⟩ := h
  obtain ⟨q1, q2, q3⟩ := h'
  have e : n * d' = n' * d := by
    have e1 : T * (n * d') = T * (n' * d) := by
      have a : n * T * d' = n' * T * d := by rw [p3, q3, Int.mul_assoc, Int.mul_assoc, Int.mul_comm d]
      grind
    exact Int.eq_of_mul_eq_mul_left (by omega) e1
  have h1 := Red.dvd p2 e
  have h2 := Red.dvd q2 e.symm
  have hd : d = d' := Int.dvd_antisymm (by omega) (by omega) h1 h2
  subst hd
  exact ⟨Int.eq_of_mul_eq_mul_right (by omega) e, rfl⟩
theorem tdiv_exact {a g : Int} (hg : g ≠ 0) (h : g ∣ a) : a.tdiv g * g = a := Int.tdiv_mul_cancel h
theorem Red.of_div {N D : Int} (hD : 0 < D) : Red (N.tdiv (Int.gcd N D)) (D.tdiv (Int.gcd N D)) N D := by
  have hg : 0 < (Int.gcd N D : Int) := by
    have := Int.gcd_pos_of_ne_zero_right N (show D ≠ 0 by omega)
    omega
  have h1 := tdiv_exact (a := N) (g := Int.gcd N D) (by omega) (Int.gcd_dvd_left ..)
  have h2 := tdiv_exact (a := D) (g := Int.gcd N D) (by omega) (Int.gcd_dvd_right ..)
  generalize hn : N.tdiv (Int.gcd N D) = n at *
  generalize hd : D.tdiv (Int.gcd N D) = d at *
  generalize hgg : Int.gcd N D = g at *
  have hdp : 0 < d := by
    rcases Int.lt_or_le 0 d with c | c
    · exact c
    · exfalso
      have := Int.mul_le_mul_of_nonneg_right c (Int.le_of_lt hg)
      omega
  refine ⟨hdp, ?_, ?_⟩
  · have e : Int.gcd (n * g) (d * g) = g := by rw [h1, h2, hgg]
    rw [Int.gcd_mul_right] at e
    simp only [Int.natAbs_natCast] at e
    have hgn : 0 < g := by omega
    exact Nat.eq_of_mul_eq_mul_right hgn (by rw [e, Nat.one_mul])
  · rw [← h1, ← h2]
    generalize (g : Int) = z
    grind
/-- The same value with another pair. -/
theorem Red.change {n d x y N T : Int} (hy : 0 < y) (h : Red n d x y) (e : x * T = N * y) : Red n d N T := by
  obtain ⟨p1, p2, p3⟩ := h
  refine ⟨p1, p2, ?_⟩
  have e1 : y * (n * T) = y * (N * d) := by
    have a : n * y * T = x * d * T := by rw [p3]
    have b : x * T * d = N * y * d := by rw [e]
    grind
  exact Int.eq_of_mul_eq_mul_left (by omega) e1
/-- The sum of two fractions, over the least common multiple. -/
theorem Red.sum {n d a b N A T g : Int} (hd : 0 < d) (hb : 0 < b) (hg : 0 < g) (h1 : n * T = N * d) (h2 : a * T = A * b) {d' b' : Int} (e1 : d' * g = d) (e2 : b' * g = b) : (n * b' + a * d') * T = (N + A) * (d' * b) := by
  have a1 : n * T * b' = N * d * b' := by rw [h1]
  have a2 : a * T * d' = A * b * d' := by rw [h2]
  subst e1
  subst e2
  grind
/-! ### Euclid -/
/-! ### The comparison -/
end Go.Proofs.YthplhbcafihacaaDoor.Frac

/- Euclid's loop, as a printed function with fuel. Plain Lean. -/
namespace Go.Proofs.YthplhbcafihacaaDoor.Frac
open Go.RowKit Go.Proofs.YthplhbcafihacaaDoorW.PrintWords Go.Proofs.YthplhbcafihacaaDoor.Plain
set_option linter.unusedVariables false
end Go.Proofs.YthplhbcafihacaaDoor.Frac

/- The strain of a network as a fraction in lowest terms. Plain mathematics. -/

namespace Go.Proofs.YthplhbcafihacaaDoor.Net
open Go.RowKit Go.Proofs.YthplhbcafihacaaDoorW.PrintWords Go.Proofs.YthplhbcafihacaaDoor.Plain
open Go.Proofs.YthplhbcafihacaaDoor.Frac
set_option linter.unusedVariables false
set_option linter.unusedSimpArgs false
section
variable {ls : L}
/-- The sum of the squares on an axis; the sum of residual times measure. -/
def SA (ls : L) (ax : Int) : Int := tot (fun k => nT ls ax k * nT ls ax k) (usedL ls)
def AM (ls : L) (ax : Int) : Int := tot (fun k => nT ls ax k * meas ls ax k) (usedL ls)
theorem SA_nonneg (ls : L) (ax : Int) : 0 ≤ SA ls ax := tot_nonneg (fun _ _ => sq_nonneg _)
theorem SA_AM (hn : ls.length ≤ 12) (hg : ∀ x ∈ ls, Good x) (ax : Int) : SA ls ax = treesM ls * AM ls ax := sq_sum hn hg ax
theorem AM_bound (hn : ls.length ≤ 12) (hg : ∀ x ∈ ls, Good x) (ax : Int) : 0 ≤ AM ls ax ∧ AM ls ax ≤ 19683000000 := by
  have h1 := SA_AM hn hg ax
  have h2 := SA_nonneg ls ax
  have h3 : SA ls ax ≤ treesM ls * treesM ls * tot (fun k => meas ls ax k * meas ls ax k) (usedL ls) := sq_le hn hg ax
  have h4 := trees_pos hn hg
  have h5 := trees_le hn hg
  have h6 := meas_sq hn hg ax
  have h7 := tot_nonneg (f := fun k => meas ls ax k * meas ls ax k) (l := usedL ls) (fun k _ => sq_nonneg _)
  generalize tot (fun k => meas ls ax k * meas ls ax k) (usedL ls) = m at *
  generalize AM ls ax = a at *
  generalize treesM ls = t at *
  rw [h1] at h2 h3
  refine ⟨?_, ?_⟩
  · exact Int.le_of_mul_le_mul_left (a := t) (by omega) (by omega)
  · have h8 : a ≤ t * m := Int.le_of_mul_le_mul_left (a := t) (by rw [← Int.mul_assoc]; exact h3) (by omega)
    have h9 : t * m ≤ 6561 * 3000000 := Int.mul_le_mul h5 h6 h7 (by decide)
    omega
/-- The denominators divide the number of trees. -/
theorem Red.le {n d N T : Int} (hT : 0 < T) (hN : 0 ≤ N) (h : Red n d N T) : d ≤ T ∧ 0 ≤ n ∧ n ≤ N := by
  obtain ⟨p1, p2, p3⟩ := h
  have hd : d ∣ T := Red.dvd p2 p3
  have h1 := Int.le_of_dvd hT hd
  have h0 : 0 ≤ n := by
    rcases Int.lt_or_le n 0 with c | c
    · exfalso
      have a := Int.mul_neg_of_neg_of_pos c hT
      have b := Int.mul_nonneg hN (Int.le_of_lt p1)
      omega
    · exact c
  refine ⟨h1, h0, ?_⟩
  have h2 : N * d ≤ N * T := Int.mul_le_mul_of_nonneg_left h1 hN
  exact Int.le_of_mul_le_mul_right (a := T) (by omega) hT
/-- The strain: the sum of residual times measure on the three axes, over the number of trees, in lowest terms. -/
def sN (ls : L) : Int := AM ls 0 + AM ls 1 + AM ls 2
def sNum (ls : L) : Int := (sN ls).tdiv (Int.gcd (sN ls) (treesM ls))
def sDen (ls : L) : Int := (treesM ls).tdiv (Int.gcd (sN ls) (treesM ls))
theorem sRed (hn : ls.length ≤ 12) (hg : ∀ x ∈ ls, Good x) : Red (sNum ls) (sDen ls) (sN ls) (treesM ls) := Red.of_div (by have := trees_pos hn hg; omega)
theorem sN_bound (hn : ls.length ≤ 12) (hg : ∀ x ∈ ls, Good x) : 0 ≤ sN ls ∧ sN ls ≤ 59049000000 := by
  have h0 := AM_bound hn hg 0
  have h1 := AM_bound hn hg 1
  have h2 := AM_bound hn hg 2
  unfold sN
  omega
theorem s_bound (hn : ls.length ≤ 12) (hg : ∀ x ∈ ls, Good x) : (0 < sDen ls ∧ sDen ls ≤ 6561) ∧ 0 ≤ sNum ls ∧ sNum ls ≤ 59049000000 := by
  have hr := sRed hn hg
  have ht := trees_pos hn hg
  have hl := trees_le hn hg
  have hb := sN_bound hn hg
  have h := Red.le (by omega) hb.1 hr
  exact ⟨⟨hr.1, by omega⟩, h.2.1, by omega⟩
end
end Go.Proofs.YthplhbcafihacaaDoor.Net

/- A leg's residual, as both sides reckon it, is nT. Plain mathematics. -/

namespace Go.Proofs.YthplhbcafihacaaDoor.Net
open Go.RowKit Go.Proofs.YthplhbcafihacaaDoorW.PrintWords Go.Proofs.YthplhbcafihacaaDoor.Plain
open Go.Proofs.YthplhbcafihacaaDoor.Det
set_option linter.unusedVariables false
set_option linter.unusedSimpArgs false
section
variable {ls : L}
theorem unk_nodup (hg : ∀ x ∈ ls, Good x) : (unkL ls).Nodup := by
  have ha := asc_plL (RR ls)
  rw [plL_head hg] at ha
  exact (List.pairwise_cons.mp ha).2.imp (fun h => by omega)
theorem coTo_at (hg : ∀ x ∈ ls, Good x) (ax : Int) (s : Nat) (hs : s < 8) : ∀ k, k ≤ (unkL ls).length → rd (coTo ls ax k) (s : Int) = if fnd (unkL ls) (s : Int) < (k : Int) then vAt (coM ls ax) (fnd (unkL ls) (s : Int)) else 0
  | 0, _ => by
    have h0 : rd (coTo ls ax 0) (s : Int) = 0 := by
      show rd (List.replicate 8 0) (s : Int) = 0
      unfold rd
      rw [Int.toNat_natCast, List.getD_eq_getElem?_getD, List.getElem?_replicate_of_lt hs]; rfl
    rw [h0]
    by_cases c : fnd (unkL ls) (s : Int) < ((0 : Nat) : Int)
    · rw [if_pos c]; unfold vAt; rw [if_neg (by omega)]
    · rw [if_neg c]
  | k + 1, hk => by
    have ih := coTo_at hg ax s hs k (by omega)
    have hlt : k < (unkL ls).length := by omega
    have hr := unkL_range hg (rd (unkL ls) (k : Int)) (by rw [rd_get _ k hlt]; exact List.getElem_mem hlt)
    have hm : (unkL ls)[k] ∈ unkL ls := List.getElem_mem hlt
    have hidx : (unkL ls).idxOf (unkL ls)[k] = k := (unk_nodup hg).idxOf_getElem k hlt
    obtain ⟨u, hu⟩ := Int.eq_ofNat_of_zero_le hr.1
    have hst : rd (coTo ls ax (k + 1)) (s : Int) = if s = u then coM ls ax k else rd (coTo ls ax k) (s : Int) := by
      show rd ((coTo ls ax k).set (rd (unkL ls) (k : Int)).toNat (coM ls ax k)) (s : Int) = _
      rw [hu, Int.toNat_natCast]
      unfold rd
      rw [Int.toNat_natCast, List.getD_eq_getElem?_getD]
      by_cases c : s = u
      · rw [if_pos c, c, List.getElem?_set_self (by rw [coTo_len]; omega)]; rfl
      · rw [if_neg c, List.getElem?_set_ne (fun e => c e.symm), List.getD_eq_getElem?_getD]
    have hf : fnd (unkL ls) (u : Int) = (k : Int) := by
      rw [← hu, rd_get _ k hlt, (fnd_pos hm).1, hidx]
    rw [hst]
    by_cases c : s = u
    · subst c
      rw [if_pos rfl, hf, if_pos (by omega)]
      unfold vAt
      rw [if_pos (by omega), Int.toNat_natCast]
    · rw [if_neg c, ih]
      have hne : fnd (unkL ls) (s : Int) ≠ (k : Int) := fun e => by
        have hsm : (s : Int) ∈ unkL ls := by
          by_cases h : (s : Int) ∈ unkL ls
          · exact h
          · rw [fnd_neg h] at e; omega
        have e2 := (fnd_pos hsm).1
        have e3 : (unkL ls).idxOf (s : Int) = (unkL ls).idxOf (unkL ls)[k] := by rw [hidx]; omega
        have e4 := idx_inj hsm hm e3
        rw [rd_get _ k hlt] at hu
        omega
      by_cases d : fnd (unkL ls) (s : Int) < (k : Int)
      · rw [if_pos d, if_pos (by omega)]
      · rw [if_neg d, if_neg (by omega)]
/-- The adjusted coordinate of a station. -/
theorem coL_at (hg : ∀ x ∈ ls, Good x) (ax s : Int) (h0 : 0 ≤ s) (h8 : s < 8) : rd (coL ls ax) s = vAt (coM ls ax) (fnd (unkL ls) s) := by
  obtain ⟨m, rfl⟩ := Int.eq_ofNat_of_zero_le h0
  unfold coL
  rw [coTo_at hg ax m (by omega) _ (Nat.le_refl _), if_pos (fnd_range _ _).2]
theorem vAt_bound (hn : ls.length ≤ 12) (hg : ∀ x ∈ ls, Good x) (ax a : Int) (ha : a < ((unkL ls).length : Int)) : ab (vAt (coM ls ax) a) ≤ TB := by
  unfold vAt
  by_cases c : 0 ≤ a
  · rw [if_pos c]; exact co_bound hn hg ax _ (by omega)
  · rw [if_neg c]; unfold ab TB; decide
/-- What is reckoned for a leg. -/
def restV (m den c1 c0 : Int) : Int := wrap64 (wrap64 (wrap64 (m * den) - c1) + c0)
theorem rest_eq (hn : ls.length ≤ 12) (hg : ∀ x ∈ ls, Good x) (ax : Int) {k : Int} (hk : k ∈ usedL ls) : restV (meas ls ax k) (treesM ls) (rd (coL ls ax) (leg ls k).f1) (rd (coL ls ax) (leg ls k).f0) = nT ls ax k := by
  have hr := usedL_range ls k hk
  obtain ⟨m, rfl⟩ := Int.eq_ofNat_of_zero_le hr.1
  have hx := leg_good hg m (by omega)
  rw [coL_at hg ax _ hx.1.1 hx.1.2, coL_at hg ax _ hx.2.1.1 hx.2.1.2]
  have b1 := vAt_bound hn hg ax _ (fnd_range (unkL ls) (leg ls (m : Int)).f1).2
  have b0 := vAt_bound hn hg ax _ (fnd_range (unkL ls) (leg ls (m : Int)).f0).2
  have hm := RT_meas (ax := ax) hg hk
  have ht := trees_pos hn hg
  have hl := trees_le hn hg
  have hmul : ab (meas ls ax (m : Int) * treesM ls) ≤ 500 * 6561 := by
    rw [ab_mul]
    exact Int.mul_le_mul hm (by unfold ab; omega) (ab_nonneg _) (by decide)
  unfold restV nT dT fa fb
  generalize vAt (coM ls ax) (fnd (unkL ls) (leg ls (m : Int)).f1) = x1 at *
  generalize vAt (coM ls ax) (fnd (unkL ls) (leg ls (m : Int)).f0) = x0 at *
  rw [Int.mul_comm (treesM ls)]
  generalize meas ls ax (m : Int) * treesM ls = p at *
  unfold TB at b1 b0
  rw [ab_le] at b1 b0 hmul
  rw [w64 (x := p) (by omega) (by omega), w64 (x := p - x1) (by omega) (by omega), w64 (x := p - x1 + x0) (by omega) (by omega)]
  omega
end
end Go.Proofs.YthplhbcafihacaaDoor.Net

/- The laws of the adjustment on lists of residuals and coordinates. Plain mathematics. -/

namespace Go.Proofs.YthplhbcafihacaaDoor.Net
open Go.RowKit Go.Proofs.YthplhbcafihacaaDoorW.PrintWords Go.Proofs.YthplhbcafihacaaDoor.Plain
open Go.Proofs.YthplhbcafihacaaDoor.Det
set_option linter.unusedVariables false
set_option linter.unusedSimpArgs false
/-! ### Least and greatest -/
section
variable {ls : L}
theorem coL_len (ls : L) (ax : Int) : (coL ls ax).length = 8 := coTo_len ls ax _
end
end Go.Proofs.YthplhbcafihacaaDoor.Net

/- The program's residual of a leg, walked. -/
namespace Go.Proofs.YthplhbcafihacaaDoor.Net
open Go Go.RowKit Go.Proofs.YthplhbcafihacaaDoorW.PrintWords Go.Proofs.YthplhbcafihacaaDoorW.PrintLast Go.Proofs.YthplhbcafihacaaDoorW.PrintMore Go.Proofs.YthplhbcafihacaaDoor.A Go.Proofs.YthplhbcafihacaaDoor.Plain
set_option linter.unusedVariables false
set_option linter.unusedSimpArgs false
/-! ### The residual -/
def resM (x : S50) (axis : Int) (cs : List Int) (den : Int) : Int := wrap64 (wrap64 (wrap64 (onM (shift x) axis * den) - rd cs x.f1) + rd cs x.f0)
set_option maxHeartbeats 2000000 in
set_option maxRecDepth 100000 in
theorem residualW (A2 : Option Addr) (c2 : Nat) (cs : List Int) (x : S50) (axis den : Int) (w : World) (hL : Sine.Laid w) (hr2 : Kd.C (Kd.int .i64) w A2 cs.length cs) (h8 : cs.length = 8) (hx : Good x) (h0 : 0 ≤ axis) (h2 : axis ≤ 2) :
    Calls Tryd.prog 37 #[.agg #[.int .i64 x.f0, .int .i64 x.f1, .int .i64 x.f2, .int .i64 x.f3, .int .i64 x.f4], .int .i64 axis, .slice A2 cs.length c2, .int .i64 den] w fun e w' => e = .returned (.int .i64 (resM x axis cs den)) ∧ Below w.heap.size w w' := by
  have HLS := Aside0.mk (fun W (hl : Sine.Laid W) => legShift x W hl hx)
  have HON := Aside0.mk (fun W => onW (shift x) axis h0 h2 W)
  obtain ⟨⟨a0, a8⟩, ⟨d0, d8⟩, had, _⟩ := hx
  obtain ⟨ad, e1, p0⟩ := Kd.at_int hr2 x.f0 (by omega) (by omega)
  obtain ⟨ad', e2, p1⟩ := Kd.at_int hr2 x.f1 (by omega) (by omega)
  subst e1
  cases e2
  have k0 : x.f0 < (cs.length : Int) := by omega
  have k1 : x.f1 < (cs.length : Int) := by omega
  unfold resM
  obtain ⟨sv, hsv⟩ : ∃ sv, sv = onM (shift x) axis := ⟨_, rfl⟩
  rw [← hsv]
  simp only [← hsv] at HON
  have HL := Aside0.mk hL
  have HB := Aside0.mk (below_alloc (Below.refl w.heap.size w) (Obj.cells #[Value.int IntKind.i64 x.f0, Value.int IntKind.i64 x.f1, Value.int IntKind.i64 x.f2, Value.int IntKind.i64 x.f3, Value.int IntKind.i64 x.f4] 50))
  clear hr2 hL hsv
  go_enter Tryd.func37, Tryd.ntmps37
  go_wp2
  have h0 : (w.alloc (Obj.cells #[Value.int IntKind.i64 x.f0, Value.int IntKind.i64 x.f1, Value.int IntKind.i64 x.f2, Value.int IntKind.i64 x.f3, Value.int IntKind.i64 x.f4] 50)).cell? ⟨w.heap.size, 0, none⟩ = some (.int .i64 x.f0) := by go_simp
  have h1 : (w.alloc (Obj.cells #[Value.int IntKind.i64 x.f0, Value.int IntKind.i64 x.f1, Value.int IntKind.i64 x.f2, Value.int IntKind.i64 x.f3, Value.int IntKind.i64 x.f4] 50)).cell? ⟨w.heap.size, 1, none⟩ = some (.int .i64 x.f1) := by go_simp
  have h2 : (w.alloc (Obj.cells #[Value.int IntKind.i64 x.f0, Value.int IntKind.i64 x.f1, Value.int IntKind.i64 x.f2, Value.int IntKind.i64 x.f3, Value.int IntKind.i64 x.f4] 50)).cell? ⟨w.heap.size, 2, none⟩ = some (.int .i64 x.f2) := by go_simp
  have h3 : (w.alloc (Obj.cells #[Value.int IntKind.i64 x.f0, Value.int IntKind.i64 x.f1, Value.int IntKind.i64 x.f2, Value.int IntKind.i64 x.f3, Value.int IntKind.i64 x.f4] 50)).cell? ⟨w.heap.size, 3, none⟩ = some (.int .i64 x.f3) := by go_simp
  have h4 : (w.alloc (Obj.cells #[Value.int IntKind.i64 x.f0, Value.int IntKind.i64 x.f1, Value.int IntKind.i64 x.f2, Value.int IntKind.i64 x.f3, Value.int IntKind.i64 x.f4] 50)).cell? ⟨w.heap.size, 4, none⟩ = some (.int .i64 x.f4) := by go_simp
  replace p0 := Sine.keepc p0 HB.out
  replace p1 := Sine.keepc p1 HB.out
  generalize (w.alloc (Obj.cells #[Value.int IntKind.i64 x.f0, Value.int IntKind.i64 x.f1, Value.int IntKind.i64 x.f2, Value.int IntKind.i64 x.f3, Value.int IntKind.i64 x.f4] 50)) = W1 at *
  go_region_held3 (fun w' => w'.cell? ⟨w.heap.size, 0, none⟩ = some (.int .i64 x.f0) ∧ w'.cell? ⟨w.heap.size, 1, none⟩ = some (.int .i64 x.f1) ∧ w'.cell? ⟨w.heap.size, 2, none⟩ = some (.int .i64 x.f2) ∧ w'.cell? ⟨w.heap.size, 3, none⟩ = some (.int .i64 x.f3) ∧ w'.cell? ⟨w.heap.size, 4, none⟩ = some (.int .i64 x.f4) ∧ w'.cell? (ad.add x.f0.toNat) = some (.int .i64 (rd cs x.f0)) ∧ w'.cell? (ad.add x.f1.toNat) = some (.int .i64 (rd cs x.f1)))
    ((repeat' refine And.intro ?_ ?_) <;> exact Sine.keepc (w := W1) (by assumption) qz11)
    (first
      | (go_at_call 64; (with_reducible refine (HLS.out _ ?s1).mono ?_); (case s1 => exact HL.out.keep qz11); rintro e w' ⟨rfl, hw1⟩)
      | (go_at_call 65; (with_reducible refine (HON.out _).mono ?_); rintro e w' ⟨rfl, hw2⟩
         have HB3 : Aside0 (Below w.heap.size w w') := ⟨by (repeat (first | exact Below.refl _ _ | apply pw_below_drewN | apply below_drew1 | exact HB.out | refine below_step ?_ (by assumption))); done⟩))
  go_wp2
  go_ret
  exact ⟨by simp [i64_w], by repeat (first | exact HB3.out | apply below_drew1)⟩
/-! ### A coordinate out of bounds -/
end Go.Proofs.YthplhbcafihacaaDoor.Net

/- The program's residuals of an axis, walked. -/
namespace Go.Proofs.YthplhbcafihacaaDoor.Net
open Go Go.RowKit Go.Proofs.YthplhbcafihacaaDoorW.PrintWords Go.Proofs.YthplhbcafihacaaDoorW.PrintLast Go.Proofs.YthplhbcafihacaaDoorW.PrintMore Go.Proofs.YthplhbcafihacaaDoor.A Go.Proofs.YthplhbcafihacaaDoor.Plain
set_option linter.unusedVariables false
set_option linter.unusedSimpArgs false
/-- The residuals of the first k of the used legs, and of all. -/
def resTo (ls : L) (ax : Int) (k : Nat) : List Int := ((usedL ls).take k).map (nT ls ax)
def resL (ls : L) (ax : Int) : List Int := (usedL ls).map (nT ls ax)
theorem resTo_len (ls : L) (ax : Int) (k : Nat) : (resTo ls ax k).length ≤ k := by
  unfold resTo; rw [List.length_map, List.length_take]; omega
theorem resTo_step (ls : L) (ax : Int) (k : Nat) (h : k < (usedL ls).length) : resTo ls ax (k + 1) = resTo ls ax k ++ [nT ls ax (rd (usedL ls) (k : Int))] := by
  unfold resTo
  rw [List.take_add_one, List.map_append, rd_get _ k h, List.getElem?_eq_getElem h]
  rfl
theorem resTo_all (ls : L) (ax : Int) : resL ls ax = resTo ls ax (usedL ls).length := by
  unfold resTo resL; rw [List.take_length]
theorem res_all {ls : L} (hn : ls.length ≤ 12) (hg : ∀ x ∈ ls, Good x) (ax : Int) {k : Int} (hk : k ∈ usedL ls) : resM (leg ls k) ax (coL ls ax) (treesM ls) = nT ls ax k := rest_eq hn hg ax hk
set_option maxHeartbeats 4000000 in
set_option maxRecDepth 100000 in
theorem residualsW (ba : Nat) (lA uA pA : Option Addr) (lc uc pc : Nat) (ls : L) (ax : Int) (w : World) (hL : Sine.Laid w) (hA : Adj w ba lA uA pA lc uc pc ls (usedL ls) (unkL ls)) (ht : w.cell? ⟨ba, 4, none⟩ = some (.int .i64 (treesM ls))) (hn : ls.length ≤ 12) (hg : ∀ x ∈ ls, Good x) (h0 : 0 ≤ ax) (h2 : ax ≤ 2) :
    Calls Tryd.prog 44 #[.pointer (some ⟨ba, 0, none⟩), .int .i64 ax] w (Lst (resL ls ax) w) := by
  have HA := Aside0.mk hA
  have HL := Aside0.mk hL
  have HG := Aside0.mk hg
  have HT := Aside0.mk ht
  have HB := Aside0.mk (Below.refl w.heap.size w)
  have hul := usedL_len ls
  have HRG := Aside0.mk (usedL_range ls)
  have HRE : Aside0 (∀ k : Int, k ∈ usedL ls → resM (leg ls k) ax (coL ls ax) (treesM ls) = nT ls ax k) := ⟨fun k hk => res_all hn hg ax hk⟩
  have HLN : Aside0 (∀ k, (resTo ls ax k).length ≤ k) := ⟨resTo_len ls ax⟩
  have HST : Aside0 (∀ k, k < (usedL ls).length → resTo ls ax (k + 1) = resTo ls ax k ++ [nT ls ax (rd (usedL ls) (k : Int))]) := ⟨resTo_step ls ax⟩
  have HEND := Aside0.mk (resTo_all ls ax)
  have HCL : Aside0 ((coL ls ax).length = 8) := ⟨coL_len ls ax⟩
  have c2 := hA.c2
  clear hA hL hg ht
  go_enter Tryd.func44, Tryd.ntmps44
  go_wp2_with (first
    | (go_at_call 38; (with_reducible refine (coordinatesW ba lA uA pA lc uc pc ls ax _ ?s1 ?s2 hn HG.out h0 h2).mono ?_); (case s1 => exact HL.out.keep HB.out); (case s2 => exact HA.out.keep HB.out); rintro e w3 ⟨v, rfl, hv3, hw3⟩; replace HB := Aside0.mk (below_step HB.out hw3); have HV := Aside0.mk hv3; replace c2 := Sine.keepc c2 HB.out; clear hv3 hw3; obtain ⟨cA, cC, ec⟩ := Kd.R_slice HV.out; subst ec))
  replace HA := Aside0.mk (HA.out.keep HB.out)
  replace HT := Aside0.mk (Sine.keepc HT.out HB.out)
  replace HL := Aside0.mk (HL.out.keep HB.out)
  have HB0 := HB
  clear HB
  have HB := Aside0.mk (Below.refl w3.heap.size w3)
  go_loopw [6, 17] (fun v6 v17 W => ∃ (k : Nat), k ≤ (usedL ls).length ∧ v17 = .int .i64 k ∧ Aside0 (Kd.R (Kd.int .i64) 3 W w3.heap.size (fun _ => True) v6 (resTo ls ax k)) ∧ Aside0 (Below w3.heap.size w3 W)) (fun _ v17 _ => (usedL ls).length - (intOf v17).toNat)
  case atStart => exact ⟨0, Nat.zero_le _, rfl, ⟨Kd.R_nil _ _ _ _ _⟩, ⟨by (repeat (first | exact HB.out | exact Below.refl _ _ | apply below_alloc | apply pw_below_drewN | apply below_drew1)); done⟩⟩
  case round =>
    obtain ⟨k, hk, rfl, HO, HB2⟩ := hrel
    clear HB c2
    have HB := HB2
    clear HB2
    obtain ⟨vA, vC, ev⟩ := Kd.R_slice HO.out
    subst ev
    have hlen := HLN.out k
    by_cases hlt : k < (usedL ls).length
    · have k0 : (0 : Int) ≤ (k : Int) := by omega
      have k1 : (k : Int) < ((usedL ls).length : Int) := by omega
      have hmem : rd (usedL ls) (k : Int) ∈ usedL ls := by rw [rd_get _ k hlt]; exact List.getElem_mem hlt
      obtain ⟨ad, e1, h1⟩ := Kd.at_int (Kd.C_below HA.out.u HB.out) (k : Int) k0 k1
      rw [Int.toNat_natCast] at h1
      have hs := HRG.out _ hmem
      have HX := Aside0.mk (HST.out k hlt)
      have HE := Aside0.mk (HRE.out _ hmem)
      clear hmem
      obtain ⟨s, hs2⟩ := Int.eq_ofNat_of_zero_le hs.1
      rw [hs2] at h1 hs HX HE
      clear hs2
      have s0 : (0 : Int) ≤ (s : Int) := hs.1
      have s1 : (s : Int) < (ls.length : Int) := hs.2
      have HGX : Aside0 (Good (leg ls (s : Int))) := ⟨HG.out _ (leg_mem (by omega))⟩
      have hc1 := HA.out.c1
      have hc4 := HT.out
      obtain ⟨al, e2, g0, g1, g2, g3, g4⟩ := at_T50 HA.out.l (s : Int) s0 s1
      have ek : rd_T50 ls (s : Int) = leg ls s := rfl
      rw [Int.toNat_natCast] at g0 g1 g2 g3 g4
      rw [ek] at g0 g1 g2 g3 g4
      clear ek hs
      generalize leg ls (s : Int) = x at *
      have HQ : Aside0 (∀ W, Below w3.heap.size w3 W → Calls Tryd.prog 37 #[.agg #[.int .i64 x.f0, .int .i64 x.f1, .int .i64 x.f2, .int .i64 x.f3, .int .i64 x.f4], .int .i64 ax, .slice cA (coL ls ax).length cC, .int .i64 (treesM ls)] W fun e w' => e = .returned (.int .i64 (nT ls ax (s : Int))) ∧ Below W.heap.size W w') := ⟨fun W hb => by
        have hq := residualW cA cC (coL ls ax) x ax (treesM ls) W (HL.out.keep hb) (Kd.C_below (Kd.R_reads' HV.out).2.2 hb) HCL.out HGX.out h0 h2
        rw [HE.out] at hq; exact hq⟩
      generalize nT ls ax (s : Int) = nv at *
      subst e1
      go_wp2_with fail
      subst e2
      --@region
      refine start_ (n := 18) (S := (fun w' => w'.cell? ⟨ba, 1, none⟩ = some (.slice (some al) ls.length lc) ∧ w'.cell? ⟨ba, 4, none⟩ = some (.int .i64 (treesM ls)) ∧ w'.cell? (al.add (s * 5)) = some (.int .i64 x.f0) ∧ w'.cell? { block := (al.add (s * 5)).block, off := (al.add (s * 5)).off + 1 } = some (.int .i64 x.f1) ∧ w'.cell? { block := (al.add (s * 5)).block, off := (al.add (s * 5)).off + 2 } = some (.int .i64 x.f2) ∧ w'.cell? { block := (al.add (s * 5)).block, off := (al.add (s * 5)).off + 3 } = some (.int .i64 x.f3) ∧ w'.cell? { block := (al.add (s * 5)).block, off := (al.add (s * 5)).off + 4 } = some (.int .i64 x.f4))) (ds := []) #[false, false, false, false, false, false, false, false, false, false, false, false, false, false, false, false, false, false] qz4 rfl rfl qz21 (fun hHeld => ?_)
      refine pure_ (i := 0) (N := some 21) (v := ?_) (a' := ?_) #[true, false, false, false, false, false, false, false, false, false, false, false, false, false, false, false, false, false] rfl rfl qz4 (fun _ _ _ h => h) (Or.inl ⟨by rfl, ?_⟩) ?_ ?_
      rotate_left
      · intro w'
        go_simp
        with_reducible rfl
      rotate_left
      · simp only [Act.put, List.setIfInBounds_toArray, List.set_cons_zero, List.set_cons_succ, i64_w, i32_w]
        rfl
      refine pure_ (i := 1) (N := some 22) (v := ?_) (a' := ?_) #[true, true, false, false, false, false, false, false, false, false, false, false, false, false, false, false, false, false] rfl rfl qz4 (fun _ _ _ h => h) (Or.inl ⟨by rfl, ?_⟩) ?_ ?_
      rotate_left
      · intro w'
        go_simp
        with_reducible rfl
      rotate_left
      · simp only [Act.put, List.setIfInBounds_toArray, List.set_cons_zero, List.set_cons_succ, i64_w, i32_w]
        rfl
      refine pure_ (i := 2) (N := some 23) (v := ?_) (a' := ?_) #[true, true, true, false, false, false, false, false, false, false, false, false, false, false, false, false, false, false] rfl rfl qz4 (fun _ _ _ h => h) (Or.inl ⟨by rfl, ?_⟩) ?_ ?_
      rotate_left
      · intro w'
        go_simp
        with_reducible rfl
      rotate_left
      · simp only [Act.put, List.setIfInBounds_toArray, List.set_cons_zero, List.set_cons_succ, i64_w, i32_w]
        rfl
      refine pure_ (i := 3) (N := some 24) (v := ?_) (a' := ?_) #[true, true, true, true, false, false, false, false, false, false, false, false, false, false, false, false, false, false] rfl rfl qz4 (fun _ _ _ h => h) (Or.inl ⟨by rfl, ?_⟩) ?_ ?_
      rotate_left
      · intro w'
        go_simp
        with_reducible rfl
      rotate_left
      · simp only [Act.put, List.setIfInBounds_toArray, List.set_cons_zero, List.set_cons_succ, i64_w, i32_w]
        rfl
      refine take_ (i := 4) (N := some 25) (v := ?_) (a' := ?_) #[true, true, true, true, true, false, false, false, false, false, false, false, false, false, false, false, false, false] rfl rfl qz4 (fun _ _ _ h => h) (Or.inl ⟨by rfl, ?_⟩) hHeld ?_ ?_
      rotate_left
      · rintro w' ⟨s0, s1, s2, s3, s4, s5, s6⟩
        go_simp
        with_reducible rfl
      rotate_left
      · simp only [Act.put, List.setIfInBounds_toArray, List.set_cons_zero, List.set_cons_succ, i64_w, i32_w]
        rfl
      refine pure_ (i := 5) (N := some 26) (v := ?_) (a' := ?_) #[true, true, true, true, true, true, false, false, false, false, false, false, false, false, false, false, false, false] rfl rfl qz4 (fun _ _ _ h => h) (Or.inl ⟨by rfl, ?_⟩) ?_ ?_
      rotate_left
      · intro w'
        go_simp
        with_reducible rfl
      rotate_left
      · simp only [Act.put, List.setIfInBounds_toArray, List.set_cons_zero, List.set_cons_succ, i64_w, i32_w]
        rfl
      refine pure_ (i := 6) (N := some 27) (v := ?_) (a' := ?_) #[true, true, true, true, true, true, true, false, false, false, false, false, false, false, false, false, false, false] rfl rfl qz4 (fun _ _ _ h => h) (Or.inl ⟨by rfl, ?_⟩) ?_ ?_
      rotate_left
      · intro w'
        go_simp
        with_reducible rfl
      rotate_left
      · simp only [Act.put, List.setIfInBounds_toArray, List.set_cons_zero, List.set_cons_succ, i64_w, i32_w]
        rfl
      refine take_ (i := 7) (N := some 28) (v := ?_) (a' := ?_) #[true, true, true, true, true, true, true, true, false, false, false, false, false, false, false, false, false, false] rfl rfl qz4 (fun _ _ _ h => h) (Or.inl ⟨by rfl, ?_⟩) hHeld ?_ ?_
      rotate_left
      · rintro w' ⟨s0, s1, s2, s3, s4, s5, s6⟩
        go_simp
        with_reducible rfl
      rotate_left
      · simp only [Act.put, List.setIfInBounds_toArray, List.set_cons_zero, List.set_cons_succ, i64_w, i32_w]
        rfl
      refine pure_ (i := 8) (N := some 29) (v := ?_) (a' := ?_) #[true, true, true, true, true, true, true, true, true, false, false, false, false, false, false, false, false, false] rfl rfl qz4 (fun _ _ _ h => h) (Or.inl ⟨by rfl, ?_⟩) ?_ ?_
      rotate_left
      · intro w'
        go_simp
        with_reducible rfl
      rotate_left
      · simp only [Act.put, List.setIfInBounds_toArray, List.set_cons_zero, List.set_cons_succ, i64_w, i32_w]
        rfl
      refine pure_ (i := 9) (N := some 30) (v := ?_) (a' := ?_) #[true, true, true, true, true, true, true, true, true, true, false, false, false, false, false, false, false, false] rfl rfl qz4 (fun _ _ _ h => h) (Or.inl ⟨by rfl, ?_⟩) ?_ ?_
      rotate_left
      · intro w'
        go_simp
        with_reducible rfl
      rotate_left
      · simp only [Act.put, List.setIfInBounds_toArray, List.set_cons_zero, List.set_cons_succ, i64_w, i32_w]
        rfl
      refine pure_ (i := 10) (N := some 31) (v := ?_) (a' := ?_) #[true, true, true, true, true, true, true, true, true, true, true, false, false, false, false, false, false, false] rfl rfl qz4 (fun _ _ _ h => h) (Or.inl ⟨by rfl, ?_⟩) ?_ ?_
      rotate_left
      · intro w'
        go_simp
        with_reducible rfl
      rotate_left
      · simp only [Act.put, List.setIfInBounds_toArray, List.set_cons_zero, List.set_cons_succ, i64_w, i32_w]
        rfl
      refine pure_ (i := 11) (N := some 32) (v := ?_) (a' := ?_) #[true, true, true, true, true, true, true, true, true, true, true, true, false, false, false, false, false, false] rfl rfl qz4 (fun _ _ _ h => h) (Or.inl ⟨by rfl, ?_⟩) ?_ ?_
      rotate_left
      · intro w'
        go_simp
        with_reducible rfl
      rotate_left
      · simp only [Act.put, List.setIfInBounds_toArray, List.set_cons_zero, List.set_cons_succ, i64_w, i32_w]
        rfl
      refine pure_ (i := 12) (N := some 33) (v := ?_) (a' := ?_) #[true, true, true, true, true, true, true, true, true, true, true, true, true, false, false, false, false, false] rfl rfl qz4 (fun _ _ _ h => h) (Or.inl ⟨by rfl, ?_⟩) ?_ ?_
      rotate_left
      · intro w'
        go_simp
        with_reducible rfl
      rotate_left
      · simp only [Act.put, List.setIfInBounds_toArray, List.set_cons_zero, List.set_cons_succ, i64_w, i32_w]
        rfl
      refine take_ (i := 13) (N := some 34) (v := ?_) (a' := ?_) #[true, true, true, true, true, true, true, true, true, true, true, true, true, true, false, false, false, false] rfl rfl qz4 (fun _ _ _ h => h) (Or.inl ⟨by rfl, ?_⟩) hHeld ?_ ?_
      rotate_left
      · rintro w' ⟨s0, s1, s2, s3, s4, s5, s6⟩
        go_simp
        with_reducible rfl
      rotate_left
      · simp only [Act.put, List.setIfInBounds_toArray, List.set_cons_zero, List.set_cons_succ, i64_w, i32_w]
        rfl
      refine one_ (i := 14) (N := some 35) #[true, true, true, true, true, true, true, true, true, true, true, true, true, true, true, false, false, false] rfl rfl qz4 (by decide) (fun K hK => ?_)
      refine goes_ Tryd.func37 qz4 rfl #[.agg #[.int .i64 x.f0, .int .i64 x.f1, .int .i64 x.f2, .int .i64 x.f3, .int .i64 x.f4], .int .i64 ax, .slice cA (coL ls ax).length cC, .int .i64 (treesM ls)] (by rfl) rfl rfl (by (try simp only [List.map_toArray, List.map_cons, List.map_nil]); first | done | rfl) ?_
      (with_reducible refine (HQ.out _ ?s1).mono ?_); (case s1 => ((repeat (first | exact Below.refl _ _ | apply pw_below_drewN | apply below_drew1 | exact HB.out | refine below_step ?_ (by assumption))); done)); rintro e w5 ⟨rfl, hw5⟩
      have hb5 := below_step (show Below wr.heap.size wr _ from by (repeat (first | exact Below.refl _ _ | apply pw_below_drewN | apply below_drew1 | exact HB.out | refine below_step ?_ (by assumption))); done) hw5
      have HB5 := Aside0.mk (below_step HB.out hb5)
      have HO5 := Aside0.mk (Kd.R_below HO.out hb5)
      refine ⟨_, rfl, ?_⟩
      refine hK.out _ _ qz21 (fun hHeld => ?_)
      clear hK K
      refine norm_ (a' := ?_) ?_ ?_
      rotate_left
      · show Act.put _ (some 35) _ = _
        simp only [Act.put, List.setIfInBounds_toArray, List.set_cons_zero, List.set_cons_succ, i64_w, i32_w]
        rfl
      refine one_ (i := 15) (N := some 36) #[true, true, true, true, true, true, true, true, true, true, true, true, true, true, true, true, false, false] rfl rfl qz4 (by decide) (fun K hK => ?_)
      refine value_ (w1 := ?_) (v := ?_) (by rfl) rfl ?_ ?_
      rotate_left 2
      · go_simp
        constructor
        · rfl
        · rfl
      refine hK.out _ _ qz21 (fun hHeld => ?_)
      clear hK K
      refine norm_ (a' := ?_) ?_ ?_
      rotate_left
      · show Act.put _ (some 36) _ = _
        simp only [Act.put, List.setIfInBounds_toArray, List.set_cons_zero, List.set_cons_succ, i64_w, i32_w]
        rfl
      refine one_ (i := 16) (N := some 37) #[true, true, true, true, true, true, true, true, true, true, true, true, true, true, true, true, true, false] rfl rfl qz4 (by decide) (fun K hK => ?_)
      refine Kd.R_append_step (Kd.int .i64) (w0 := w3) w3.heap.size (by rfl) (.tmp 21) (.tmp 36) 36 3 (.int .i64 0) 8 rfl Tryd.underlying36 info3 rfl (by decide) (by omega) (.slice vA (resTo ls ax k).length vC) (resTo ls ax k) nv [.int .i64 nv] (fun _ => True) (fun _ => False) rfl rfl ?aP (fun _ hk => hk.elim) ?aF ?aO ?aB ?aS ?aL ?_
      (case aP => exact rfl)
      (case aF => intro b hb; trivial)
      (case aO => exact HO5.out)
      (case aB => exact HB5.out)
      (case aS => exact below_size HB5.out)
      (case aL => omega)
      intro v7_ w7_ ho hb hg hat
      have HP2 := Aside0.mk ho
      have HP3 := Aside0.mk hb
      refine hK.out _ _ qz21 (fun hHeld => ?_)
      clear hK K
      refine norm_ (a' := ?_) ?_ ?_
      rotate_left
      · show Act.put _ (some 37) _ = _
        simp only [Act.put, List.setIfInBounds_toArray, List.set_cons_zero, List.set_cons_succ, i64_w, i32_w]
        rfl
      refine pure_ (i := 17) (N := some 6) (v := ?_) (a' := ?_) #[true, true, true, true, true, true, true, true, true, true, true, true, true, true, true, true, true, true] rfl rfl qz4 (fun _ _ _ h => h) (Or.inl ⟨by rfl, ?_⟩) ?_ ?_
      rotate_left
      · intro w'
        go_simp
        with_reducible rfl
      rotate_left
      · simp only [Act.put, List.setIfInBounds_toArray, List.set_cons_zero, List.set_cons_succ, i64_w, i32_w]
        rfl
      refine done_ qz4 ?_
      --@end
      go_wp2
      exact ⟨⟨k + 1, hlt, by go_num, by rw [HX.out]; exact HP2, HP3⟩, by simp [intOf]; omega⟩
    · obtain rfl : k = (usedL ls).length := by omega
      go_wp2
      exact bodyPost_ret (v := .slice vA (resTo ls ax (usedL ls).length).length vC) (by simp [results, Tryd.results44, go_sem]) rfl ⟨_, rfl, by rw [HEND.out]; exact Kd.R_lower HO.out (below_size HB0.out), below_step HB0.out HB.out⟩
end Go.Proofs.YthplhbcafihacaaDoor.Net

/- The legs without residuals, in plain: axis by axis, leg by leg. -/

namespace Go.Proofs.YthplhbcafihacaaDoor.Net
open Go.RowKit Go.Proofs.YthplhbcafihacaaDoorW.PrintWords Go.Proofs.YthplhbcafihacaaDoor.Plain Go.Proofs.YthplhbcafihacaaDoor.A
set_option linter.unusedVariables false
set_option linter.unusedSimpArgs false
/-- What is left behind a axes. -/
def exA (ls : L) : Nat → List Int
  | 0 => usedL ls
  | a + 1 => (exA ls a).filter (fun k => nT ls (a : Int) k == 0)
/-- What is left behind j legs of axis a. -/
def exJ (ls : L) (a : Nat) : Nat → List Int
  | 0 => exA ls a
  | j + 1 => if nT ls (a : Int) (rd (usedL ls) (j : Int)) = 0 then exJ ls a j else (exJ ls a j).filter (· != rd (usedL ls) (j : Int))
theorem exA_sub (ls : L) : ∀ a, ∀ k ∈ exA ls a, k ∈ usedL ls
  | 0, _, h => h
  | a + 1, k, h => exA_sub ls a k (List.mem_filter.mp h).1
theorem exJ_mem (ls : L) (a : Nat) : ∀ j, j ≤ (usedL ls).length → exJ ls a j = (exA ls a).filter (fun k => decide (k ∈ (usedL ls).take j → nT ls (a : Int) k = 0))
  | 0, _ => by
    show exA ls a = _
    rw [List.filter_eq_self.mpr]
    intro k _
    rw [List.take_zero]
    exact decide_eq_true (fun h => by cases h)
  | j + 1, h => by
    have ih := exJ_mem ls a j (by omega)
    have hx : rd (usedL ls) (j : Int) = (usedL ls)[j]'(by omega) := rd_get _ j (by omega)
    have hm : ∀ k, k ∈ (usedL ls).take (j + 1) ↔ k ∈ (usedL ls).take j ∨ k = rd (usedL ls) (j : Int) := fun k => by
      rw [List.take_succ_eq_append_getElem (by omega), List.mem_append, List.mem_singleton, hx]
    unfold exJ
    generalize rd (usedL ls) (j : Int) = u at *
    rw [ih]
    split
    · rename_i c
      refine List.filter_congr fun k hk => decide_eq_decide.mpr ?_
      rw [hm]
      refine ⟨fun g e => e.elim g (fun e => by rw [e]; exact c), fun g e => g (Or.inl e)⟩
    · rename_i c
      rw [List.filter_filter]
      refine List.filter_congr fun k hk => ?_
      rw [Bool.eq_iff_iff, Bool.and_eq_true, bne_iff_ne, decide_eq_true_eq, decide_eq_true_eq, hm]
      refine ⟨fun ⟨g1, g2⟩ e => e.elim g2 (fun e => absurd e g1), fun g => ⟨fun e => c (by rw [← e]; exact g (Or.inr e)), fun e => g (Or.inl e)⟩⟩
theorem exJ_end (ls : L) (a : Nat) : exJ ls a (usedL ls).length = exA ls (a + 1) := by
  rw [exJ_mem ls a _ (Nat.le_refl _), List.take_length]
  show _ = (exA ls a).filter _
  refine List.filter_congr fun k hk => ?_
  have : k ∈ usedL ls := exA_sub ls a k hk
  rw [Bool.eq_iff_iff, decide_eq_true_eq, beq_iff_eq]
  exact ⟨fun g => g this, fun g _ => g⟩
theorem exJ_len (ls : L) (a : Nat) : ∀ j, (exJ ls a j).length ≤ (exA ls a).length
  | 0 => Nat.le_refl _
  | j + 1 => by
    unfold exJ
    split
    · exact exJ_len ls a j
    · exact Nat.le_trans (List.length_filter_le _ _) (exJ_len ls a j)
theorem exA_len (ls : L) : ∀ a, (exA ls a).length ≤ (usedL ls).length
  | 0 => Nat.le_refl _
  | a + 1 => Nat.le_trans (List.length_filter_le _ _) (exA_len ls a)
theorem exA_three (ls : L) : exA ls 3 = (usedL ls).filter (fun k => decide (nT ls 0 k = 0 ∧ nT ls 1 k = 0 ∧ nT ls 2 k = 0)) := by
  show (((usedL ls).filter (fun k => nT ls ((0 : Nat) : Int) k == 0)).filter (fun k => nT ls ((1 : Nat) : Int) k == 0)).filter (fun k => nT ls ((2 : Nat) : Int) k == 0) = _
  rw [List.filter_filter, List.filter_filter]
  refine List.filter_congr fun k hk => ?_
  by_cases h0 : nT ls 0 k = 0 <;> by_cases h1 : nT ls 1 k = 0 <;> by_cases h2 : nT ls 2 k = 0 <;> simp [h0, h1, h2]
end Go.Proofs.YthplhbcafihacaaDoor.Net

namespace Go.Proofs.YthplhbcafihacaaDoor.A
open Go Go.RowKit Go.Proofs.YthplhbcafihacaaDoorW.PrintWords Go.Proofs.YthplhbcafihacaaDoorW.PrintLast Go.Proofs.YthplhbcafihacaaDoorW.PrintMore
open Go.Proofs.YthplhbcafihacaaDoor.Net
set_option linter.unusedVariables false
set_option linter.unusedSimpArgs false
def exactM (ls : L) : List Int × Bool := if legsB ls = true then (exA ls 3, true) else ([], false)
def impl_ExactLegs.f (l0 : List (S50)) : Option (List Int × Bool) := if l0.length ≤ 140737488351232 then some (exactM l0) else none
/-- The clone of the used legs: a row of its own, at block g where there is one. -/
theorem cloneAny (uA : Option Addr) (uc : Nat) (l : List Int) (w : World) (hr : Kd.C (Kd.int .i64) w uA l.length l) (hn : l.length ≤ 1000) :
    Calls Tryd.prog 48 #[.slice uA l.length uc] w fun e w' => ∃ G g cap, e = .returned (.slice G l.length cap) ∧ (0 < l.length → G = some ⟨g, 0, none⟩ ∧ w.heap.size ≤ g ∧ g < w'.heap.size) ∧ Kd.R (Kd.int .i64) 3 w' w.heap.size (fun _ => True) (.slice G l.length cap) l ∧ Below w.heap.size w w' := by
  cases uA with
  | none =>
    have e0 : l = [] := by
      by_cases hp : 0 < l.length
      · obtain ⟨ad, e1, _⟩ := Kd.at_int hr 0 (by omega) (by omega)
        cases e1
      · exact List.length_eq_zero_iff.mp (by omega)
    subst e0
    refine (cloneI0 _ uc w).mono ?_
    rintro e w' ⟨rfl, hb⟩
    exact ⟨none, 0, 0, rfl, fun h => absurd h (by simp), Kd.R_nil _ _ _ _ _, hb⟩
  | some la =>
    refine (cloneIW la uc l w hr hn).mono ?_
    rintro e w' ⟨v, rfl, hv, hb⟩
    by_cases hp : 0 < l.length
    · obtain ⟨g, cap, rfl, h1, h2, _⟩ := Kd.R_form hv hp
      exact ⟨_, g, cap, rfl, fun _ => ⟨rfl, h1, h2⟩, hv, hb⟩
    · obtain ⟨G, cap, rfl⟩ := Kd.R_slice hv
      exact ⟨G, 0, cap, rfl, fun h => absurd h hp, hv, hb⟩
theorem resForm {w w5 : World} {v : Value} {l : List Int} (h : Kd.R (Kd.int .i64) 3 w5 w.heap.size (fun _ => True) v l) : ∃ A hh cp, v = .slice A l.length cp ∧ (0 < l.length → A = some ⟨hh, 0, none⟩ ∧ w.heap.size ≤ hh ∧ hh < w5.heap.size ∧ ∀ t : Nat, t < l.length → w5.cell? ⟨hh, t, none⟩ = some (.int .i64 (rd l (t : Int)))) := by
  by_cases hp : 0 < l.length
  · obtain ⟨g, cap, rfl, h1, h2, _⟩ := Kd.R_form h hp
    exact ⟨_, g, cap, rfl, fun _ => ⟨rfl, h1, h2, fun t ht => by
      have h3 := (Kd.R_celln 0 h (t : Int) (by omega) (by omega)).1
      rw [Int.toNat_natCast] at h3
      exact h3⟩⟩
  · obtain ⟨A, cp, rfl⟩ := Kd.R_slice h
    exact ⟨A, 0, cp, rfl, fun h => absurd h hp⟩
theorem exA_step (ls : L) (a : Nat) (j : Nat) : exJ ls a (j + 1) = if nT ls (a : Int) (rd (usedL ls) (j : Int)) = 0 then exJ ls a j else (exJ ls a j).filter (· != rd (usedL ls) (j : Int)) := rfl
set_option maxHeartbeats 4000000 in
set_option maxRecDepth 100000 in
theorem impl_ExactLegs.calls (A0 : Option Addr) (c : Nat) (ls : List (S50)) (r1 : List Int) (r2 : Bool) (w : World) (hr0 : Kd.C k50 w A0 ls.length ls) (hc : ls.length ≤ c) (h : impl_ExactLegs.f ls = some (r1, r2)) (hL : Sine.Laid w) :
    Calls Tryd.prog 20 #[.slice A0 ls.length c] w fun e w' => ∃ v0_ : Value, e = .returned (.tuple #[v0_, .bool r2]) ∧ Kd.R (Kd.int .i64) 3 w' w.heap.size (fun _ => True) v0_ r1 ∧ Below w.heap.size w w' := by
  unfold impl_ExactLegs.f at h
  by_cases hb : ls.length ≤ 140737488351232
  case neg => rw [if_neg hb] at h; cases h
  rw [if_pos hb] at h
  obtain ⟨K, hK⟩ := areLegs_ev ls hb
  have HA := Aside0.mk (hK K (Nat.le_refl _))
  have HR := Aside0.mk hr0
  have HL := Aside0.mk hL
  have HB := Aside0.mk (Below.refl w.heap.size w)
  clear hK hr0 hL hb
  unfold exactM at h
  cases hv : legsB ls
  · rw [if_neg (by rw [hv]; simp)] at h
    simp only [Option.some.injEq, Prod.mk.injEq] at h
    obtain ⟨rfl, rfl⟩ := h
    rw [hv] at HA
    clear hv
    go_enter Tryd.func20, Tryd.ntmps20
    go_wp2_with (go_at_call 41; (with_reducible refine (impl_areLegs.calls K _ _ ls false _ ?s1 ?s2 HA.out).mono ?_); (case s1 => exact Kd.C_below HR.out (by (repeat (first | exact HB.out | exact Below.refl _ _ | apply below_alloc | apply pw_below_drewN | apply below_drew1)); done)); (case s2 => exact hc); rintro e w' ⟨rfl, hw⟩; replace HB := Aside0.mk (below_step (show Below w.heap.size w _ from by (repeat (first | exact HB.out | exact Below.refl _ _ | apply below_alloc | apply pw_below_drewN | apply below_drew1)); done) hw); clear hw)
    exact bodyPost_ret (v := .tuple #[.slice none 0 0, .bool false]) (by simp [results, Tryd.results20, go_sem]) rfl ⟨_, rfl, Kd.R_nil _ _ _ _ _, by repeat (first | exact HB.out | apply below_drew1)⟩
  · rw [hv] at HA
    rw [if_pos hv] at h
    simp only [Option.some.injEq, Prod.mk.injEq] at h
    obtain ⟨rfl, rfl⟩ := h
    have hv' := legsB_iff.mp hv
    have HG := Aside0.mk hv'.1
    have hn := hv'.2
    clear hv hv'
    go_enter Tryd.func20, Tryd.ntmps20
    go_wp2_with (first
      | (go_at_call 41; (with_reducible refine (impl_areLegs.calls K _ _ ls true _ ?s1 ?s2 HA.out).mono ?_); (case s1 => exact Kd.C_below HR.out (by (repeat (first | exact HB.out | exact Below.refl _ _ | apply below_alloc | apply pw_below_drewN | apply below_drew1)); done)); (case s2 => exact hc); rintro e w' ⟨rfl, hw⟩; replace HB := Aside0.mk (below_step (show Below w.heap.size w _ from by (repeat (first | exact HB.out | exact Below.refl _ _ | apply below_alloc | apply pw_below_drewN | apply below_drew1)); done) hw); clear hw)
      | (go_at_call 35; (with_reducible refine (adjustW A0 c ls _ ?s1 ?s2 hc hn HG.out).mono ?_); (case s1 => exact HL.out.keep HB.out); (case s2 => exact Kd.C_below HR.out HB.out); rintro e w2 ⟨ba, uA, pA, uc, pc, rfl, hadj, ht, hba, hw⟩; replace HB := Aside0.mk (below_step HB.out hw); have HJ := Aside0.mk hadj; have B3 := below_alloc (Below.refl w2.heap.size w2) (Obj.cells #[Value.pointer (some { block := ba, off := 0 })] 58); have d2 := Sine.keepc hadj.c2 B3; have d4 : (w2.alloc (Obj.cells #[Value.pointer (some { block := ba, off := 0 })] 58)).cell? ⟨w2.heap.size, 0, none⟩ = some (.pointer (some ⟨ba, 0, none⟩)) := (by go_simp); clear hadj hw)
      | (go_at_call 48; generalize w2.alloc (Obj.cells #[Value.pointer (some { block := ba, off := 0 })] 58) = w3 at *; (with_reducible refine (cloneAny uA uc (usedL ls) w3 ?s1 ?s2).mono ?_); (case s1 => exact Kd.C_below HJ.out.u B3); (case s2 => have := usedL_len ls; omega); rintro e w4 ⟨G, g, cap, rfl, hg, hv4, hw4⟩; have HV := Aside0.mk hv4; have HB3 := Aside0.mk (below_step HB.out B3); have HJ3 := Aside0.mk (HJ.out.keep B3); have H4 := Aside0.mk d4; have ht3 := Sine.keepc ht B3; have hsz := World.block_lt_of_cell? _ _ d4; have HB4 := Aside0.mk hw4; clear hv4 d2 d4 ht hw4 HB HJ B3 hba))
    generalize w2.heap.size = q4 at *
    have HGG := Aside0.mk hg
    have hul := usedL_len ls
    clear hg
    go_loopw [5, 6] (fun v5 v6 W => ∃ a : Nat, a ≤ 3 ∧ v6 = .int .i64 a ∧ v5 = .slice G (exA ls a).length cap ∧ Aside0 (Kd.R (Kd.int .i64) 3 W w3.heap.size (fun _ => True) (.slice G (exA ls a).length cap) (exA ls a)) ∧ Aside0 (0 < (usedL ls).length → g < W.heap.size) ∧ Aside0 (Below w3.heap.size w3 W)) (fun _ v6 _ => 3 - (intOf v6).toNat)
    case atStart => exact ⟨0, by omega, rfl, rfl, HV, ⟨fun h => (HGG.out h).2.2⟩, HB4⟩
    case round =>
      obtain ⟨a, ha, rfl, rfl, HX, HS, HW⟩ := hrel
      clear HV HB4
      by_cases hlt : a < 3
      · have a0 : (0 : Int) ≤ (a : Int) := by omega
        have a2 : (a : Int) ≤ 2 := by omega
        have h4 : wr.cell? ⟨q4, 0, none⟩ = some (.pointer (some ⟨ba, 0, none⟩)) := (HW.out.cell hsz).trans H4.out
        have HRL : Aside0 ((resL ls (a : Int)).length = (usedL ls).length ∧ ∀ k : Nat, k < (usedL ls).length → rd (resL ls (a : Int)) (k : Int) = nT ls (a : Int) (rd (usedL ls) (k : Int))) := ⟨by unfold resL; rw [List.length_map], fun k hk => by
          rw [Net.rd_get _ k (by unfold resL; rw [List.length_map]; exact hk), Net.rd_get _ k hk]
          unfold resL
          rw [List.getElem_map]⟩
        go_wp2_with (go_at_call 44; (with_reducible refine (residualsW ba A0 uA pA c uc pc ls (a : Int) _ ?s1 ?s2 ?s3 hn HG.out a0 a2).mono ?_); (case s1 => exact HL.out.keep (below_step HB3.out HW.out)); (case s2 => exact HJ3.out.keep HW.out); (case s3 => exact Sine.keepc ht3 HW.out); rintro e w5 ⟨v, rfl, hv5, hw5⟩; obtain ⟨A5, hh, c5, ev, hres⟩ := resForm hv5; subst ev; rw [HRL.out.1] at hres; rw [HRL.out.1]; have HRS := Aside0.mk hres; have HSS : Aside0 (0 < (usedL ls).length → g < wr.heap.size) := HS; replace HS : Aside0 (0 < (usedL ls).length → g < w5.heap.size) := ⟨fun h => Nat.lt_of_lt_of_le (HSS.out h) hw5.size⟩; replace HX := Aside0.mk (Kd.R_below HX.out hw5); replace HW := Aside0.mk (below_step HW.out hw5); clear hv5 hw5 hres h4)
        have HNE : Aside0 (0 < (usedL ls).length → hh ≠ g ∧ ∀ t : Nat, t < (usedL ls).length → w5.cell? ⟨hh, t, none⟩ = some (.int .i64 (nT ls (a : Int) (rd (usedL ls) (t : Int))))) := ⟨fun h => ⟨by have h1 := (HRS.out h).2.1; have h2 := HSS.out h; omega, fun t ht => by rw [(HRS.out h).2.2.2 t ht, HRL.out.2 t ht]⟩⟩
        have HAH : Aside0 (0 < (usedL ls).length → A5 = some ⟨hh, 0, none⟩) := ⟨fun h => (HRS.out h).1⟩
        clear HRS HRL HSS
        go_loopw [5, 27] (fun v5 v27 W => ∃ j : Nat, j ≤ (usedL ls).length ∧ v27 = .int .i64 j ∧ v5 = .slice G (exJ ls a j).length cap ∧ Aside0 (Kd.R (Kd.int .i64) 3 W w3.heap.size (fun _ => True) (.slice G (exJ ls a j).length cap) (exJ ls a j)) ∧ Aside0 (0 < (usedL ls).length → g < W.heap.size) ∧ Aside0 (∀ t : Nat, t < (usedL ls).length → W.cell? ⟨hh, t, none⟩ = some (.int .i64 (nT ls (a : Int) (rd (usedL ls) (t : Int))))) ∧ Aside0 (Below w3.heap.size w3 W)) (fun _ v27 _ => (usedL ls).length - (intOf v27).toNat)
        case atStart => exact ⟨0, Nat.zero_le _, rfl, rfl, HX, HS, ⟨fun t ht => (HNE.out (by omega)).2 t ht⟩, HW⟩
        case round =>
          obtain ⟨j, hj, rfl, rfl, HX2, HS2, HC2, HW2⟩ := hrel
          clear HX HS HW
          by_cases hltj : j < (usedL ls).length
          · have hpos : 0 < (usedL ls).length := by omega
            have hA5 := HAH.out hpos
            have hGG := HGG.out hpos
            have hne := (HNE.out hpos).1
            have hgs := HS2.out hpos
            have hg1 := hGG.2.1
            have hG := hGG.1
            subst hG
            subst hA5
            have j0 : (0 : Int) ≤ (j : Int) := by omega
            have j1 : (j : Int) < ((usedL ls).length : Int) := by omega
            have h31 := HC2.out j hltj
            obtain ⟨au, e2, h2⟩ := Kd.at_int HJ3.out.u (j : Int) j0 j1
            rw [Int.toNat_natCast] at h2
            subst e2
            have HST := Aside0.mk (exA_step ls a j)
            have hlen : (exJ ls a j).length ≤ 12 := by have := exJ_len ls a j; have := exA_len ls a; omega
            have hnb : ba < w3.heap.size := World.block_lt_of_cell? _ _ HJ3.out.c2
            have hnu : au.block < w3.heap.size := by have h := World.block_lt_of_cell? _ _ h2; rw [add_block] at h; exact h
            have HH2 := Aside0.mk h2
            clear h2 hGG
            have BA := below_alloc (Below.refl wr.heap.size wr) (Obj.cells #[Value.int .i64 (j : Int)] 3)
            have HXA := Aside0.mk (Kd.R_below HX2.out BA)
            have HWA := Aside0.mk (below_step HW2.out BA)
            have HCA : Aside0 (∀ t : Nat, t < (usedL ls).length → (wr.alloc (Obj.cells #[Value.int .i64 (j : Int)] 3)).cell? ⟨hh, t, none⟩ = some (.int .i64 (nT ls (a : Int) (rd (usedL ls) (t : Int))))) := ⟨fun t ht => Sine.keepc (HC2.out t ht) BA⟩
            have hgA : g < (wr.alloc (Obj.cells #[Value.int .i64 (j : Int)] 3)).heap.size := Nat.lt_of_lt_of_le hgs BA.size
            have h7 : (wr.alloc (Obj.cells #[Value.int .i64 (j : Int)] 3)).cell? ⟨wr.heap.size, 0, none⟩ = some (.int .i64 (j : Int)) := by go_simp
            have H7 := Aside0.mk h7
            clear h7 BA
            generalize hu : rd (usedL ls) (j : Int) = u at *
            by_cases hz : nT ls (a : Int) u = 0
            · rw [hz] at h31
              have HE := Aside0.mk (HST.out.trans (if_pos hz))
              clear hz
              go_wp2
              exact ⟨⟨j + 1, hltj, by go_num, by rw [HE.out], by rw [HE.out]; exact HXA, ⟨fun _ => hgA⟩, HCA, HWA⟩, by simp [intOf]; omega⟩
            · have HE := Aside0.mk (HST.out.trans (if_neg hz))
              generalize nT ls (a : Int) u = nv at h31 hz
              go_wp2_with (go_at_call 49; (with_reducible refine (deleteW ⟨q4, 0, none⟩ ⟨wr.heap.size, 0, none⟩ au ba (usedL ls).length uc j g w3.heap.size cap (fun _ => True) u (exJ ls a j) _ HXA.out hlen ((HWA.out.cell hsz).trans H4.out) H7.out (Sine.keepc HJ3.out.c2 HWA.out) (Sine.keepc HH2.out HWA.out) hltj ?n4 ?n7 ?nb ?nu).mono ?_); (case n4 => show q4 ≠ g; omega); (case n7 => show wr.heap.size ≠ g; omega); (case nb => omega); (case nu => omega); rintro e w6 ⟨rfl, hr6, ho6⟩; have HR6 := Aside0.mk hr6; have HO6 := Aside0.mk ho6; clear hr6 ho6)
              exact ⟨⟨j + 1, hltj, by go_num, by rw [HE.out], by rw [HE.out]; exact HR6, ⟨fun _ => Nat.lt_of_lt_of_le hgA HO6.out.size⟩, ⟨fun t ht => HO6.out.cell (HCA.out t ht) hne⟩, ⟨HWA.out.trans ((HO6.out.below (Nat.le_of_lt hgA)).mono hg1)⟩⟩, by simp [intOf]; omega⟩
          · obtain rfl : j = (usedL ls).length := by omega
            have HE := Aside0.mk (exJ_end ls a)
            go_wp2
            exact ⟨⟨a + 1, hlt, by go_num, by rw [HE.out], by rw [← HE.out]; exact HX2, HS2, HW2⟩, by simp [intOf]; omega⟩
      · obtain rfl : a = 3 := by omega
        go_wp2
        exact bodyPost_ret (v := .tuple #[.slice G (exA ls 3).length cap, .bool true]) (by simp [results, Tryd.results20, go_sem]) rfl ⟨_, rfl, Kd.R_lower HX.out HB3.out.size, below_step HB3.out HW.out⟩
end Go.Proofs.YthplhbcafihacaaDoor.A
