/- The row of the law FnExactAdjustedDepth: whatever the input, it returns true; its arguments read as they did. No conditions. -/
import Derived.Deep.RegionHeld3
import Derived.Deep.Slices
import Derived.Deep.Fields
import Derived.ChangeSame
import Derived.SizedLaws
import Derived.Test.YthplhbcafihacaaDoorKFnExactAdjustedDepthVMore
import Derived.Test.YthplhbcafihacaaDoorCards
import Derived.Test.YthplhbcafihacaaDoorTie
import Derived.OpenVars
import Derived.ChangeVars
import Derived.SevenTiedAt
import Derived.Stop.Joined
import Derived.LaidMore
import Derived.Test.YthplhbcafihacaaDoorRows
import Derived.WalkKit
import Derived.ProofKit
import Derived.OpenShut
import Derived.ShutString
import Derived.ChangeOld
import Derived.Below
import Derived.Test.YthplhbcafihacaaDoorKFnExactAdjustedDepth0
import Derived.Test.YthplhbcafihacaaDoorKFnExactAdjustedDepth1
import Derived.Test.YthplhbcafihacaaDoorKFnExactAdjustedDepth2
import Derived.Test.YthplhbcafihacaaDoorKFnExactAdjustedDepth3
import Derived.Test.YthplhbcafihacaaDoorKFnExactAdjustedDepthU1
import Derived.Test.YthplhbcafihacaaDoorKFnExactAdjustedDepthU4
import Derived.Test.YthplhbcafihacaaDoorKFnExactAdjustedDepthU5
/- The equations of a network: the matrix is a grounded Laplacian; the number of trees is positive and at most 6561; the coordinates solve the equations. -/

namespace Go.Proofs.YthplhbcafihacaaDoor.Net
open Go.RowKit Go.Proofs.YthplhbcafihacaaDoorW.PrintWords Go.Proofs.YthplhbcafihacaaDoor.Plain
open Go.Proofs.YthplhbcafihacaaDoor.Det
set_option linter.unusedVariables false
set_option linter.unusedSimpArgs false
section
variable {ls : L}
theorem LT_rs (ls : L) (i : Nat) : rs (unkL ls).length 0 (LT ls) i = tot (fun k => (if (i : Int) = fa ls k ∧ fb ls k < 0 then 1 else 0) + (if (i : Int) = fb ls k ∧ fa ls k < 0 then 1 else 0)) (usedL ls) := by
  unfold rs
  rw [sumTo_congr (g := fun j => tot (fun k => lapD (fa ls k) (fb ls k) i j) (usedL ls)) (fun j _ => by rw [if_pos (Nat.zero_le j)]; rfl), sumTo_tot]
  exact tot_congr (fun k _ => lapD_sum _ _ _ (fa_lt ls k) (fb_lt ls k) i)
theorem rs_term (a b : Int) (i : Nat) : 0 ≤ (if (i : Int) = a ∧ b < 0 then (1 : Int) else 0) + (if (i : Int) = b ∧ a < 0 then 1 else 0) := by split <;> split <;> omega
/-- Station 0 stands first among the placed ones, and is no unknown. -/
theorem plL_head (hg : ∀ x ∈ ls, Good x) : plL (RR ls) = 0 :: unkL ls := by
  have hp := plL_pos ls
  have ha := asc_plL (RR ls)
  have h0 : (0 : Int) ∈ plL (RR ls) := (mem_plL _ _).mpr (by unfold Tree.verts; simp)
  unfold unkL
  cases hq : plL (RR ls) with
  | nil => rw [hq] at hp; simp at hp
  | cons h t =>
    rw [hq] at ha h0
    have hh : h = 0 := by
      have hr := Grow.in_range (ends ls) (RR_ok hg).1 (Good.range hg) h ((mem_plL _ _).mp (by rw [hq]; exact List.mem_cons_self ..))
      rcases List.mem_cons.mp h0 with e | e
      · exact e.symm
      · have := (List.pairwise_cons.mp ha).1 0 e
        omega
    rw [hh]
    rfl
theorem unk_iff (hg : ∀ x ∈ ls, Good x) (s : Int) : s ∈ unkL ls ↔ s ∈ Tree.verts 0 (RR ls) ∧ s ≠ 0 := by
  have ha := asc_plL (RR ls)
  have hm := mem_plL (RR ls) s
  rw [plL_head hg] at ha hm
  have h0 : ∀ x ∈ unkL ls, 0 < x := fun x hx => (List.pairwise_cons.mp ha).1 x hx
  rw [← hm, List.mem_cons]
  constructor
  · intro h
    exact ⟨Or.inr h, by have := h0 s h; omega⟩
  · rintro ⟨h | h, hn⟩
    · exact absurd h hn
    · exact h
theorem fnd_pos {un : List Int} {s : Int} (h : s ∈ un) : fnd un s = (un.idxOf s : Int) ∧ un.idxOf s < un.length := ⟨by unfold fnd; rw [if_pos h], List.idxOf_lt_length_iff.mpr h⟩
theorem fnd_neg {un : List Int} {s : Int} (h : s ∉ un) : fnd un s = -1 := by unfold fnd; rw [if_neg h]
theorem idx_inj {un : List Int} {s t : Int} (hs : s ∈ un) (ht : t ∈ un) (e : un.idxOf s = un.idxOf t) : s = t := by
  have h1 : un[un.idxOf s]'(List.idxOf_lt_length_iff.mpr hs) = s := List.getElem_idxOf _
  have h2 : un[un.idxOf t]'(List.idxOf_lt_length_iff.mpr ht) = t := List.getElem_idxOf _
  rw [← h1, ← h2]
  congr 1
/-- The legs of the growth are placed legs. -/
theorem used_of (hg : ∀ x ∈ ls, Good x) {x : Int × Int × Int} (hx : x ∈ RR ls) : x.1 ∈ usedL ls ∧ ((ends ls x.1 = (x.2.1, x.2.2)) ∨ ends ls x.1 = (x.2.2, x.2.1)) := by
  have ho := (RR_ok hg).1
  obtain ⟨he, h0, hn⟩ := ho.ends x hx
  obtain ⟨k, hk⟩ := Int.eq_ofNat_of_zero_le h0
  refine ⟨?_, he⟩
  have hl := ho.legs_ends (ends ls) (i := x.1) (List.mem_map.mpr ⟨x, hx, rfl⟩)
  refine (mem_selTo _ _ _).mpr ⟨k, hk, by omega, ?_⟩
  have hf : (leg ls (k : Int)).f0 ∈ Tree.verts 0 (RR ls) := by have := hl.1; rw [hk] at this; exact this
  have hgood := leg_good hg k (by omega)
  rw [Pq_eq, Int.toNat_of_nonneg hgood.1.1]
  exact decide_eq_true ((mem_plL _ _).mpr hf)
theorem LT_neg (hg : ∀ x ∈ ls, Good x) {k : Int} (hk : k ∈ usedL ls) {i j : Nat} (hij : i ≠ j) (h : (fa ls k = (i : Int) ∧ fb ls k = (j : Int)) ∨ (fa ls k = (j : Int) ∧ fb ls k = (i : Int))) : LT ls i j < 0 := by
  have hp := tot_pos (f := fun k => -(lapD (fa ls k) (fb ls k) i j)) (l := usedL ls) (fun k _ => by have := lapD_off (fa ls k) (fb ls k) hij; omega) hk (by
    show 0 < -(lapD (fa ls k) (fb ls k) i j)
    rw [lapD_eq]
    rcases h with ⟨h1, h2⟩ | ⟨h1, h2⟩ <;> rw [h1, h2]
    · rw [if_neg (by omega), if_neg (by omega), if_pos ⟨rfl, rfl⟩, if_neg (by omega)]; omega
    · rw [if_neg (by omega), if_neg (by omega), if_neg (by omega), if_pos ⟨rfl, rfl⟩]; omega)
  have e : tot (fun k => -(lapD (fa ls k) (fb ls k) i j)) (usedL ls) = - LT ls i j := by
    rw [LT_eq]
    have := tot_mul (-1) (fun k => lapD (fa ls k) (fb ls k) i j) (usedL ls)
    rw [show (fun k => -(lapD (fa ls k) (fb ls k) i j)) = fun k => -1 * lapD (fa ls k) (fb ls k) i j from by funext k; omega, this]
    omega
  omega
theorem LT_reach (hg : ∀ x ∈ ls, Good x) : ∀ (q : Grow.Q), (∀ x ∈ q, x ∈ RR ls) → Tree.Tr (0 : Int) q → ∀ s, s ∈ Tree.verts 0 q → s ≠ 0 → s ∈ Tree.verts 0 (RR ls) → Det.Reach (unkL ls).length 0 (LT ls) ((unkL ls).idxOf s)
  | [], _, _, s, hs, hn, _ => by simp [Tree.verts] at hs; exact absurd hs hn
  | (k, u, t) :: q, hsub, htr, s, hs, hn, hR => by
    have hq : ∀ x ∈ q, x ∈ RR ls := fun x hx => hsub x (List.mem_cons_of_mem _ hx)
    cases htr with
    | cons h1 h2 h3 h4 =>
      by_cases c : s = t
      · subst c
        obtain ⟨hk, he⟩ := used_of hg (hsub _ (List.mem_cons_self ..))
        simp only at hk he
        have hsu : s ∈ unkL ls := (unk_iff hg s).mpr ⟨hR, hn⟩
        obtain ⟨f1, f2⟩ := fnd_pos hsu
        by_cases hu : u = 0
        · subst hu
          have h0 : fnd (unkL ls) 0 = -1 := fnd_neg (fun e => ((unk_iff hg 0).mp e).2 rfl)
          refine .ground _ ?_
          rw [LT_rs]
          refine tot_pos (fun k _ => rs_term _ _ _) hk ?_
          unfold fa fb
          rcases he with he | he
          · have e1 : (leg ls k).f0 = 0 := congrArg Prod.fst he
            have e2 : (leg ls k).f1 = s := congrArg Prod.snd he
            rw [e1, e2, h0, f1]
            rw [if_neg (by omega), if_pos (by omega)]; omega
          · have e1 : (leg ls k).f0 = s := congrArg Prod.fst he
            have e2 : (leg ls k).f1 = 0 := congrArg Prod.snd he
            rw [e1, e2, h0, f1]
            rw [if_pos (by omega), if_neg (by omega)]; omega
        · have huR : u ∈ Tree.verts 0 (RR ls) := by
            have hl := (RR_ok hg).1.legs_ends (ends ls) (i := k) (List.mem_map.mpr ⟨_, hsub _ (List.mem_cons_self ..), rfl⟩)
            rcases he with he | he
            · have := hl.1; rw [he] at this; exact this
            · have := hl.2.1; rw [he] at this; exact this
          have ih := LT_reach hg q hq h1 u h2 hu huR
          have huu : u ∈ unkL ls := (unk_iff hg u).mpr ⟨huR, hu⟩
          obtain ⟨g1, g2⟩ := fnd_pos huu
          have hne : (unkL ls).idxOf u ≠ (unkL ls).idxOf s := fun e => h3 (by rw [← idx_inj huu hsu e]; exact h2)
          refine .step _ _ (Nat.zero_le _) g2 hne (LT_neg hg hk (fun e => hne e.symm) ?_) ih
          unfold fa fb
          rcases he with he | he
          · have e1 : (leg ls k).f0 = u := congrArg Prod.fst he
            have e2 : (leg ls k).f1 = s := congrArg Prod.snd he
            rw [e1, e2]
            exact Or.inr ⟨g1, f1⟩
          · have e1 : (leg ls k).f0 = s := congrArg Prod.fst he
            have e2 : (leg ls k).f1 = u := congrArg Prod.snd he
            rw [e1, e2]
            exact Or.inl ⟨f1, g1⟩
      · have hs' : s ∈ Tree.verts 0 q := by
          simp only [Tree.verts, List.map_cons, List.mem_cons] at hs ⊢
          rcases hs with h | h | h
          · exact Or.inl h
          · exact absurd h c
          · exact Or.inr h
        exact LT_reach hg q hq h1 s hs' hn hR
theorem LT_good (hg : ∀ x ∈ ls, Good x) : Det.Good (unkL ls).length 0 (LT ls) := by
  refine ⟨fun i j _ _ _ _ => tot_congr (fun k _ => lapD_sym _ _ _ _), fun i j _ _ _ _ hij => ?_, fun i _ _ => ?_, fun i _ hi => ?_⟩
  · have := tot_le (f := fun k => lapD (fa ls k) (fb ls k) i j) (g := fun _ => 0) (l := usedL ls) (fun k _ => lapD_off _ _ hij)
    rw [tot_const] at this
    rw [LT_eq]; omega
  · rw [LT_rs]
    exact tot_nonneg (fun k _ => rs_term _ _ _)
  · have hm : (unkL ls)[i] ∈ unkL ls := List.getElem_mem hi
    have hu := (unk_iff hg _).mp hm
    have h := LT_reach hg (RR ls) (fun _ h => h) (RR_ok hg).1.tr _ hu.1 hu.2 hu.1
    have hx : (unkL ls).idxOf (unkL ls)[i] = i := by
      have ha := asc_plL (RR ls)
      rw [plL_head hg] at ha
      have hnd : (unkL ls).Nodup := (List.pairwise_cons.mp ha).2.imp (fun h => by omega)
      exact hnd.idxOf_getElem i hi
    rw [hx] at h
    exact h
/-! ### The number of trees -/
def TB : Int := 1470503808
theorem tb_ok : 2 * (TB * TB) ≤ 9223372036854775807 := by unfold TB; decide
theorem bnd_le {n : Nat} (hn : n ≤ 7) : ((n : Int) * 250 + 1) * 839808 ≤ TB := by unfold TB; omega
theorem dgT_small (hn : ls.length ≤ 12) (r : Nat) : dgT ls r ≤ 24 := by
  refine Int.le_trans (tot_le (g := fun _ => 2) (fun k _ => by unfold dg; split <;> split <;> omega)) ?_
  rw [tot_const]
  have := usedL_len ls
  omega
theorem LT_wrap (hn : ls.length ≤ 12) (i j : Nat) : wrap64 (LT ls i j) = LT ls i j := by
  refine Elim.w_id ?_
  have h1 := LT_ab1 ls i j
  have h2 := dgT_small hn i
  omega
theorem RT_wrap (hn : ls.length ≤ 12) (hg : ∀ x ∈ ls, Good x) (ax : Int) (i : Nat) : wrap64 (RT ls ax i) = RT ls ax i := by
  refine Elim.w_id ?_
  have h1 := RT_ab (ax := ax) (fun k hk => RT_meas (ax := ax) hg hk) i
  have h2 := dgT_small hn i
  omega
theorem trees_F (hn : ls.length ≤ 12) (hg : ∀ x ∈ ls, Good x) : treesM ls = P (unkL ls).length (LT ls) (unkL ls).length := by
  have hb : Bnd (unkL ls).length (unkL ls).length 250 839808 (LT ls) := LT_bnd hn hg (fun _ _ _ _ _ => rfl) (fun r hr => by have := LT_ab1 ls r (unkL ls).length; have := dgT_nonneg ls r; omega)
  have h := Elim.det_F (by decide) (bnd_le (unkL_len hg)) tb_ok (by unfold TB; decide) (LT ls) hb
  rw [← show F (unkL ls).length (LT ls) (unkL ls).length (low (unkL ls).length) = P (unkL ls).length (LT ls) (unkL ls).length from rfl, ← h]
  exact Elim.det_same (n := (unkL ls).length) _ 0 1 1 _ _ (by omega) (fun p q _ hp _ hq => by
    unfold matM
    rw [if_neg (by omega)]
    exact LT_wrap hn p q)
theorem trees_pos (hn : ls.length ≤ 12) (hg : ∀ x ∈ ls, Good x) : 1 ≤ treesM ls := by
  rw [trees_F hn hg]
  exact (lap_stages (LT_good hg) _ (Nat.le_refl _)).1 _ (Nat.le_refl _)
theorem diag_prod (ls : L) : ∀ n, diagProd (LT ls) n ≤ prodTo (fun r => max (dgT ls r) 1) n ∧ 0 ≤ diagProd (LT ls) n
  | 0 => ⟨Int.le_refl _, by unfold diagProd; decide⟩
  | n + 1 => by
    obtain ⟨h1, h2⟩ := diag_prod ls n
    have h3 : LT ls n n ≤ dgT ls n := by
      rw [LT_eq]
      refine tot_le (fun k _ => ?_)
      rw [lapD_eq]; unfold dg
      by_cases c1 : (n : Int) = fa ls k <;> by_cases c2 : (n : Int) = fb ls k <;> simp only [c1, c2, and_self, and_true, true_and, and_false, false_and, if_true, if_false] <;> omega
    have h4 : 0 ≤ LT ls n n := by
      rw [LT_eq]
      refine tot_nonneg (fun k _ => ?_)
      rw [lapD_eq]
      by_cases c1 : (n : Int) = fa ls k <;> by_cases c2 : (n : Int) = fb ls k <;> simp only [c1, c2, and_self, and_true, true_and, and_false, false_and, if_true, if_false] <;> omega
    have h0 := dgT_nonneg ls n
    refine ⟨?_, Int.mul_nonneg h2 h4⟩
    exact Int.mul_le_mul h1 (by show LT ls n n ≤ max (dgT ls n) 1; omega) h4 (Int.le_trans h2 h1)
theorem trees_le (hn : ls.length ≤ 12) (hg : ∀ x ∈ ls, Good x) : treesM ls ≤ 6561 := by
  rw [trees_F hn hg]
  refine Int.le_trans (lap_det_le (LT_good hg) _ (Nat.le_refl _)) (Int.le_trans (diag_prod ls _).1 ?_)
  rw [prodN_int _ _ (fun r _ => dgT_nonneg ls r)]
  have h1 := sumN_int (dgT ls) (unkL ls).length (fun r _ => dgT_nonneg ls r)
  have h2 := dgT_sum hn
  have h3 := prodN_le (fun r => (dgT ls r).toNat) (unkL ls).length (by omega)
  omega
/-! ### The coordinates -/
theorem co_F (hn : ls.length ≤ 12) (hg : ∀ x ∈ ls, Good x) (ax : Int) (i : Nat) (hi : i < (unkL ls).length) : coM ls ax i = F (unkL ls).length (setc (LT ls) i (RT ls ax)) (unkL ls).length (low (unkL ls).length) := by
  have hb : Bnd (unkL ls).length i 250 839808 (setc (LT ls) i (RT ls ax)) := LT_bnd hn hg (fun r _ j _ hj => setc_ne _ _ _ _ _ hj) (fun r hr => by rw [setc_at]; exact RT_ab (fun k hk => RT_meas hg hk) r)
  have h := Elim.det_F (by decide) (bnd_le (unkL_len hg)) tb_ok (by unfold TB; decide) _ hb
  rw [← h]
  exact Elim.det_same (n := (unkL ls).length) _ 0 1 1 _ _ (by omega) (fun p q _ hp _ hq => by
    unfold matM setc
    by_cases c : q = i
    · rw [if_pos c, if_pos (by omega)]; exact RT_wrap hn hg ax p
    · rw [if_neg c, if_neg (by omega)]; exact LT_wrap hn p q)
theorem co_bound (hn : ls.length ≤ 12) (hg : ∀ x ∈ ls, Good x) (ax : Int) (i : Nat) (hi : i < (unkL ls).length) : ab (coM ls ax i) ≤ TB := by
  have hb : Bnd (unkL ls).length i 250 839808 (setc (LT ls) i (RT ls ax)) := LT_bnd hn hg (fun r _ j _ hj => setc_ne _ _ _ _ _ hj) (fun r hr => by rw [setc_at]; exact RT_ab (fun k hk => RT_meas hg hk) r)
  rw [co_F hn hg ax i hi]
  obtain ⟨m, hm⟩ : ∃ m, (unkL ls).length = m + 1 := ⟨(unkL ls).length - 1, by omega⟩
  have e : F (unkL ls).length (setc (LT ls) i (RT ls ax)) (unkL ls).length (low (unkL ls).length) = R (unkL ls).length (setc (LT ls) i (RT ls ax)) m m m := by
    rw [← P_succ, ← hm]; rfl
  rw [e]
  exact Int.le_trans (R_bound (by decide) hb (Nat.le_refl m) (by omega)) (bnd_le (unkL_len hg))
/-- THE COORDINATES SOLVE THE EQUATIONS. -/
theorem co_solve (hn : ls.length ≤ 12) (hg : ∀ x ∈ ls, Good x) (ax : Int) (r : Nat) (hr : r < (unkL ls).length) : sumTo (unkL ls).length (fun j => LT ls r j * coM ls ax j) = treesM ls * RT ls ax r := by
  rw [trees_F hn hg]
  rw [sumTo_congr (fun j hj => by rw [co_F hn hg ax j hj])]
  exact cramer (unkL ls).length (LT ls) (RT ls ax) r hr
end
end Go.Proofs.YthplhbcafihacaaDoor.Net

/- The residuals of a network: the equations in balance; the sum of their squares. -/

namespace Go.Proofs.YthplhbcafihacaaDoor.Net
open Go.RowKit Go.Proofs.YthplhbcafihacaaDoorW.PrintWords Go.Proofs.YthplhbcafihacaaDoor.Plain
open Go.Proofs.YthplhbcafihacaaDoor.Det
set_option linter.unusedVariables false
set_option linter.unusedSimpArgs false
section
variable {ls : L}
/-- The value at an index that may be -1. -/
def vAt (x : Nat → Int) (a : Int) : Int := if 0 ≤ a then x a.toNat else 0
theorem sumTo_indv (n : Nat) (x : Nat → Int) (c : Int) (hc : c < (n : Int)) (p : Prop) [Decidable p] : sumTo n (fun j => (if p ∧ (j : Int) = c then 1 else 0) * x j) = if p then vAt x c else 0 := by
  unfold vAt
  by_cases hp : p ∧ 0 ≤ c
  · obtain ⟨m, rfl⟩ := Int.eq_ofNat_of_zero_le hp.2
    rw [if_pos hp.1, if_pos hp.2, sumTo_single (j := m) (g := fun _ => 0) (by omega) (fun l _ hl => by rw [if_neg (fun e => hl (by omega)), Int.zero_mul]) rfl, if_pos ⟨hp.1, rfl⟩, sumTo_zero (fun _ _ => rfl), Int.add_zero, Int.one_mul, Int.toNat_natCast]
  · rw [sumTo_zero (fun j _ => by rw [if_neg (fun e => hp ⟨e.1, by omega⟩), Int.zero_mul])]
    by_cases c1 : p
    · rw [if_pos c1, if_neg (fun e => hp ⟨c1, e⟩)]
    · rw [if_neg c1]
theorem lapD_mul (n : Nat) (x : Nat → Int) (a b : Int) (ha : a < (n : Int)) (hb : b < (n : Int)) (i : Nat) : sumTo n (fun j => lapD a b i j * x j) = rgtD a b (vAt x b - vAt x a) i := by
  have e : (fun j : Nat => lapD a b i j * x j) = fun j : Nat => (if (i : Int) = a ∧ (j : Int) = a then 1 else 0) * x j + (if (i : Int) = b ∧ (j : Int) = b then 1 else 0) * x j - (if (i : Int) = a ∧ (j : Int) = b then 1 else 0) * x j - (if (i : Int) = b ∧ (j : Int) = a then 1 else 0) * x j := by
    funext j
    rw [lapD_eq, Int.sub_mul, Int.sub_mul, Int.add_mul]
  rw [e, sum_add3, sumTo_indv n x a ha, sumTo_indv n x b hb, sumTo_indv n x b hb, sumTo_indv n x a ha]
  unfold rgtD
  split <;> split <;> omega
theorem rgtD_mul (n : Nat) (x : Nat → Int) (a b v : Int) (ha : a < (n : Int)) (hb : b < (n : Int)) : sumTo n (fun r => x r * rgtD a b v r) = v * (vAt x b - vAt x a) := by
  have e1 := sumTo_indv n x a ha True
  have e2 := sumTo_indv n x b hb True
  simp only [true_and, if_true] at e1 e2
  have e : (fun r : Nat => x r * rgtD a b v r) = fun r : Nat => v * ((if (r : Int) = b then 1 else 0) * x r) + (-v) * ((if (r : Int) = a then 1 else 0) * x r) := by
    funext r
    unfold rgtD
    by_cases c1 : (r : Int) = b <;> by_cases c2 : (r : Int) = a <;> simp only [c1, c2, if_true, if_false] <;> grind
  rw [e, sumTo_add, sumTo_mul, sumTo_mul, e1, e2]
  grind
theorem rgtD_lin (a b u v : Int) (r : Nat) : rgtD a b (u - v) r = rgtD a b u r - rgtD a b v r := by unfold rgtD; split <;> split <;> omega
theorem rgtD_scale (a b c v : Int) (r : Nat) : rgtD a b (c * v) r = c * rgtD a b v r := by
  unfold rgtD
  by_cases c1 : (r : Int) = b <;> by_cases c2 : (r : Int) = a <;> simp only [c1, c2, if_true, if_false] <;> grind
/-- The coordinate of an end of a leg; the residual of a leg times the number of trees. -/
def dT (ls : L) (ax k : Int) : Int := vAt (coM ls ax) (fb ls k) - vAt (coM ls ax) (fa ls k)
def nT (ls : L) (ax k : Int) : Int := treesM ls * meas ls ax k - dT ls ax k
/-- The residuals are in balance at every unknown station. -/
theorem balance (hn : ls.length ≤ 12) (hg : ∀ x ∈ ls, Good x) (ax : Int) (r : Nat) (hr : r < (unkL ls).length) : tot (fun k => rgtD (fa ls k) (fb ls k) (nT ls ax k) r) (usedL ls) = 0 := by
  have h := co_solve hn hg ax r hr
  have e1 : sumTo (unkL ls).length (fun j => LT ls r j * coM ls ax j) = tot (fun k => rgtD (fa ls k) (fb ls k) (dT ls ax k) r) (usedL ls) := by
    have e2 : ∀ j, LT ls r j * coM ls ax j = tot (fun k => lapD (fa ls k) (fb ls k) r j * coM ls ax j) (usedL ls) := fun j => by
      rw [Int.mul_comm, LT_eq, ← tot_mul]
      exact tot_congr (fun k _ => Int.mul_comm _ _)
    rw [sumTo_congr (fun j _ => e2 j), sumTo_tot]
    exact tot_congr (fun k _ => lapD_mul _ _ _ _ (fa_lt ls k) (fb_lt ls k) r)
  have e3 : treesM ls * RT ls ax r = tot (fun k => rgtD (fa ls k) (fb ls k) (treesM ls * meas ls ax k) r) (usedL ls) := by
    rw [RT_eq, ← tot_mul]
    exact tot_congr (fun k _ => (rgtD_scale _ _ _ _ _).symm)
  have e4 : tot (fun k => rgtD (fa ls k) (fb ls k) (nT ls ax k) r) (usedL ls) = tot (fun k => rgtD (fa ls k) (fb ls k) (treesM ls * meas ls ax k) r) (usedL ls) + (-1) * tot (fun k => rgtD (fa ls k) (fb ls k) (dT ls ax k) r) (usedL ls) := by
    rw [← tot_mul, ← tot_add]
    exact tot_congr (fun k _ => by unfold nT; rw [rgtD_lin]; omega)
  rw [e4, ← e3, ← e1, h]
  omega
theorem orth (hn : ls.length ≤ 12) (hg : ∀ x ∈ ls, Good x) (ax : Int) : tot (fun k => nT ls ax k * dT ls ax k) (usedL ls) = 0 := by
  have e : tot (fun k => nT ls ax k * dT ls ax k) (usedL ls) = sumTo (unkL ls).length (fun r => tot (fun k => coM ls ax r * rgtD (fa ls k) (fb ls k) (nT ls ax k) r) (usedL ls)) := by
    rw [sumTo_tot]
    exact tot_congr (fun k _ => (rgtD_mul _ _ _ _ _ (fa_lt ls k) (fb_lt ls k)).symm)
  rw [e]
  refine sumTo_zero (fun r hr => ?_)
  rw [tot_mul, balance hn hg ax r hr, Int.mul_zero]
/-- The sum of the squares is the number of trees times the sum of residual times measure. -/
theorem sq_sum (hn : ls.length ≤ 12) (hg : ∀ x ∈ ls, Good x) (ax : Int) : tot (fun k => nT ls ax k * nT ls ax k) (usedL ls) = treesM ls * tot (fun k => nT ls ax k * meas ls ax k) (usedL ls) := by
  have h := orth hn hg ax
  have e : tot (fun k => nT ls ax k * nT ls ax k) (usedL ls) = tot (fun k => treesM ls * (nT ls ax k * meas ls ax k)) (usedL ls) + (-1) * tot (fun k => nT ls ax k * dT ls ax k) (usedL ls) := by
    rw [← tot_mul, ← tot_add]
    exact tot_congr (fun k _ => by
      have e2 : nT ls ax k = treesM ls * meas ls ax k - dT ls ax k := rfl
      generalize nT ls ax k = n at *
      grind)
  rw [e, tot_mul, h]
  omega
theorem sq_nonneg (x : Int) : 0 ≤ x * x := by
  rcases Int.le_total 0 x with h | h
  · exact Int.mul_nonneg h h
  · exact Int.mul_nonneg_of_nonpos_of_nonpos h h
/-- The residuals are no greater than the measures. -/
theorem sq_le (hn : ls.length ≤ 12) (hg : ∀ x ∈ ls, Good x) (ax : Int) : tot (fun k => nT ls ax k * nT ls ax k) (usedL ls) ≤ treesM ls * treesM ls * tot (fun k => meas ls ax k * meas ls ax k) (usedL ls) := by
  have h := sq_sum hn hg ax
  have hp := tot_nonneg (f := fun k => (treesM ls * meas ls ax k - nT ls ax k) * (treesM ls * meas ls ax k - nT ls ax k)) (l := usedL ls) (fun k _ => sq_nonneg _)
  have e : tot (fun k => (treesM ls * meas ls ax k - nT ls ax k) * (treesM ls * meas ls ax k - nT ls ax k)) (usedL ls) = treesM ls * treesM ls * tot (fun k => meas ls ax k * meas ls ax k) (usedL ls) + ((-2 * treesM ls) * tot (fun k => nT ls ax k * meas ls ax k) (usedL ls) + tot (fun k => nT ls ax k * nT ls ax k) (usedL ls)) := by
    rw [← tot_mul, ← tot_mul, ← tot_add, ← tot_add]
    exact tot_congr (fun k _ => by grind)
  rw [e] at hp
  have e2 : (-2 * treesM ls) * tot (fun k => nT ls ax k * meas ls ax k) (usedL ls) = -2 * tot (fun k => nT ls ax k * nT ls ax k) (usedL ls) := by rw [h, Int.mul_assoc]
  omega
theorem meas_sq (hn : ls.length ≤ 12) (hg : ∀ x ∈ ls, Good x) (ax : Int) : tot (fun k => meas ls ax k * meas ls ax k) (usedL ls) ≤ 3000000 := by
  refine Int.le_trans (tot_le (g := fun _ => 250000) (fun k hk => ?_)) ?_
  · have h := RT_meas (ax := ax) hg hk
    have h2 := Elim.mul_le_sq (B := 500) (by decide) h h
    have h3 : meas ls ax k * meas ls ax k ≤ ab (meas ls ax k * meas ls ax k) := by unfold ab; omega
    omega
  · rw [tot_const]
    have := usedL_len ls
    omega
end
end Go.Proofs.YthplhbcafihacaaDoor.Net

/- Fractions in lowest terms: they are what they are by their value alone; Euclid's steps; the comparison by Euclid's steps. Plain mathematics. -/

namespace Go.Proofs.YthplhbcafihacaaDoor.Frac
set_option linter.unusedVariables false
/-- n / d is N / T in lowest terms. -/
def Red (n d N T : Int) : Prop := 0 < d ∧ Int.gcd n d = 1 ∧ n * T = N * d
theorem Red.dvd {n d n' d' : Int} (h1 : Int.gcd n d = 1) (e : n * d' = n' * d) : d ∣ d' := by
  have hd : d ∣ n * d' := ⟨n', by rw [e, Int.mul_comm]⟩
  have h2 : d.natAbs ∣ n.natAbs * d'.natAbs := by rw [← Int.natAbs_mul]; exact Int.natAbs_dvd_natAbs.mpr hd
  exact Int.natAbs_dvd_natAbs.mp (Nat.Coprime.dvd_of_dvd_mul_left (show Nat.gcd d.natAbs n.natAbs = 1 by rw [Nat.gcd_comm]; exact h1) h2)
theorem Red.unique {n d n' d' N T : Int} (hT : 0 < T) (h : Red n d N T) (h' : Red n' d' N T) : n = n' ∧ d = d' := by
  obtain ⟨p1, p2, p3⟩ := h
  obtain ⟨q1, q2, q3⟩ := h'
  have e : n * d' = n' * d := by
    have e1 : T * (n * d') = T * (n' * d) := by
      have a : n * T * d' = n' * T * d := by rw [p3, q3, Int.mul_assoc, Int.mul_assoc, Int.mul_comm d]
      grind
    exact Int.eq_of_mul_eq_mul_left (by omega) e1
  have h1 := Red.dvd p2 e
  have h2 := Red.dvd q2 e.symm
  have hd : d = d' := Int.dvd_antisymm (by omega) (by omega) h1 h2
  subst hd
  exact ⟨Int.eq_of_mul_eq_mul_right (by omega) e, rfl⟩
theorem tdiv_exact {a g : Int} (hg : g ≠ 0) (h : g ∣ a) : a.tdiv g * g = a := Int.tdiv_mul_cancel h
theorem Red.of_div {N D : Int} (hD : 0 < D) : Red (N.tdiv (Int.gcd N D)) (D.tdiv (Int.gcd N D)) N D := by
  have hg : 0 < (Int.gcd N D : Int) := by
    have := Int.gcd_pos_of_ne_zero_right N (show D ≠ 0 by omega)
    omega
  have h1 := tdiv_exact (a := N) (g := Int.gcd N D) (by omega) (Int.gcd_dvd_left ..)
  have h2 := tdiv_exact (a := D) (g := Int.gcd N D) (by omega) (Int.gcd_dvd_right ..)
  generalize hn : N.tdiv (Int.gcd N D) = n at *
  generalize hd : D.tdiv (Int.gcd N D) = d at *
  generalize hgg : Int.gcd N D = g at *
  have hdp : 0 < d := by
    rcases Int.lt_or_le 0 d with c | c
    · exact c
    · exfalso
      have := Int.mul_le_mul_of_nonneg_right c (Int.le_of_lt hg)
      omega
  refine ⟨hdp, ?_, ?_⟩
  · have e : Int.gcd (n * g) (d * g) = g := by rw [h1, h2, hgg]
    rw [Int.gcd_mul_right] at e
    simp only [Int.natAbs_natCast] at e
    have hgn : 0 < g := by omega
    exact Nat.eq_of_mul_eq_mul_right hgn (by rw [e, Nat.one_mul])
  · rw [← h1, ← h2]
    generalize (g : Int) = z
    grind
/-- The same value with another pair. -/
theorem Red.change {n d x y N T : Int} (hy : 0 < y) (h : Red n d x y) (e : x * T = N * y) : Red n d N T := by
  obtain ⟨p1, p2, p3⟩ := h
  refine ⟨p1, p2, ?_⟩
  have e1 : y * (n * T) = y * (N * d) := by
    have a : n * y * T = x * d * T := by rw [p3]
    have b : x * T * d = N * y * d := by rw [e]
    grind
  exact Int.eq_of_mul_eq_mul_left (by omega) e1
/-- The sum of two fractions, over the least common multiple. -/
theorem Red.sum {n d a b N A T g : Int} (hd : 0 < d) (hb : 0 < b) (hg : 0 < g) (h1 : n * T = N * d) (h2 : a * T = A * b) {d' b' : Int} (e1 : d' * g = d) (e2 : b' * g = b) : (n * b' + a * d') * T = (N + A) * (d' * b) := by
  have a1 : n * T * b' = N * d * b' := by rw [h1]
  have a2 : a * T * d' = A * b * d' := by rw [h2]
  subst e1
  subst e2
  grind
/-! ### Euclid -/
theorem gcd_step (a b : Int) (hb : b ≠ 0) : Int.gcd b (a.tmod b) = Int.gcd a b := by
  unfold Int.gcd
  rw [Int.natAbs_tmod, Nat.gcd_comm a.natAbs, Nat.gcd_rec b.natAbs a.natAbs, Nat.gcd_comm]
theorem tmod_lt (a b : Int) (hb : b ≠ 0) : (a.tmod b).natAbs < b.natAbs := by
  rw [Int.natAbs_tmod]
  exact Nat.mod_lt _ (by omega)
/-! ### The comparison -/
end Go.Proofs.YthplhbcafihacaaDoor.Frac

/- Euclid's loop, as a printed function with fuel. Plain Lean. -/
namespace Go.Proofs.YthplhbcafihacaaDoor.Frac
open Go.RowKit Go.Proofs.YthplhbcafihacaaDoorW.PrintWords Go.Proofs.YthplhbcafihacaaDoor.Plain
set_option linter.unusedVariables false
theorem gcd_loop {β : Type} {g : Nat → Int → Int → Option β} {fin : Int → β} (h0 : ∀ k a, g (k + 1) a 0 = some (fin a)) (h1 : ∀ k a b, b ≠ 0 → g (k + 1) a b = g k b (Int.tmod a b)) :
    ∀ (n : Nat) (a b : Int), b.natAbs < n → ∃ z : Int, z.natAbs = Int.gcd a b ∧ (0 ≤ a → 0 ≤ b → 0 ≤ z) ∧ Ev (fun k => g k a b) (fin z) := by
  intro n
  induction n with
  | zero => intro a b h; omega
  | succ n ih =>
    intro a b h
    by_cases hb : b = 0
    · subst hb
      refine ⟨a, by rw [Int.gcd_zero_right], fun h _ => h, ⟨1, fun k hk => ?_⟩⟩
      obtain ⟨k, rfl⟩ : ∃ m, k = m + 1 := ⟨k - 1, by omega⟩
      exact h0 k a
    · obtain ⟨z, hz, hs, K, hK⟩ := ih b (Int.tmod a b) (by have := tmod_lt a b hb; omega)
      refine ⟨z, by rw [hz, gcd_step a b hb], fun ha hb' => hs hb' (Int.tmod_nonneg b ha), ⟨K + 1, fun k hk => ?_⟩⟩
      obtain ⟨k, rfl⟩ : ∃ m, k = m + 1 := ⟨k - 1, by omega⟩
      show g (k + 1) a b = _
      rw [h1 k a b hb]
      exact hK k (by omega)
end Go.Proofs.YthplhbcafihacaaDoor.Frac

/- The strain of a network as a fraction in lowest terms. Plain mathematics. -/

namespace Go.Proofs.YthplhbcafihacaaDoor.Net
open Go.RowKit Go.Proofs.YthplhbcafihacaaDoorW.PrintWords Go.Proofs.YthplhbcafihacaaDoor.Plain
open Go.Proofs.YthplhbcafihacaaDoor.Frac
set_option linter.unusedVariables false
set_option linter.unusedSimpArgs false
section
variable {ls : L}
/-- The sum of the squares on an axis; the sum of residual times measure. -/
def SA (ls : L) (ax : Int) : Int := tot (fun k => nT ls ax k * nT ls ax k) (usedL ls)
def AM (ls : L) (ax : Int) : Int := tot (fun k => nT ls ax k * meas ls ax k) (usedL ls)
theorem SA_nonneg (ls : L) (ax : Int) : 0 ≤ SA ls ax := tot_nonneg (fun _ _ => sq_nonneg _)
theorem SA_AM (hn : ls.length ≤ 12) (hg : ∀ x ∈ ls, Good x) (ax : Int) : SA ls ax = treesM ls * AM ls ax := sq_sum hn hg ax
theorem AM_bound (hn : ls.length ≤ 12) (hg : ∀ x ∈ ls, Good x) (ax : Int) : 0 ≤ AM ls ax ∧ AM ls ax ≤ 19683000000 := by
  have h1 := SA_AM hn hg ax
  have h2 := SA_nonneg ls ax
  have h3 : SA ls ax ≤ treesM ls * treesM ls * tot (fun k => meas ls ax k * meas ls ax k) (usedL ls) := sq_le hn hg ax
  have h4 := trees_pos hn hg
  have h5 := trees_le hn hg
  have h6 := meas_sq hn hg ax
  have h7 := tot_nonneg (f := fun k => meas ls ax k * meas ls ax k) (l := usedL ls) (fun k _ => sq_nonneg _)
  generalize tot (fun k => meas ls ax k * meas ls ax k) (usedL ls) = m at *
  generalize AM ls ax = a at *
  generalize treesM ls = t at *
  rw [h1] at h2 h3
  refine ⟨?_, ?_⟩
  · exact Int.le_of_mul_le_mul_left (a := t) (by omega) (by omega)
  · have h8 : a ≤ t * m := Int.le_of_mul_le_mul_left (a := t) (by rw [← Int.mul_assoc]; exact h3) (by omega)
    have h9 : t * m ≤ 6561 * 3000000 := Int.mul_le_mul h5 h6 h7 (by decide)
    omega
/-- The denominators divide the number of trees. -/
theorem Red.le {n d N T : Int} (hT : 0 < T) (hN : 0 ≤ N) (h : Red n d N T) : d ≤ T ∧ 0 ≤ n ∧ n ≤ N := by
  obtain ⟨p1, p2, p3⟩ := h
  have hd : d ∣ T := Red.dvd p2 p3
  have h1 := Int.le_of_dvd hT hd
  have h0 : 0 ≤ n := by
    rcases Int.lt_or_le n 0 with c | c
    · exfalso
      have a := Int.mul_neg_of_neg_of_pos c hT
      have b := Int.mul_nonneg hN (Int.le_of_lt p1)
      omega
    · exact c
  refine ⟨h1, h0, ?_⟩
  have h2 : N * d ≤ N * T := Int.mul_le_mul_of_nonneg_left h1 hN
  exact Int.le_of_mul_le_mul_right (a := T) (by omega) hT
/-- The strain: the sum of residual times measure on the three axes, over the number of trees, in lowest terms. -/
def sN (ls : L) : Int := AM ls 0 + AM ls 1 + AM ls 2
def sNum (ls : L) : Int := (sN ls).tdiv (Int.gcd (sN ls) (treesM ls))
def sDen (ls : L) : Int := (treesM ls).tdiv (Int.gcd (sN ls) (treesM ls))
theorem sRed (hn : ls.length ≤ 12) (hg : ∀ x ∈ ls, Good x) : Red (sNum ls) (sDen ls) (sN ls) (treesM ls) := Red.of_div (by have := trees_pos hn hg; omega)
theorem sN_bound (hn : ls.length ≤ 12) (hg : ∀ x ∈ ls, Good x) : 0 ≤ sN ls ∧ sN ls ≤ 59049000000 := by
  have h0 := AM_bound hn hg 0
  have h1 := AM_bound hn hg 1
  have h2 := AM_bound hn hg 2
  unfold sN
  omega
theorem s_bound (hn : ls.length ≤ 12) (hg : ∀ x ∈ ls, Good x) : (0 < sDen ls ∧ sDen ls ≤ 6561) ∧ 0 ≤ sNum ls ∧ sNum ls ≤ 59049000000 := by
  have hr := sRed hn hg
  have ht := trees_pos hn hg
  have hl := trees_le hn hg
  have hb := sN_bound hn hg
  have h := Red.le (by omega) hb.1 hr
  exact ⟨⟨hr.1, by omega⟩, h.2.1, by omega⟩
end
end Go.Proofs.YthplhbcafihacaaDoor.Net

/- A leg's residual, as both sides reckon it, is nT. Plain mathematics. -/

namespace Go.Proofs.YthplhbcafihacaaDoor.Net
open Go.RowKit Go.Proofs.YthplhbcafihacaaDoorW.PrintWords Go.Proofs.YthplhbcafihacaaDoor.Plain
open Go.Proofs.YthplhbcafihacaaDoor.Det
set_option linter.unusedVariables false
set_option linter.unusedSimpArgs false
section
variable {ls : L}
theorem unk_nodup (hg : ∀ x ∈ ls, Good x) : (unkL ls).Nodup := by
  have ha := asc_plL (RR ls)
  rw [plL_head hg] at ha
  exact (List.pairwise_cons.mp ha).2.imp (fun h => by omega)
theorem coTo_at (hg : ∀ x ∈ ls, Good x) (ax : Int) (s : Nat) (hs : s < 8) : ∀ k, k ≤ (unkL ls).length → rd (coTo ls ax k) (s : Int) = if fnd (unkL ls) (s : Int) < (k : Int) then vAt (coM ls ax) (fnd (unkL ls) (s : Int)) else 0
  | 0, _ => by
    have h0 : rd (coTo ls ax 0) (s : Int) = 0 := by
      show rd (List.replicate 8 0) (s : Int) = 0
      unfold rd
      rw [Int.toNat_natCast, List.getD_eq_getElem?_getD, List.getElem?_replicate_of_lt hs]; rfl
    rw [h0]
    by_cases c : fnd (unkL ls) (s : Int) < ((0 : Nat) : Int)
    · rw [if_pos c]; unfold vAt; rw [if_neg (by omega)]
    · rw [if_neg c]
  | k + 1, hk => by
    have ih := coTo_at hg ax s hs k (by omega)
    have hlt : k < (unkL ls).length := by omega
    have hr := unkL_range hg (rd (unkL ls) (k : Int)) (by rw [rd_get _ k hlt]; exact List.getElem_mem hlt)
    have hm : (unkL ls)[k] ∈ unkL ls := List.getElem_mem hlt
    have hidx : (unkL ls).idxOf (unkL ls)[k] = k := (unk_nodup hg).idxOf_getElem k hlt
    obtain ⟨u, hu⟩ := Int.eq_ofNat_of_zero_le hr.1
    have hst : rd (coTo ls ax (k + 1)) (s : Int) = if s = u then coM ls ax k else rd (coTo ls ax k) (s : Int) := by
      show rd ((coTo ls ax k).set (rd (unkL ls) (k : Int)).toNat (coM ls ax k)) (s : Int) = _
      rw [hu, Int.toNat_natCast]
      unfold rd
      rw [Int.toNat_natCast, List.getD_eq_getElem?_getD]
      by_cases c : s = u
      · rw [if_pos c, c, List.getElem?_set_self (by rw [coTo_len]; omega)]; rfl
      · rw [if_neg c, List.getElem?_set_ne (fun e => c e.symm), List.getD_eq_getElem?_getD]
    have hf : fnd (unkL ls) (u : Int) = (k : Int) := by
      rw [← hu, rd_get _ k hlt, (fnd_pos hm).1, hidx]
    rw [hst]
    by_cases c : s = u
    · subst c
      rw [if_pos rfl, hf, if_pos (by omega)]
      unfold vAt
      rw [if_pos (by omega), Int.toNat_natCast]
    · rw [if_neg c, ih]
      have hne : fnd (unkL ls) (s : Int) ≠ (k : Int) := fun e => by
        have hsm : (s : Int) ∈ unkL ls := by
          by_cases h : (s : Int) ∈ unkL ls
          · exact h
          · rw [fnd_neg h] at e; omega
        have e2 := (fnd_pos hsm).1
        have e3 : (unkL ls).idxOf (s : Int) = (unkL ls).idxOf (unkL ls)[k] := by rw [hidx]; omega
        have e4 := idx_inj hsm hm e3
        rw [rd_get _ k hlt] at hu
        omega
      by_cases d : fnd (unkL ls) (s : Int) < (k : Int)
      · rw [if_pos d, if_pos (by omega)]
      · rw [if_neg d, if_neg (by omega)]
/-- The adjusted coordinate of a station. -/
theorem coL_at (hg : ∀ x ∈ ls, Good x) (ax s : Int) (h0 : 0 ≤ s) (h8 : s < 8) : rd (coL ls ax) s = vAt (coM ls ax) (fnd (unkL ls) s) := by
  obtain ⟨m, rfl⟩ := Int.eq_ofNat_of_zero_le h0
  unfold coL
  rw [coTo_at hg ax m (by omega) _ (Nat.le_refl _), if_pos (fnd_range _ _).2]
theorem vAt_bound (hn : ls.length ≤ 12) (hg : ∀ x ∈ ls, Good x) (ax a : Int) (ha : a < ((unkL ls).length : Int)) : ab (vAt (coM ls ax) a) ≤ TB := by
  unfold vAt
  by_cases c : 0 ≤ a
  · rw [if_pos c]; exact co_bound hn hg ax _ (by omega)
  · rw [if_neg c]; unfold ab TB; decide
end
end Go.Proofs.YthplhbcafihacaaDoor.Net

/- The laws of the adjustment on lists of residuals and coordinates. Plain mathematics. -/

namespace Go.Proofs.YthplhbcafihacaaDoor.Net
open Go.RowKit Go.Proofs.YthplhbcafihacaaDoorW.PrintWords Go.Proofs.YthplhbcafihacaaDoor.Plain
open Go.Proofs.YthplhbcafihacaaDoor.Det
set_option linter.unusedVariables false
set_option linter.unusedSimpArgs false
/-! ### Least and greatest -/
theorem foldl_min (l : List Int) : ∀ z : Int, l.foldl min z ≤ z ∧ (∀ x ∈ l, l.foldl min z ≤ x) ∧ (l.foldl min z = z ∨ l.foldl min z ∈ l) := by
  induction l with
  | nil => intro z; exact ⟨Int.le_refl _, (fun x hx => by cases hx), Or.inl rfl⟩
  | cons y l ih =>
    intro z
    obtain ⟨h1, h2, h3⟩ := ih (min z y)
    refine ⟨by show l.foldl min (min z y) ≤ z; omega, fun x hx => ?_, ?_⟩
    · show l.foldl min (min z y) ≤ x
      rcases List.mem_cons.mp hx with rfl | hx
      · omega
      · exact h2 x hx
    · show l.foldl min (min z y) = z ∨ l.foldl min (min z y) ∈ y :: l
      rcases h3 with h | h
      · rw [h]
        by_cases c : z ≤ y
        · exact Or.inl (by omega)
        · exact Or.inr (by rw [show min z y = y by omega]; exact List.mem_cons_self ..)
      · exact Or.inr (List.mem_cons_of_mem _ h)
theorem foldl_min_eq {l m : List Int} (h1 : ∀ x ∈ l, x = 0 ∨ x ∈ m) (h2 : ∀ x ∈ m, x = 0 ∨ x ∈ l) : l.foldl min 0 = m.foldl min 0 := by
  obtain ⟨a1, a2, a3⟩ := foldl_min l 0
  obtain ⟨b1, b2, b3⟩ := foldl_min m 0
  refine Int.le_antisymm ?_ ?_
  · rcases b3 with e | e
    · omega
    · rcases h2 _ e with e2 | e2
      · omega
      · exact a2 _ e2
  · rcases a3 with e | e
    · omega
    · rcases h1 _ e with e2 | e2
      · omega
      · exact b2 _ e2
theorem foldl_max (l : List Int) : ∀ z : Int, z ≤ l.foldl max z ∧ (∀ x ∈ l, x ≤ l.foldl max z) ∧ (l.foldl max z = z ∨ l.foldl max z ∈ l) := by
  induction l with
  | nil => intro z; exact ⟨Int.le_refl _, (fun x hx => by cases hx), Or.inl rfl⟩
  | cons y l ih =>
    intro z
    obtain ⟨h1, h2, h3⟩ := ih (max z y)
    refine ⟨by show z ≤ l.foldl max (max z y); omega, fun x hx => ?_, ?_⟩
    · show x ≤ l.foldl max (max z y)
      rcases List.mem_cons.mp hx with rfl | hx
      · omega
      · exact h2 x hx
    · show l.foldl max (max z y) = z ∨ l.foldl max (max z y) ∈ y :: l
      rcases h3 with h | h
      · rw [h]
        by_cases c : y ≤ z
        · exact Or.inl (by omega)
        · exact Or.inr (by rw [show max z y = y by omega]; exact List.mem_cons_self ..)
      · exact Or.inr (List.mem_cons_of_mem _ h)
theorem foldl_max_eq {l m : List Int} (h1 : ∀ x ∈ l, x = 0 ∨ x ∈ m) (h2 : ∀ x ∈ m, x = 0 ∨ x ∈ l) : l.foldl max 0 = m.foldl max 0 := by
  obtain ⟨a1, a2, a3⟩ := foldl_max l 0
  obtain ⟨b1, b2, b3⟩ := foldl_max m 0
  refine Int.le_antisymm ?_ ?_
  · rcases a3 with e | e
    · omega
    · rcases h1 _ e with e2 | e2
      · omega
      · exact b2 _ e2
  · rcases b3 with e | e
    · omega
    · rcases h2 _ e with e2 | e2
      · omega
      · exact a2 _ e2
section
variable {ls : L}
theorem coL_len (ls : L) (ax : Int) : (coL ls ax).length = 8 := coTo_len ls ax _
/-- The coordinates of the unknown stations are those of all stations, but for zeros. -/
theorem co_mem (hg : ∀ x ∈ ls, Good x) (ax : Int) : (∀ x ∈ coL ls ax, x = 0 ∨ x ∈ (unkL ls).map (fun s => rd (coL ls ax) s)) ∧ (∀ x ∈ (unkL ls).map (fun s => rd (coL ls ax) s), x = 0 ∨ x ∈ coL ls ax) := by
  constructor
  · intro x hx
    obtain ⟨i, hi, e⟩ := List.getElem_of_mem hx
    have h8 : i < 8 := by rw [coL_len] at hi; exact hi
    have hr : rd (coL ls ax) (i : Int) = x := by rw [rd_get _ i hi, e]
    have hc := coL_at hg ax (i : Int) (by omega) (by omega)
    by_cases h : (i : Int) ∈ unkL ls
    · exact Or.inr (List.mem_map.mpr ⟨(i : Int), h, hr⟩)
    · rw [fnd_neg h] at hc
      unfold vAt at hc
      rw [if_neg (by omega)] at hc
      exact Or.inl (by omega)
  · intro x hx
    obtain ⟨s, hs, e⟩ := List.mem_map.mp hx
    have h8 := unkL_range hg s hs
    obtain ⟨m, rfl⟩ := Int.eq_ofNat_of_zero_le h8.1
    have hm : m < (coL ls ax).length := by rw [coL_len]; omega
    rw [rd_get _ m hm] at e
    exact Or.inr (by rw [← e]; exact List.getElem_mem hm)
def lowM (ls : L) (ax : Int) : Int := (coL ls ax).foldl min 0
def highM (ls : L) (ax : Int) : Int := (coL ls ax).foldl max 0
theorem low_eq (hg : ∀ x ∈ ls, Good x) (ax : Int) : ((unkL ls).map (fun s => rd (coL ls ax) s)).foldl min 0 = lowM ls ax := foldl_min_eq (co_mem hg ax).2 (co_mem hg ax).1
theorem high_eq (hg : ∀ x ∈ ls, Good x) (ax : Int) : ((unkL ls).map (fun s => rd (coL ls ax) s)).foldl max 0 = highM ls ax := foldl_max_eq (co_mem hg ax).2 (co_mem hg ax).1
theorem co_all (hn : ls.length ≤ 12) (hg : ∀ x ∈ ls, Good x) (ax : Int) : ∀ x ∈ coL ls ax, ab x ≤ TB := fun x hx => by
  obtain ⟨i, hi, e⟩ := List.getElem_of_mem hx
  have h8 : i < 8 := by rw [coL_len] at hi; exact hi
  have hr : rd (coL ls ax) (i : Int) = x := by rw [rd_get _ i hi, e]
  rw [← hr, coL_at hg ax (i : Int) (by omega) (by omega)]
  exact vAt_bound hn hg ax _ (fnd_range _ _).2
theorem depth_bound (hn : ls.length ≤ 12) (hg : ∀ x ∈ ls, Good x) (ax : Int) : 0 ≤ highM ls ax - lowM ls ax ∧ highM ls ax - lowM ls ax ≤ 2 * TB := by
  obtain ⟨a1, _, a3⟩ := foldl_min (coL ls ax) 0
  obtain ⟨b1, _, b3⟩ := foldl_max (coL ls ax) 0
  have hl : ab (lowM ls ax) ≤ TB := by
    rcases a3 with e | e
    · show ab ((coL ls ax).foldl min 0) ≤ TB; rw [e]; decide
    · exact co_all hn hg ax _ e
  have hh : ab (highM ls ax) ≤ TB := by
    rcases b3 with e | e
    · show ab ((coL ls ax).foldl max 0) ≤ TB; rw [e]; decide
    · exact co_all hn hg ax _ e
  rw [ab_le] at hl hh
  have e1 : lowM ls ax = (coL ls ax).foldl min 0 := rfl
  have e2 : highM ls ax = (coL ls ax).foldl max 0 := rfl
  omega
end
end Go.Proofs.YthplhbcafihacaaDoor.Net

/- The printed reductions (the program's and the reference's) are the lowest terms. -/
namespace Go.Proofs.YthplhbcafihacaaDoor.Net
open Go.RowKit Go.Proofs.YthplhbcafihacaaDoorW.PrintWords Go.Proofs.YthplhbcafihacaaDoor.Plain Go.Proofs.YthplhbcafihacaaDoor.A Go.Proofs.YthplhbcafihacaaDoor.Frac
set_option linter.unusedVariables false
set_option linter.unusedSimpArgs false
/-- Lowest terms. -/
def redN (n d : Int) : Int := n.tdiv (Int.gcd n d)
def redD (n d : Int) : Int := d.tdiv (Int.gcd n d)
theorem tdiv_small (n : Int) (g : Nat) {B : Int} (h1 : -B ≤ n) (h2 : n ≤ B) : -B ≤ n.tdiv (g : Int) ∧ n.tdiv (g : Int) ≤ B := by
  have h : (n.tdiv (g : Int)).natAbs ≤ n.natAbs := by rw [Int.natAbs_tdiv]; exact Nat.div_le_self _ _
  omega
theorem wtdiv (n : Int) (g : Nat) (h1 : -9000000000000000000 ≤ n) (h2 : n ≤ 9000000000000000000) : wrap64 (n.tdiv (g : Int)) = n.tdiv (g : Int) := by
  have := tdiv_small n g h1 h2
  unfold wrap64; omega
theorem gcd_small {n d : Int} (hd : 0 < d) (hd2 : d ≤ 9000000000000000000) : 0 < Int.gcd n d ∧ (Int.gcd n d : Int) ≤ 9000000000000000000 := by
  have h1 := Int.gcd_pos_of_ne_zero_right n (show d ≠ 0 by omega)
  have h2 := Nat.le_of_dvd (show 0 < d.natAbs by omega) (Nat.gcd_dvd_right n.natAbs d.natAbs)
  have h3 : Int.gcd n d = Nat.gcd n.natAbs d.natAbs := rfl
  omega
theorem gcd_ev (n d : Int) (hd : 0 < d) (hd2 : d ≤ 9000000000000000000) : Ev (fun k => impl_gcd.f k n d) (Int.gcd n d : Int) := by
  have hs := gcd_small (n := n) hd hd2
  obtain ⟨z, hz, _, K, hK⟩ := gcd_loop (g := impl_gcd.l0) (fin := fun a => if a < wrap64 (-a) then wrap64 (-a) else a) (fun k a => by
    unfold impl_gcd.l0; rw [if_pos rfl]; unfold impl_absolute.f; rfl) (fun k a b hb => by
    conv => lhs; unfold impl_gcd.l0
    rw [if_neg hb]) (d.natAbs + 1) n d (by omega)
  refine ⟨K, fun k hk => ?_⟩
  show impl_gcd.l0 k n d = _
  have h := hK k hk
  simp only at h
  rw [h]
  congr 1
  have hw : wrap64 (-z) = -z := by unfold wrap64; omega
  rw [hw]
  split <;> omega
theorem reduced_ev (n d : Int) (hd : 0 < d) (hd2 : d ≤ 9000000000000000000) (h1 : -9000000000000000000 ≤ n) (h2 : n ≤ 9000000000000000000) : Ev (fun k => impl_reduced.f k n d) (redN n d, redD n d) := by
  have hs := gcd_small (n := n) hd hd2
  obtain ⟨K, hK⟩ := gcd_ev n d hd hd2
  refine ⟨K, fun k hk => ?_⟩
  show impl_reduced.f k n d = _
  unfold impl_reduced.f
  have h := hK k hk
  simp only at h
  rw [h]
  show (if ((Int.gcd n d : Nat) : Int) = 0 then _ else _) = _
  rw [if_neg (by omega), wtdiv n _ h1 h2, wtdiv d _ (by omega) (by omega)]
  rfl
theorem l9_loop (n d : Int) : ∀ (m : Nat) (a b : Int), b.natAbs < m → 0 ≤ a → 0 ≤ b → 0 < Int.gcd a b → Ev (fun k => spec_l9Reduce.l0 k n d a b) (wrap64 (n.tdiv (Int.gcd a b)), wrap64 (d.tdiv (Int.gcd a b)))
  | 0, a, b, h, _, _, _ => by omega
  | m + 1, a, b, h, ha, hb, hg => by
    by_cases h0 : b = 0
    · subst h0
      rw [Int.gcd_zero_right] at hg ⊢
      refine ⟨1, fun k hk => ?_⟩
      obtain ⟨k, rfl⟩ : ∃ m, k = m + 1 := ⟨k - 1, by omega⟩
      show spec_l9Reduce.l0 (k + 1) n d a 0 = _
      unfold spec_l9Reduce.l0
      rw [if_pos rfl, if_neg (by omega), show ((a.natAbs : Nat) : Int) = a by omega]
    · obtain ⟨K, hK⟩ := l9_loop n d m b (Int.tmod a b) (by have := tmod_lt a b h0; omega) hb (Int.tmod_nonneg b ha) (by rw [gcd_step a b h0]; exact hg)
      refine ⟨K + 1, fun k hk => ?_⟩
      obtain ⟨k, rfl⟩ : ∃ m, k = m + 1 := ⟨k - 1, by omega⟩
      show spec_l9Reduce.l0 (k + 1) n d a b = _
      conv => lhs; unfold spec_l9Reduce.l0
      rw [if_neg h0]
      have h := hK k (by omega)
      simp only at h
      rw [h, gcd_step a b h0]
theorem l9Reduce_ev (n d : Int) (hd : 0 < d) (hd2 : d ≤ 9000000000000000000) (h1 : -9000000000000000000 ≤ n) (h2 : n ≤ 9000000000000000000) : Ev (fun k => spec_l9Reduce.f k n d) (redN n d, redD n d) := by
  have ha : spec_l1Most.f n (wrap64 (-n)) = some (n.natAbs : Int) := by
    have hw : wrap64 (-n) = -n := by unfold wrap64; omega
    rw [hw]
    unfold spec_l1Most.f
    split <;> (congr 1; omega)
  have hg : Int.gcd (n.natAbs : Int) d = Int.gcd n d := by unfold Int.gcd; rw [Int.natAbs_natCast]
  have hs := gcd_small (n := n) hd hd2
  obtain ⟨K, hK⟩ := l9_loop n d (d.natAbs + 1) (n.natAbs : Int) d (by omega) (by omega) (by omega) (by rw [hg]; exact hs.1)
  refine ⟨K, fun k hk => ?_⟩
  show spec_l9Reduce.f k n d = _
  unfold spec_l9Reduce.f
  rw [ha]
  show spec_l9Reduce.l0 k n d (n.natAbs : Int) d = _
  have h := hK k hk
  simp only at h
  rw [h, hg, wtdiv n _ h1 h2, wtdiv d _ (by omega) (by omega)]
  rfl
end Go.Proofs.YthplhbcafihacaaDoor.Net

/- The program's AdjustedDepth, in the form of the printed functions, over the laid table of sines. -/
namespace Go.Proofs.YthplhbcafihacaaDoor.A
open Go Go.RowKit Go.Proofs.YthplhbcafihacaaDoorW.PrintWords Go.Proofs.YthplhbcafihacaaDoorW.PrintLast Go.Proofs.YthplhbcafihacaaDoorW.PrintMore
open Go.Proofs.YthplhbcafihacaaDoor.Net (L Sine.Laid legsB legsB_iff areLegs_ev treesM coL unkL adjustW coordinatesW AdjPost Lst redN redD reduced_ev lowM highM low_eq high_eq depth_bound)
set_option linter.unusedVariables false
set_option linter.unusedSimpArgs false
theorem imin_if (a b : Int) : min a b = if b < a then b else a := by split <;> omega
theorem imax_if (a b : Int) : max a b = if a < b then b else a := by split <;> omega
def lowTo (ls : L) (ax : Int) (k : Nat) : Int := (((unkL ls).take k).map (fun s => rd (coL ls ax) s)).foldl min 0
def highTo (ls : L) (ax : Int) (k : Nat) : Int := (((unkL ls).take k).map (fun s => rd (coL ls ax) s)).foldl max 0
theorem lowTo_step (ls : L) (ax : Int) (k : Nat) (h : k < (unkL ls).length) : lowTo ls ax (k + 1) = min (lowTo ls ax k) (rd (coL ls ax) (rd (unkL ls) (k : Int))) := by
  unfold lowTo
  rw [List.take_add_one, List.map_append, List.foldl_append, Net.rd_get _ k h, List.getElem?_eq_getElem h]
  rfl
theorem highTo_step (ls : L) (ax : Int) (k : Nat) (h : k < (unkL ls).length) : highTo ls ax (k + 1) = max (highTo ls ax k) (rd (coL ls ax) (rd (unkL ls) (k : Int))) := by
  unfold highTo
  rw [List.take_add_one, List.map_append, List.foldl_append, Net.rd_get _ k h, List.getElem?_eq_getElem h]
  rfl
theorem lowTo_all {ls : L} (hg : ∀ x ∈ ls, Net.Good x) (ax : Int) : lowTo ls ax (unkL ls).length = lowM ls ax := by
  unfold lowTo; rw [List.take_length]; exact low_eq hg ax
theorem highTo_all {ls : L} (hg : ∀ x ∈ ls, Net.Good x) (ax : Int) : highTo ls ax (unkL ls).length = highM ls ax := by
  unfold highTo; rw [List.take_length]; exact high_eq hg ax
def depM (ls : L) : Int × Int × Bool := if legsB ls = true then (redN (highM ls 2 - lowM ls 2) (treesM ls), redD (highM ls 2 - lowM ls 2) (treesM ls), true) else (0, 0, false)
def impl_AdjustedDepth.f (l0 : List (S50)) : Option (Int × Int × Bool) := if l0.length ≤ 140737488351232 then some (depM l0) else none
set_option maxHeartbeats 2000000 in
set_option maxRecDepth 100000 in
theorem impl_AdjustedDepth.calls (A0 : Option Addr) (c0 : Nat) (l0 : List (S50)) (r1 : Int) (r2 : Int) (r3 : Bool) (w : World) (hr0 : Kd.C k50 w A0 l0.length l0) (hc0 : l0.length ≤ c0) (h : impl_AdjustedDepth.f l0 = some (r1, r2, r3)) (hL : Sine.Laid w) :
    Calls Tryd.prog 18 #[.slice A0 l0.length c0] w fun e w' => e = .returned (.tuple #[.int .i64 r1, .int .i64 r2, .bool r3]) ∧ Below w.heap.size w w' := by
  unfold impl_AdjustedDepth.f at h
  by_cases hb : l0.length ≤ 140737488351232
  case neg => rw [if_neg hb] at h; cases h
  rw [if_pos hb] at h
  obtain ⟨K, hK⟩ := areLegs_ev l0 hb
  have HA := Aside0.mk (hK K (Nat.le_refl _))
  have HR := Aside0.mk hr0
  have HL := Aside0.mk hL
  have HB := Aside0.mk (Below.refl w.heap.size w)
  clear hK hr0 hL hb
  unfold depM at h
  by_cases hv : legsB l0 = true
  case neg =>
    rw [if_neg hv] at h
    simp only [Option.some.injEq, Prod.mk.injEq] at h
    obtain ⟨rfl, rfl, rfl⟩ := h
    rw [Bool.eq_false_iff.mpr hv] at HA
    clear hv
    go_enter Tryd.func18, Tryd.ntmps18
    go_wp2_with (first
        | (go_at_call 41; (with_reducible refine (impl_areLegs.calls K _ _ l0 false _ ?s1 ?s2 HA.out).mono ?_); (case s1 => exact HR.out); (case s2 => exact hc0); rintro e w' ⟨rfl, hw⟩; replace HB := Aside0.mk (below_step HB.out hw); clear hw))
    exact bodyPost_ret (v := .tuple #[.int .i64 0, .int .i64 0, .bool false]) (by simp [results, Tryd.results18, go_sem]) rfl ⟨rfl, HB.out⟩
  rw [if_pos hv] at h
  simp only [Option.some.injEq, Prod.mk.injEq] at h
  obtain ⟨rfl, rfl, rfl⟩ := h
  rw [hv] at HA
  have hv' := legsB_iff.mp hv
  have HG := Aside0.mk hv'.1
  have hn := hv'.2
  have HRD : Aside0 (∀ W, Calls Tryd.prog 36 #[.int .i64 (wrap64 (highTo l0 2 (unkL l0).length - lowTo l0 2 (unkL l0).length)), .int .i64 (treesM l0)] W fun e w' => e = .returned (.tuple #[.int .i64 (redN (highM l0 2 - lowM l0 2) (treesM l0)), .int .i64 (redD (highM l0 2 - lowM l0 2) (treesM l0))]) ∧ Below W.heap.size W w') := ⟨fun W => by
    have ht1 := Net.trees_pos hn HG.out
    have ht2 := Net.trees_le hn HG.out
    have hs := depth_bound hn HG.out 2
    have hTB : (Net.TB : Int) ≤ 1000000000000 := by decide
    rw [highTo_all HG.out, lowTo_all HG.out, Plain.w64 (by omega) (by omega)]
    obtain ⟨K, hK⟩ := reduced_ev (highM l0 2 - lowM l0 2) (treesM l0) (by omega) (by omega) (by omega) (by omega)
    exact impl_reduced.calls K _ _ _ _ W (hK K (Nat.le_refl _))⟩
  have HS1 : Aside0 (∀ k, k < (unkL l0).length → lowTo l0 2 (k + 1) = min (lowTo l0 2 k) (rd (coL l0 2) (rd (unkL l0) (k : Int)))) := ⟨lowTo_step l0 2⟩
  have HS2 : Aside0 (∀ k, k < (unkL l0).length → highTo l0 2 (k + 1) = max (highTo l0 2 k) (rd (coL l0 2) (rd (unkL l0) (k : Int)))) := ⟨highTo_step l0 2⟩
  have HRG := Aside0.mk (Net.unkL_range HG.out)
  have HCL : Aside0 ((coL l0 2).length = 8) := ⟨Net.coL_len l0 2⟩
  have HUL := Aside0.mk (Net.unkL_len HG.out)
  clear hv hv'
  go_enter Tryd.func18, Tryd.ntmps18
  go_wp2_with (first
    | (go_at_call 41; (with_reducible refine (impl_areLegs.calls K _ _ l0 true _ ?s1 ?s2 HA.out).mono ?_); (case s1 => exact HR.out); (case s2 => exact hc0); rintro e w' ⟨rfl, hw⟩; replace HB := Aside0.mk (below_step HB.out hw); clear hw)
    | (go_at_call 35; (with_reducible refine (adjustW A0 c0 l0 _ ?s1 ?s2 hc0 hn HG.out).mono ?_); (case s1 => exact HL.out.keep HB.out); (case s2 => exact Kd.C_below HR.out HB.out); rintro e w2 ⟨ba, uA, pA, uc, pc, rfl, hadj, ht, hba, hw⟩; replace HB := Aside0.mk (below_step HB.out hw); have HJ := Aside0.mk hadj; clear hadj hw)
    | (go_at_call 38; (with_reducible refine (coordinatesW ba A0 uA pA c0 uc pc l0 2 _ ?s1 ?s2 hn HG.out (by decide) (by decide)).mono ?_); (case s1 => exact HL.out.keep HB.out); (case s2 => exact HJ.out); rintro e w3 ⟨v, rfl, hv3, hw3⟩; replace HB := Aside0.mk (below_step HB.out hw3); replace HJ := Aside0.mk (HJ.out.keep hw3); replace ht := Net.Sine.keepc ht hw3; have HV := Aside0.mk hv3; have c3 := HJ.out.c3; clear hv3 hw3; obtain ⟨cA, cC, ec⟩ := Kd.R_slice HV.out; subst ec))
  have hul := HUL.out
  go_loopw [7, 8, 25] (fun v7 v8 v25 W => ∃ (k : Nat), k ≤ (unkL l0).length ∧ v25 = .int .i64 k ∧ v7 = .int .i64 (lowTo l0 2 k) ∧ v8 = .int .i64 (highTo l0 2 k) ∧ Aside0 (Below w3.heap.size w3 W)) (fun _ _ v25 _ => (unkL l0).length - (intOf v25).toNat)
  case atStart => exact ⟨0, Nat.zero_le _, rfl, rfl, rfl, ⟨Below.refl _ _⟩⟩
  case round =>
    obtain ⟨k, hk, rfl, rfl, rfl, HB3⟩ := hrel
    by_cases hlt : k < (unkL l0).length
    · have k0 : (0 : Int) ≤ (k : Int) := by omega
      have k1 : (k : Int) < ((unkL l0).length : Int) := by omega
      obtain ⟨ad, e1, h1⟩ := Kd.at_int (Kd.C_below HJ.out.p HB3.out) (k : Int) k0 k1
      rw [Int.toNat_natCast] at h1
      have hs := HRG.out (rd (unkL l0) (k : Int)) (by rw [Net.rd_get _ k hlt]; exact List.getElem_mem hlt)
      have HE1 := Aside0.mk (HS1.out k hlt)
      have HE2 := Aside0.mk (HS2.out k hlt)
      obtain ⟨s, hs2⟩ := Int.eq_ofNat_of_zero_le hs.1
      rw [hs2] at h1 hs HE1 HE2
      have s0 : (0 : Int) ≤ (s : Int) := hs.1
      have s1 : (s : Int) < ((coL l0 2).length : Int) := by rw [HCL.out]; exact hs.2
      clear hs hs2
      obtain ⟨ac, e2, h2⟩ := Kd.at_int (Kd.C_below (Kd.R_reads' HV.out).2.2 HB3.out) (s : Int) s0 s1
      rw [Int.toNat_natCast] at h2
      subst e1
      subst e2
      generalize rd (coL l0 2) (s : Int) = cv at *
      go_wp2_with fail
      go_region_held3 (fun w' => w'.cell? (ac.add s) = some (.int .i64 cv))
        (first | assumption | exact Net.Sine.keepc (w := wr) (by assumption) (by (repeat (first | exact Below.refl _ _ | apply pw_below_drewN | apply below_drew1 | exact HB.out | refine below_step ?_ (by assumption))); done))
        (fail)
      all_goals go_wp2
      all_goals exact ⟨⟨k + 1, hlt, by go_num, by rw [HE1.out, imin_if], by rw [HE2.out, imax_if], ⟨by repeat (first | exact HB3.out | apply pw_below_drewN | apply below_drew1)⟩⟩, by simp [intOf]; omega⟩
    · obtain rfl : k = (unkL l0).length := by omega
      have h4 := Net.Sine.keepc ht HB3.out
      go_wp2_with (go_at_call 36; (with_reducible refine (HRD.out _).mono ?_); rintro e w5 ⟨rfl, hw5⟩; replace HB3 := Aside0.mk (below_step HB3.out hw5); clear hw5)
      exact bodyPost_ret (v := .tuple #[.int .i64 (redN (highM l0 2 - lowM l0 2) (treesM l0)), .int .i64 (redD (highM l0 2 - lowM l0 2) (treesM l0)), .bool true]) (by simp [results, Tryd.results18, go_sem]) rfl ⟨rfl, below_step HB.out HB3.out⟩
end Go.Proofs.YthplhbcafihacaaDoor.A

/- One Lean function and its proof for each Go function, written by a program out of the translation. No conditions. -/
namespace Go.Proofs.YthplhbcafihacaaDoor.A
open Go.Proofs.YthplhbcafihacaaDoor Go.RowKit Go.Proofs.YthplhbcafihacaaDoorW.PrintWords Go.Proofs.YthplhbcafihacaaDoorW.PrintLast Go.Proofs.YthplhbcafihacaaDoorW.PrintMore
attribute [local go_sem] max2_int min2_int max_two min_two max_three min_three max_four min_four   -- for this text's walks alone
set_option linter.unusedVariables false
set_option linter.unusedSimpArgs false

/-! ### laws_FnExactAdjustedDepth: function 6 -/
def laws_FnExactAdjustedDepth.j0 : Nat → List (S53) → List (S50) → Bool → Option (Bool)
 | 0, _, _, _ => none
 | k + 1, x0, x7, x43 => if x43 = true then (some false) else ((laws_toLegS.f k x0).bind fun t399 => ((laws_eqLegS.f k x7 t399).bind fun t402 => (if t402 = true then (some true) else (some false))))
def laws_FnExactAdjustedDepth.f (k : Nat) (l0 : List (S53)) : Option (Bool) := (laws_szLegS.f l0 1048576).bind fun t386 => (if t386 < 0 then (some true) else ((laws_toLegS.f k l0).bind fun t387 => ((spec_AdjustedDepth.f k t387).bind fun bt390 => ((laws_toLegS.f k l0).bind fun t393 => ((impl_AdjustedDepth.f t393).bind fun bt396 => (if bt396.1 = bt390.1 then (if bt396.2.1 = bt390.2.1 then (laws_FnExactAdjustedDepth.j0 k l0 t393 (bt396.2.2 != bt390.2.2)) else (laws_FnExactAdjustedDepth.j0 k l0 t393 true)) else (laws_FnExactAdjustedDepth.j0 k l0 t393 true)))))))
theorem laws_FnExactAdjustedDepth.mono_l : ∀ k, (∀ y0 y1 y2, LeO (laws_FnExactAdjustedDepth.j0 k y0 y1 y2) (laws_FnExactAdjustedDepth.j0 (k + 1) y0 y1 y2))
 | 0 => fun _ _ _ r h => by simp [laws_FnExactAdjustedDepth.j0] at h
 | k + 1 => by
  have ih0 := laws_FnExactAdjustedDepth.mono_l k
  ·
   intro y0 y1 y2
   unfold laws_FnExactAdjustedDepth.j0
   repeat' first
   | (with_reducible exact ih0 _ _ _)
   | (with_reducible exact laws_eqLegS.mono _ _ _)
   | (with_reducible exact laws_toLegS.mono _ _)
   | (with_reducible exact spec_AdjustedDepth.mono _ _)
   | (with_reducible exact LeO.refl _)
   | (with_reducible exact LeO.none _)
   | (with_reducible refine LeO.ite ?_ ?_)
   | (with_reducible refine LeO.bind ?_ (fun _ => ?_))
   | exact ih0 _ _ _
   | exact laws_eqLegS.mono _ _ _
   | exact laws_toLegS.mono _ _
   | exact spec_AdjustedDepth.mono _ _
   | exact LeO.none _
   | refine LeO.ite ?_ ?_
   | refine LeO.bind ?_ (fun _ => ?_)
theorem laws_FnExactAdjustedDepth.mono : ∀ a0 k, LeO (laws_FnExactAdjustedDepth.f k a0) (laws_FnExactAdjustedDepth.f (k + 1) a0) := by
 intro a0 k
 have ih0 := laws_FnExactAdjustedDepth.mono_l k
 unfold laws_FnExactAdjustedDepth.f
 repeat' first
   | (with_reducible exact ih0 _ _ _)
   | (with_reducible exact laws_eqLegS.mono _ _ _)
   | (with_reducible exact laws_toLegS.mono _ _)
   | (with_reducible exact spec_AdjustedDepth.mono _ _)
   | (with_reducible exact LeO.refl _)
   | (with_reducible exact LeO.none _)
   | (with_reducible refine LeO.ite ?_ ?_)
   | (with_reducible refine LeO.bind ?_ (fun _ => ?_))
   | exact ih0 _ _ _
   | exact laws_eqLegS.mono _ _ _
   | exact laws_toLegS.mono _ _
   | exact spec_AdjustedDepth.mono _ _
   | exact LeO.none _
   | refine LeO.ite ?_ ?_
   | refine LeO.bind ?_ (fun _ => ?_)
set_option maxHeartbeats 8000000 in
set_option maxRecDepth 100000 in
theorem laws_FnExactAdjustedDepth.calls (k : Nat) (A0 : Option Addr) (c0 : Nat) (l0 : List (S53)) (r : Bool) (w : World) (hr0 : Kd.C k53 w A0 l0.length l0) (hc0 : l0.length ≤ c0) (h : laws_FnExactAdjustedDepth.f k l0 = some r) (hL : Net.Sine.Laid w) :
  Calls Tryd.prog 6 #[.slice A0 l0.length c0] w fun e w' => e = .returned (.bool r) ∧ Below w.heap.size w w' := by
 have HL := Aside0.mk hL
 clear hL
 have HR0 := Aside0.mk hr0
 have HC0 := Aside0.mk hc0
 clear hr0 hc0
 have HB := Aside0.mk (Below.refl w.heap.size w)
 have H : ((laws_szLegS.f l0 1048576).bind fun t386 => (if t386 < 0 then (some true) else ((laws_toLegS.f k l0).bind fun t387 => ((spec_AdjustedDepth.f k t387).bind fun bt390 => ((laws_toLegS.f k l0).bind fun t393 => ((impl_AdjustedDepth.f t393).bind fun bt396 => (if bt396.1 = bt390.1 then (if bt396.2.1 = bt390.2.1 then (laws_FnExactAdjustedDepth.j0 k l0 t393 (bt396.2.2 != bt390.2.2)) else (laws_FnExactAdjustedDepth.j0 k l0 t393 true)) else (laws_FnExactAdjustedDepth.j0 k l0 t393 true)))))))) = some r := h
 clear h
 replace H := Option.bind_eq_some_iff.mp H
 obtain ⟨t386, A20, H⟩ := H
 replace H : (if t386 < 0 then (some true) else ((laws_toLegS.f k l0).bind fun t387 => ((spec_AdjustedDepth.f k t387).bind fun bt390 => ((laws_toLegS.f k l0).bind fun t393 => ((impl_AdjustedDepth.f t393).bind fun bt396 => (if bt396.1 = bt390.1 then (if bt396.2.1 = bt390.2.1 then (laws_FnExactAdjustedDepth.j0 k l0 t393 (bt396.2.2 != bt390.2.2)) else (laws_FnExactAdjustedDepth.j0 k l0 t393 true)) else (laws_FnExactAdjustedDepth.j0 k l0 t393 true))))))) = some r := H
 have A2 := Aside0.mk A20
 clear A20
 by_cases c3 : t386 < 0
 ·
  rw [if_pos c3] at H
  have c3b0 : decide (t386 < 0) = true := decide_eq_true c3
  clear c3
  obtain rfl := Option.some.inj H
  go_enter Tryd.func6, Tryd.ntmps6
  go_wp2_with (first | ((with_reducible refine gate_callee (f := 8) rfl ?_); refine goesL_ (some 13) rfl rfl Tryd.func8 (by kernel_rfl) rfl #[.slice A0 l0.length c0, .int .i64 1048576] rfl (by (try simp only [List.map_toArray, List.map_cons, List.map_nil]); first | done | rfl | (simp only [List.length_drop, List.length_take]; rfl)) ?_; (with_reducible refine (laws_szLegS.calls _ _ l0 1048576 t386 _ ?side1 ?side2 A2.out).mono ?_); (case side1 => repeat (first | exact HR0.out | (with_reducible refine Kd.C_alloc ?_ _) | (with_reducible refine Kd.C_drewN ?_ _) | (with_reducible refine Kd.C_drew ?_))); (case side2 => exact HC0.out); rintro e w' ⟨rfl, ⟨nd, rfl⟩⟩; refine ⟨_, rfl, ?_⟩))
  go_ret
  exact ⟨by first | rfl | (simp [errW_none, errW_some] <;> rfl) | (simp [*, errW_none, errW_some] <;> rfl), by repeat (first | (with_reducible first | exact HB.out | apply below_alloc | apply pw_below_drewN | apply below_drew1) | exact HB.out)⟩
 ·
  rw [if_neg c3] at H
  have c3b0 : decide (t386 < 0) = false := decide_eq_false c3
  clear c3
  replace H := Option.bind_eq_some_iff.mp H
  obtain ⟨t387, A40, H⟩ := H
  replace H : ((spec_AdjustedDepth.f k t387).bind fun bt390 => ((laws_toLegS.f k l0).bind fun t393 => ((impl_AdjustedDepth.f t393).bind fun bt396 => (if bt396.1 = bt390.1 then (if bt396.2.1 = bt390.2.1 then (laws_FnExactAdjustedDepth.j0 k l0 t393 (bt396.2.2 != bt390.2.2)) else (laws_FnExactAdjustedDepth.j0 k l0 t393 true)) else (laws_FnExactAdjustedDepth.j0 k l0 t393 true))))) = some r := H
  have A4 := Aside0.mk A40
  clear A40
  replace H := Option.bind_eq_some_iff.mp H
  obtain ⟨⟨t390, t391, t392⟩, A50, H⟩ := H
  replace H : ((laws_toLegS.f k l0).bind fun t393 => ((impl_AdjustedDepth.f t393).bind fun bt396 => (if bt396.1 = t390 then (if bt396.2.1 = t391 then (laws_FnExactAdjustedDepth.j0 k l0 t393 (bt396.2.2 != t392)) else (laws_FnExactAdjustedDepth.j0 k l0 t393 true)) else (laws_FnExactAdjustedDepth.j0 k l0 t393 true)))) = some r := H
  have A5 := Aside0.mk A50
  clear A50
  replace H := Option.bind_eq_some_iff.mp H
  obtain ⟨t393, A60, H⟩ := H
  replace H : ((impl_AdjustedDepth.f t393).bind fun bt396 => (if bt396.1 = t390 then (if bt396.2.1 = t391 then (laws_FnExactAdjustedDepth.j0 k l0 t393 (bt396.2.2 != t392)) else (laws_FnExactAdjustedDepth.j0 k l0 t393 true)) else (laws_FnExactAdjustedDepth.j0 k l0 t393 true))) = some r := H
  have A6 := Aside0.mk A60
  clear A60
  replace H := Option.bind_eq_some_iff.mp H
  obtain ⟨⟨t396, t397, t398⟩, A70, H⟩ := H
  replace H : (if t396 = t390 then (if t397 = t391 then (laws_FnExactAdjustedDepth.j0 k l0 t393 (t398 != t392)) else (laws_FnExactAdjustedDepth.j0 k l0 t393 true)) else (laws_FnExactAdjustedDepth.j0 k l0 t393 true)) = some r := H
  have A7 := Aside0.mk A70
  clear A70
  have HC8 := Aside0.mk H
  clear H
  go_enter Tryd.func6, Tryd.ntmps6
  go_upto_region 8 with (first | ((with_reducible refine gate_callee (f := 8) rfl ?_); refine goesL_ (some 13) rfl rfl Tryd.func8 (by kernel_rfl) rfl #[.slice A0 l0.length c0, .int .i64 1048576] rfl (by (try simp only [List.map_toArray, List.map_cons, List.map_nil]); first | done | rfl | (simp only [List.length_drop, List.length_take]; rfl)) ?_; (with_reducible refine (laws_szLegS.calls _ _ l0 1048576 t386 _ ?side1 ?side2 A2.out).mono ?_); (case side1 => repeat (first | exact HR0.out | (with_reducible refine Kd.C_alloc ?_ _) | (with_reducible refine Kd.C_drewN ?_ _) | (with_reducible refine Kd.C_drew ?_))); (case side2 => exact HC0.out); rintro e w' ⟨rfl, ⟨nd, rfl⟩⟩; refine ⟨_, rfl, ?_⟩) | ((with_reducible refine gate_callee (f := 10) rfl ?_); refine goesL_ (some 18) rfl rfl Tryd.func10 (by kernel_rfl) rfl #[.slice A0 l0.length c0] rfl (by (try simp only [List.map_toArray, List.map_cons, List.map_nil]); first | done | rfl | (simp only [List.length_drop, List.length_take]; rfl)) ?_; (with_reducible refine (laws_toLegS.calls k _ _ l0 t387 _ ?side1 ?side2 A4.out).mono ?_); (case side1 => repeat (first | exact HR0.out | (with_reducible refine Kd.C_alloc ?_ _) | (with_reducible refine Kd.C_drewN ?_ _) | (with_reducible refine Kd.C_drew ?_))); (case side2 => exact HC0.out); rintro e w9 ⟨v388, rfl, ho0, hb⟩; refine ⟨_, rfl, ?_⟩; have n0_ := Aside0.mk (Kd.R_lower ho0 (below_size (by repeat (first | (with_reducible first | exact HB.out | apply below_alloc | apply pw_below_drewN | apply below_drew1) | exact HB.out)))); have n1_ := Aside0.mk (below_step (by repeat (first | (with_reducible first | exact HB.out | apply below_alloc | apply pw_below_drewN | apply below_drew1) | exact HB.out)) hb); clear HB; have HO389 := n0_; have HB := n1_; clear n0_ n1_; (try clear hb); (try clear hb2); (try clear hk); (try clear hi); (try clear ho0); obtain ⟨Ao10, co10, eo10⟩ := Kd.R_slice HO389.out; subst eo10) | ((with_reducible refine gate_callee (f := 17) rfl ?_); refine goesL_ (some 19) rfl rfl Tryd.func17 (by kernel_rfl) rfl #[.slice Ao10 t387.length co10] rfl (by (try simp only [List.map_toArray, List.map_cons, List.map_nil]); first | done | rfl | (simp only [List.length_drop, List.length_take]; rfl)) ?_; (with_reducible refine (spec_AdjustedDepth.calls k _ _ t387 t390 t391 t392 _ ?side1 ?side2 A5.out ?sideL).mono ?_); (case sideL => exact HL.out.keep (by repeat (first | (with_reducible first | exact HB.out | apply below_alloc | apply pw_below_drewN | apply below_drew1) | exact HB.out))); (case side1 => repeat (first | exact (Kd.R_reads' HO389.out).2.2 | (with_reducible refine Kd.C_alloc ?_ _) | (with_reducible refine Kd.C_drewN ?_ _) | (with_reducible refine Kd.C_drew ?_))); (case side2 => exact (Kd.R_reads' HO389.out).2.1); rintro e w11 ⟨rfl, hb⟩; refine ⟨_, rfl, ?_⟩; have n0_ := Aside0.mk (Kd.R_below (by (with_reducible repeat (first | apply Kd.R_alloc | apply Kd.R_drewN | apply Kd.R_drew)); exact HO389.out) hb); have n1_ := Aside0.mk (below_step (by repeat (first | (with_reducible first | exact HB.out | apply below_alloc | apply pw_below_drewN | apply below_drew1) | exact HB.out)) hb); clear HO389; clear HB; have HO389 := n0_; have HB := n1_; clear n0_ n1_; (try clear hb); (try clear hb2); (try clear hk); (try clear hi)) | ((with_reducible refine gate_callee (f := 10) rfl ?_); refine goesL_ (some 24) rfl rfl Tryd.func10 (by kernel_rfl) rfl #[.slice A0 l0.length c0] rfl (by (try simp only [List.map_toArray, List.map_cons, List.map_nil]); first | done | rfl | (simp only [List.length_drop, List.length_take]; rfl)) ?_; (with_reducible refine (laws_toLegS.calls k _ _ l0 t393 _ ?side1 ?side2 A6.out).mono ?_); (case side1 => repeat (first | exact (Kd.C_below HR0.out HB.out) | (with_reducible refine Kd.C_alloc ?_ _) | (with_reducible refine Kd.C_drewN ?_ _) | (with_reducible refine Kd.C_drew ?_))); (case side2 => exact HC0.out); rintro e w12 ⟨v394, rfl, ho0, hb⟩; refine ⟨_, rfl, ?_⟩; have n0_ := Aside0.mk (Kd.R_elder' (by (with_reducible repeat (first | apply Kd.R_alloc | apply Kd.R_drewN | apply Kd.R_drew)); exact HO389.out) (Kd.R_base ho0) hb); have n1_ := Aside0.mk (Kd.R_lower (Kd.R_new' ho0 (Kd.R_lt (by (with_reducible repeat (first | apply Kd.R_alloc | apply Kd.R_drewN | apply Kd.R_drew)); exact HO389.out))) (below_size (by repeat (first | (with_reducible first | exact HB.out | apply below_alloc | apply pw_below_drewN | apply below_drew1) | exact HB.out)))); have n2_ := Aside0.mk (below_step (by repeat (first | (with_reducible first | exact HB.out | apply below_alloc | apply pw_below_drewN | apply below_drew1) | exact HB.out)) hb); clear HO389; clear HB; have HO389 := n0_; have HO395 := n1_; have HB := n2_; clear n0_ n1_ n2_; (try clear hb); (try clear hb2); (try clear hk); (try clear hi); (try clear ho0); obtain ⟨Ao13, co13, eo13⟩ := Kd.R_slice HO395.out; subst eo13) | ((with_reducible refine gate_callee (f := 18) rfl ?_); refine goesL_ (some 27) rfl rfl Tryd.func18 (by kernel_rfl) rfl #[.slice Ao13 t393.length co13] rfl (by (try simp only [List.map_toArray, List.map_cons, List.map_nil]); first | done | rfl | (simp only [List.length_drop, List.length_take]; rfl)) ?_; (with_reducible refine (impl_AdjustedDepth.calls _ _ t393 t396 t397 t398 _ ?side1 ?side2 A7.out ?sideL).mono ?_); (case sideL => exact HL.out.keep (by repeat (first | (with_reducible first | exact HB.out | apply below_alloc | apply pw_below_drewN | apply below_drew1) | exact HB.out))); (case side1 => repeat (first | exact (Kd.R_reads' HO395.out).2.2 | (with_reducible refine Kd.C_alloc ?_ _) | (with_reducible refine Kd.C_drewN ?_ _) | (with_reducible refine Kd.C_drew ?_))); (case side2 => exact (Kd.R_reads' HO395.out).2.1); rintro e w14 ⟨rfl, hb⟩; refine ⟨_, rfl, ?_⟩; have n0_ := Aside0.mk (Kd.R_below (by (with_reducible repeat (first | apply Kd.R_alloc | apply Kd.R_drewN | apply Kd.R_drew)); exact HO389.out) hb); have n1_ := Aside0.mk (Kd.R_below (by (with_reducible repeat (first | apply Kd.R_alloc | apply Kd.R_drewN | apply Kd.R_drew)); exact HO395.out) hb); have n2_ := Aside0.mk (below_step (by repeat (first | (with_reducible first | exact HB.out | apply below_alloc | apply pw_below_drewN | apply below_drew1) | exact HB.out)) hb); clear HO389; clear HO395; clear HB; have HO389 := n0_; have HO395 := n1_; have HB := n2_; clear n0_ n1_ n2_; (try clear hb); (try clear hb2); (try clear hk); (try clear hi)))
  (try simp only [Act.put, List.setIfInBounds_toArray, List.set_cons_zero, List.set_cons_succ])
  go_cut [43] (fun v43 wc => ∃ (kq : Nat) (x43_7 : Bool), v43 = .bool x43_7 ∧ Aside0 (laws_FnExactAdjustedDepth.j0 kq l0 t393 x43_7 = some r) ∧ Aside0 (kq ≤ k) ∧ Aside0 (Kd.R k50 50 wc w.heap.size (fun _ => True) (.slice Ao13 t393.length co13) t393) ∧ Aside0 (Below w.heap.size w wc))
  case first =>
   have H := HC8.out
   clear HC8
   by_cases c15 : t396 = t390
   ·
    rw [if_pos c15] at H
    have c15b0 : (t396 == t390) = true := beq_iff_eq.mpr c15
    have c15b1 : (t396 != t390) = false := bne_eq_false_iff_eq.mpr c15
    clear c15
    (first | rw [c15b0] | (simp only [i64_w, i32_w]; rw [c15b0]) | skip)
    by_cases c16 : t397 = t391
    ·
     rw [if_pos c16] at H
     have c16b0 : (t397 == t391) = true := beq_iff_eq.mpr c16
     have c16b1 : (t397 != t391) = false := bne_eq_false_iff_eq.mpr c16
     clear c16
     have H' := Aside0.mk H
     clear H
     go_wp2
     go_meet
     case rel => exact ⟨_, ((t398 != t392)), (by first | rfl | (simp; done) | (simp [*]; done)), H', ⟨by first | omega | exact Nat.le_refl _⟩, ⟨by (with_reducible repeat (first | apply Kd.R_alloc | apply Kd.R_drewN | apply Kd.R_drew)); exact Kd.R_mono HO395.out (fun _ hk => trivial)⟩, ⟨by repeat (first | (with_reducible first | exact HB.out | apply below_alloc | apply pw_below_drewN | apply below_drew1) | exact HB.out)⟩⟩
    ·
     rw [if_neg c16] at H
     have c16b0 : (t397 == t391) = false := beq_eq_false_iff_ne.mpr c16
     have c16b1 : (t397 != t391) = true := bne_iff_ne.mpr c16
     have H' := Aside0.mk H
     clear H
     go_wp2
     go_meet
     case rel => exact ⟨_, (true), (by first | rfl | (simp; done) | (simp [*]; done)), H', ⟨by first | omega | exact Nat.le_refl _⟩, ⟨by (with_reducible repeat (first | apply Kd.R_alloc | apply Kd.R_drewN | apply Kd.R_drew)); exact Kd.R_mono HO395.out (fun _ hk => trivial)⟩, ⟨by repeat (first | (with_reducible first | exact HB.out | apply below_alloc | apply pw_below_drewN | apply below_drew1) | exact HB.out)⟩⟩
   ·
    rw [if_neg c15] at H
    have c15b0 : (t396 == t390) = false := beq_eq_false_iff_ne.mpr c15
    have c15b1 : (t396 != t390) = true := bne_iff_ne.mpr c15
    (first | rw [c15b0] | (simp only [i64_w, i32_w]; rw [c15b0]) | skip)
    have H' := Aside0.mk H
    clear H
    go_wp2
    go_meet
    case rel => exact ⟨_, (true), (by first | rfl | (simp; done) | (simp [*]; done)), H', ⟨by first | omega | exact Nat.le_refl _⟩, ⟨by (with_reducible repeat (first | apply Kd.R_alloc | apply Kd.R_drewN | apply Kd.R_drew)); exact Kd.R_mono HO395.out (fun _ hk => trivial)⟩, ⟨by repeat (first | (with_reducible first | exact HB.out | apply below_alloc | apply pw_below_drewN | apply below_drew1) | exact HB.out)⟩⟩
  case rest =>
   clear HC8
   try clear c1
   try clear p2
   try clear c3
   try clear c3b0
   try clear c6
   try clear c8
   try clear c10
   try clear c15
   try clear c15b0
   try clear c15b1
   try clear c16
   try clear c16b0
   try clear c16b1
   obtain ⟨kq, x43_7, rfl, HA, HJ7, HO_7, HB⟩ := hcut
   cases kq with
   | zero => exact absurd HA.out (by simp [laws_FnExactAdjustedDepth.j0])
   | succ kj7 =>
    have H := HA.out
    clear HA
    simp only [laws_FnExactAdjustedDepth.j0] at H
    by_cases c17 : x43_7 = true
    ·
     subst c17
     have H1 : (some false) = some r := by rw [if_pos rfl] at H; exact H
     clear H
     have H := H1
     clear H1
     obtain rfl := Option.some.inj H
     go_wp2
     go_ret
     exact ⟨by first | rfl | (simp [errW_none, errW_some] <;> rfl) | (simp [*, errW_none, errW_some] <;> rfl), by repeat (first | (with_reducible first | exact HB.out | apply below_alloc | apply pw_below_drewN | apply below_drew1) | exact HB.out)⟩
    ·
     replace c17 := Bool.eq_false_iff.mpr c17
     subst c17
     have H1 : ((laws_toLegS.f kj7 l0).bind fun t399 => ((laws_eqLegS.f kj7 t393 t399).bind fun t402 => (if t402 = true then (some true) else (some false)))) = some r := by rw [if_neg (show ¬ (false = true) by decide)] at H; exact H
     clear H
     have H := H1
     clear H1
     replace H := Option.bind_eq_some_iff.mp H
     obtain ⟨t399, A180, H⟩ := H
     replace H : ((laws_eqLegS.f kj7 t393 t399).bind fun t402 => (if t402 = true then (some true) else (some false))) = some r := H
     have A18 := Aside0.mk A180
     clear A180
     replace H := Option.bind_eq_some_iff.mp H
     obtain ⟨t402, A190, H⟩ := H
     replace H : (if t402 = true then (some true) else (some false)) = some r := H
     have A19 := Aside0.mk A190
     clear A190
     by_cases c20 : t402 = true
     ·
      subst c20
      have H1 : (some true) = some r := by rw [if_pos rfl] at H; exact H
      clear H
      have H := H1
      clear H1
      obtain rfl := Option.some.inj H
      go_wp2_with (first | ((with_reducible refine gate_callee (f := 10) rfl ?_); refine goesL_ (some 46) rfl rfl Tryd.func10 (by kernel_rfl) rfl #[.slice A0 l0.length c0] rfl (by (try simp only [List.map_toArray, List.map_cons, List.map_nil]); first | done | rfl | (simp only [List.length_drop, List.length_take]; rfl)) ?_; (with_reducible refine (laws_toLegS.calls kj7 _ _ l0 t399 _ ?side1 ?side2 A18.out).mono ?_); (case side1 => repeat (first | exact (Kd.C_below HR0.out HB.out) | (with_reducible refine Kd.C_alloc ?_ _) | (with_reducible refine Kd.C_drewN ?_ _) | (with_reducible refine Kd.C_drew ?_))); (case side2 => exact HC0.out); rintro e w21 ⟨v400, rfl, ho0, hb⟩; refine ⟨_, rfl, ?_⟩; have n0_ := Aside0.mk (Kd.R_elder' (by (with_reducible repeat (first | apply Kd.R_alloc | apply Kd.R_drewN | apply Kd.R_drew)); exact HO_7.out) (Kd.R_base ho0) hb); have n1_ := Aside0.mk (Kd.R_lower (Kd.R_new' ho0 (Kd.R_lt (by (with_reducible repeat (first | apply Kd.R_alloc | apply Kd.R_drewN | apply Kd.R_drew)); exact HO_7.out))) (below_size (by repeat (first | (with_reducible first | exact HB.out | apply below_alloc | apply pw_below_drewN | apply below_drew1) | exact HB.out)))); have n2_ := Aside0.mk (below_step (by repeat (first | (with_reducible first | exact HB.out | apply below_alloc | apply pw_below_drewN | apply below_drew1) | exact HB.out)) hb); clear HO_7; clear HB; have HO_7 := n0_; have HO401 := n1_; have HB := n2_; clear n0_ n1_ n2_; (try clear hb); (try clear hb2); (try clear hk); (try clear hi); (try clear ho0); obtain ⟨Ao22, co22, eo22⟩ := Kd.R_slice HO401.out; subst eo22) | ((with_reducible refine gate_callee (f := 12) rfl ?_); refine goesL_ (some 47) rfl rfl Tryd.func12 (by kernel_rfl) rfl #[.slice Ao13 t393.length co13, .slice Ao22 t399.length co22] rfl (by (try simp only [List.map_toArray, List.map_cons, List.map_nil]); first | done | rfl | (simp only [List.length_drop, List.length_take]; rfl)) ?_; (with_reducible refine (laws_eqLegS.calls kj7 _ _ t393 _ _ t399 true _ ?side1 ?side2 ?side3 ?side4 A19.out).mono ?_); (case side1 => repeat (first | exact (Kd.R_reads' HO_7.out).2.2 | (with_reducible refine Kd.C_alloc ?_ _) | (with_reducible refine Kd.C_drewN ?_ _) | (with_reducible refine Kd.C_drew ?_))); (case side2 => exact (Kd.R_reads' HO_7.out).2.1); (case side3 => repeat (first | exact (Kd.R_reads' HO401.out).2.2 | (with_reducible refine Kd.C_alloc ?_ _) | (with_reducible refine Kd.C_drewN ?_ _) | (with_reducible refine Kd.C_drew ?_))); (case side4 => exact (Kd.R_reads' HO401.out).2.1); rintro e w23 ⟨rfl, hb⟩; refine ⟨_, rfl, ?_⟩; have n0_ := Aside0.mk (Kd.R_below (by (with_reducible repeat (first | apply Kd.R_alloc | apply Kd.R_drewN | apply Kd.R_drew)); exact HO_7.out) hb); have n1_ := Aside0.mk (Kd.R_below (by (with_reducible repeat (first | apply Kd.R_alloc | apply Kd.R_drewN | apply Kd.R_drew)); exact HO401.out) hb); have n2_ := Aside0.mk (below_step (by repeat (first | (with_reducible first | exact HB.out | apply below_alloc | apply pw_below_drewN | apply below_drew1) | exact HB.out)) hb); clear HO_7; clear HO401; clear HB; have HO_7 := n0_; have HO401 := n1_; have HB := n2_; clear n0_ n1_ n2_; (try clear hb); (try clear hb2); (try clear hk); (try clear hi)))
      go_ret
      exact ⟨by first | rfl | (simp [errW_none, errW_some] <;> rfl) | (simp [*, errW_none, errW_some] <;> rfl), by repeat (first | (with_reducible first | exact HB.out | apply below_alloc | apply pw_below_drewN | apply below_drew1) | exact HB.out)⟩
     ·
      replace c20 := Bool.eq_false_iff.mpr c20
      subst c20
      have H1 : (some false) = some r := by rw [if_neg (show ¬ (false = true) by decide)] at H; exact H
      clear H
      have H := H1
      clear H1
      obtain rfl := Option.some.inj H
      go_wp2_with (first | ((with_reducible refine gate_callee (f := 10) rfl ?_); refine goesL_ (some 46) rfl rfl Tryd.func10 (by kernel_rfl) rfl #[.slice A0 l0.length c0] rfl (by (try simp only [List.map_toArray, List.map_cons, List.map_nil]); first | done | rfl | (simp only [List.length_drop, List.length_take]; rfl)) ?_; (with_reducible refine (laws_toLegS.calls kj7 _ _ l0 t399 _ ?side1 ?side2 A18.out).mono ?_); (case side1 => repeat (first | exact (Kd.C_below HR0.out HB.out) | (with_reducible refine Kd.C_alloc ?_ _) | (with_reducible refine Kd.C_drewN ?_ _) | (with_reducible refine Kd.C_drew ?_))); (case side2 => exact HC0.out); rintro e w24 ⟨v400, rfl, ho0, hb⟩; refine ⟨_, rfl, ?_⟩; have n0_ := Aside0.mk (Kd.R_elder' (by (with_reducible repeat (first | apply Kd.R_alloc | apply Kd.R_drewN | apply Kd.R_drew)); exact HO_7.out) (Kd.R_base ho0) hb); have n1_ := Aside0.mk (Kd.R_lower (Kd.R_new' ho0 (Kd.R_lt (by (with_reducible repeat (first | apply Kd.R_alloc | apply Kd.R_drewN | apply Kd.R_drew)); exact HO_7.out))) (below_size (by repeat (first | (with_reducible first | exact HB.out | apply below_alloc | apply pw_below_drewN | apply below_drew1) | exact HB.out)))); have n2_ := Aside0.mk (below_step (by repeat (first | (with_reducible first | exact HB.out | apply below_alloc | apply pw_below_drewN | apply below_drew1) | exact HB.out)) hb); clear HO_7; clear HB; have HO_7 := n0_; have HO401 := n1_; have HB := n2_; clear n0_ n1_ n2_; (try clear hb); (try clear hb2); (try clear hk); (try clear hi); (try clear ho0); obtain ⟨Ao25, co25, eo25⟩ := Kd.R_slice HO401.out; subst eo25) | ((with_reducible refine gate_callee (f := 12) rfl ?_); refine goesL_ (some 47) rfl rfl Tryd.func12 (by kernel_rfl) rfl #[.slice Ao13 t393.length co13, .slice Ao25 t399.length co25] rfl (by (try simp only [List.map_toArray, List.map_cons, List.map_nil]); first | done | rfl | (simp only [List.length_drop, List.length_take]; rfl)) ?_; (with_reducible refine (laws_eqLegS.calls kj7 _ _ t393 _ _ t399 false _ ?side1 ?side2 ?side3 ?side4 A19.out).mono ?_); (case side1 => repeat (first | exact (Kd.R_reads' HO_7.out).2.2 | (with_reducible refine Kd.C_alloc ?_ _) | (with_reducible refine Kd.C_drewN ?_ _) | (with_reducible refine Kd.C_drew ?_))); (case side2 => exact (Kd.R_reads' HO_7.out).2.1); (case side3 => repeat (first | exact (Kd.R_reads' HO401.out).2.2 | (with_reducible refine Kd.C_alloc ?_ _) | (with_reducible refine Kd.C_drewN ?_ _) | (with_reducible refine Kd.C_drew ?_))); (case side4 => exact (Kd.R_reads' HO401.out).2.1); rintro e w26 ⟨rfl, hb⟩; refine ⟨_, rfl, ?_⟩; have n0_ := Aside0.mk (Kd.R_below (by (with_reducible repeat (first | apply Kd.R_alloc | apply Kd.R_drewN | apply Kd.R_drew)); exact HO_7.out) hb); have n1_ := Aside0.mk (Kd.R_below (by (with_reducible repeat (first | apply Kd.R_alloc | apply Kd.R_drewN | apply Kd.R_drew)); exact HO401.out) hb); have n2_ := Aside0.mk (below_step (by repeat (first | (with_reducible first | exact HB.out | apply below_alloc | apply pw_below_drewN | apply below_drew1) | exact HB.out)) hb); clear HO_7; clear HO401; clear HB; have HO_7 := n0_; have HO401 := n1_; have HB := n2_; clear n0_ n1_ n2_; (try clear hb); (try clear hb2); (try clear hk); (try clear hi)))
      go_ret
      exact ⟨by first | rfl | (simp [errW_none, errW_some] <;> rfl) | (simp [*, errW_none, errW_some] <;> rfl), by repeat (first | (with_reducible first | exact HB.out | apply below_alloc | apply pw_below_drewN | apply below_drew1) | exact HB.out)⟩

end Go.Proofs.YthplhbcafihacaaDoor.A

/- Slices of legs that a law copies and compares. No conditions. -/
namespace Go.Proofs.YthplhbcafihacaaDoor.Legs
open Go.RowKit Go.Proofs.YthplhbcafihacaaDoorW.PrintWords Go.Proofs.YthplhbcafihacaaDoor.Plain Go.Proofs.YthplhbcafihacaaDoor.A
set_option linter.unusedVariables false
set_option linter.unusedSimpArgs false
def cv (x : S53) : S50 := ⟨x.f0, x.f1, x.f2, x.f3, x.f4⟩
theorem toLegs_ev (l : List (S53)) (hb : l.length ≤ 7036874417766) : Ev (fun k => laws_toLegS.f k l) (l.map cv) := by
  unfold laws_toLegS.f
  refine Ev.pos (by omega) ?_
  refine Ev.pos (by omega) ?_
  exact copy_all laws_toLegS.l0 cv z53 _ (fun k x0 x3 x4 => by simp only [laws_toLegS.l0, laws_toLeg.f, Option.bind_some]; rfl) l (by omega)
theorem eqLegs_ev (l : List (S50)) (hb : l.length ≤ 140737488351232) : Ev (fun k => laws_eqLegS.f k l l) true := by
  unfold laws_eqLegS.f
  refine Ev.pos rfl ?_
  exact eq_all laws_eqLegS.l0 (fun k x0 x4 h0 => by
    simp only [laws_eqLegS.l0, laws_eqLeg.f, if_true, Option.bind_some]
    by_cases h : x4 < (x0.length : Int)
    · rw [if_pos h, if_pos h0, if_pos h, if_pos h]
    · rw [if_neg h, if_neg h]) l hb
theorem szLegs_eq (l : List (S53)) (hb : l.length ≤ 140737488351232) : laws_szLegS.f l 1048576 = some (if l.length ≤ 1048576 then 1048576 - (l.length : Int) else -1) := by
  unfold laws_szLegS.f
  rw [w64 (by omega) (by omega)]
  by_cases h : l.length ≤ 1048576
  · rw [if_neg (by omega), if_pos h]
  · rw [if_pos (by omega), if_neg h]
end Go.Proofs.YthplhbcafihacaaDoor.Legs

/- The law FnExactAdjustedDepth, as a plain statement: the program's AdjustedDepth answers what the reference's answers. Conditions: those of the row's own reading. -/
namespace Go.Proofs.YthplhbcafihacaaDoor.Pure
open Go.RowKit Go.Proofs.YthplhbcafihacaaDoorW.PrintWords Go.Proofs.YthplhbcafihacaaDoor.Plain Go.Proofs.YthplhbcafihacaaDoor.A Go.Proofs.YthplhbcafihacaaDoor.Legs
set_option linter.unusedVariables false
set_option linter.unusedSimpArgs false
theorem fold_step (f : Int → Int → Int) (l : List Int) (j : Nat) (h : j < l.length) : (l.take (j + 1)).foldl f 0 = f ((l.take j).foldl f 0) (rd l (j : Int)) := by
  rw [List.take_add_one, List.getElem?_eq_getElem h, Net.rd_get _ j h, List.foldl_append]
  rfl
theorem least_eq (a b : Int) : spec_l1Least.f a b = some (min a b) := by
  unfold spec_l1Least.f
  split <;> (congr 1; omega)
theorem most_eq (a b : Int) : spec_l1Most.f a b = some (max a b) := by
  unfold spec_l1Most.f
  split <;> (congr 1; omega)
theorem depth_loop {ls : Net.L} (hv : Net.legsB ls = true) : ∀ (d j : Nat), j + d = (Net.coL ls 2).length →
    Ev (fun k => spec_AdjustedDepth.l0 k ls (Net.coL ls 2) (((Net.coL ls 2).take j).foldl min 0) (((Net.coL ls 2).take j).foldl max 0) (j : Int)) (Net.redN (Net.highM ls 2 - Net.lowM ls 2) (Net.treesM ls), Net.redD (Net.highM ls 2 - Net.lowM ls 2) (Net.treesM ls), true) := by
  have h' := Net.legsB_iff.mp hv
  have h8 := Net.coL_len ls 2
  intro d
  induction d with
  | zero =>
    intro j hj
    have ht1 := Net.trees_pos h'.2 h'.1
    have ht2 := Net.trees_le h'.2 h'.1
    have hs := Net.depth_bound h'.2 h'.1 2
    have hTB : (Net.TB : Int) ≤ 1000000000000 := by decide
    have ht : spec_l9Trees.f ls = some (Net.treesM ls) := by unfold spec_l9Trees.f; rw [if_pos hv]
    obtain rfl : j = (Net.coL ls 2).length := by omega
    rw [List.take_length]
    refine Ev.step (f := fun k => (spec_l9Trees.f ls).bind fun t => (spec_l9Reduce.f k (wrap64 (Net.highM ls 2 - Net.lowM ls 2)) t).bind fun bt => some (bt.1, bt.2, true)) (fun k => ?_) ?_
    · simp only [spec_AdjustedDepth.l0]
      rw [if_neg (by omega)]
      rfl
    · rw [w64 (by omega) (by omega)]
      exact Ev.bindc ht (Ev.bind (Net.l9Reduce_ev (Net.highM ls 2 - Net.lowM ls 2) (Net.treesM ls) (by omega) (by omega) (by omega) (by omega)) (Ev.now _))
  | succ d ih =>
    intro j hj
    have hlt : j < (Net.coL ls 2).length := by omega
    have h := ih (j + 1) (by omega)
    rw [fold_step min _ j hlt, fold_step max _ j hlt] at h
    refine Ev.step (fun k => ?_) h
    simp only [spec_AdjustedDepth.l0]
    rw [if_pos (by omega), if_pos (by omega), least_eq, Option.bind_some, most_eq, Option.bind_some, w64 (x := (j : Int) + 1) (by omega) (by omega)]
    rfl
theorem depth_ev (ls : Net.L) (hb : ls.length ≤ 140737488351232) : Ev (fun k => spec_AdjustedDepth.f k ls) (depM ls) := by
  refine Ev.bind (Net.l4Legs_ev ls hb) ?_
  unfold depM
  by_cases hv : Net.legsB ls = true
  · rw [if_pos hv]
    have ha : spec_l9Adjust.f ls 2 = some (Net.coL ls 2) := by unfold spec_l9Adjust.f; rw [if_pos ⟨hv, by decide, by decide⟩]
    exact Ev.pos hv (Ev.bindc ha (depth_loop hv (Net.coL ls 2).length 0 (by omega)))
  · rw [if_neg hv]
    exact Ev.neg hv (Ev.now _)
theorem FnExactAdjustedDepth (l0 : List (S53)) (hb : l0.length * 40 ≤ 140737488351232) (_ : ∀ x ∈ l0, (Lit.int .i64 x.f0).wf = true ∧ (Lit.int .i64 x.f1).wf = true ∧ (Lit.int .i64 x.f2).wf = true ∧ (Lit.int .i64 x.f3).wf = true ∧ (Lit.int .i64 x.f4).wf = true) : ∃ k, laws_FnExactAdjustedDepth.f k l0 = some true := by
  refine Ev.rounds ?_
  have hl : (l0.map cv).length = l0.length := by simp
  have hsz := szLegs_eq l0 (by omega)
  by_cases c : l0.length ≤ 1048576
  · rw [if_pos c] at hsz
    have hs := depth_ev (l0.map cv) (by omega)
    have hi : impl_AdjustedDepth.f (l0.map cv) = some (depM (l0.map cv)) := by unfold impl_AdjustedDepth.f; rw [if_pos (by omega)]
    generalize depM (l0.map cv) = B at *
    obtain ⟨b1, b2, b3⟩ := B
    have hlegs := toLegs_ev l0 (by omega)
    refine Ev.bindc hsz (Ev.neg (by omega) ?_)
    refine Ev.bind hlegs (Ev.bind hs (Ev.bind hlegs (Ev.bindc hi (Ev.pos rfl (Ev.pos rfl ?_)))))
    refine Ev.step (f := fun k => (laws_toLegS.f k l0).bind fun t => (laws_eqLegS.f k (l0.map cv) t).bind fun t' => if t' = true then some true else some false) (fun k => ?_) ?_
    · simp only [laws_FnExactAdjustedDepth.j0, bne_self_eq_false, Bool.false_eq_true, if_false]
    · exact Ev.bind hlegs (Ev.bind (eqLegs_ev _ (by omega)) (Ev.pos rfl (Ev.now _)))
  · rw [if_neg c] at hsz
    exact Ev.bindc hsz (Ev.pos (by decide) (Ev.now _))
end Go.Proofs.YthplhbcafihacaaDoor.Pure

/- General laws by which a law's arguments are opened: a slice of structs whose fields are integers or bools, as a row of the print's kinds; a struct by value. No conditions. -/
namespace Go.Proofs.YthplhbcafihacaaDoor.Opens
open Go.ChangeShapes Go.WideShapes Go.Deep Go.RowKit Go.Proofs.YthplhbcafihacaaDoorW.PrintWords

theorem list_of {α : Type} {P : Nat → α → Prop} : ∀ (n : Nat), (∀ i, i < n → ∃ x, P i x) → ∃ xs : List α, xs.length = n ∧ ∀ i x, xs[i]? = some x → P i x
  | 0, _ => ⟨[], rfl, fun i x h => by simp at h⟩
  | n + 1, h => by
    obtain ⟨xs, hl, hx⟩ := list_of n (fun i hi => h i (Nat.lt_succ_of_lt hi))
    obtain ⟨y, hy⟩ := h n (Nat.lt_succ_self n)
    refine ⟨xs ++ [y], by simp [hl], fun i x hi => ?_⟩
    by_cases hlt : i < xs.length
    · rw [List.getElem?_append_left hlt] at hi
      exact hx i x hi
    · rw [List.getElem?_append_right (by omega)] at hi
      have h0 : i - xs.length = 0 := by
        have := (List.getElem?_eq_some_iff.1 hi).1
        simp at this
        omega
      rw [h0] at hi
      simp at hi
      subst hi
      have : i = n := by omega
      subst this
      exact hy

section
variable {H : Type} {enc : TypeId × Value → H} {P : Program} {w : World} {base : Nat} {spare : Nat → Bool} {held : Bool}
/-- A slice of structs, opened: the list of what its elements are, each by the kind's own reading. -/
theorem open_row {α : Type} (d : Kd α) {Q : α → Prop} {t e : TypeId} {a : Option Addr} {len cap : Nat} {dd : DataW H} {ps : List MemPlace} (ht : P.underlying t = some (.slice e)) (hC : P.cellsOf e = d.sz)
    (hd : ∀ n cs y, DataW.trod enc P w base spare held n e cs = some y → ∃ x, d.K w x cs ∧ Q x)
    (h : DataW.Trod enc P w base spare held t (.slice a len cap) dd ps) : ∃ xs : List α, xs.length = len ∧ len ≤ cap ∧ d.C w a len xs ∧ ∀ x ∈ xs, Q x := by
  obtain ⟨fuel, hf⟩ := h
  rcases open_slice ht hf with ⟨hcs, _⟩ | ⟨x, l, c, m, n, D, Pl, hcs, _, hl, hm, hmm, _, hi⟩
  · simp [Value.cells] at hcs
    obtain ⟨rfl, rfl, rfl⟩ := hcs
    exact ⟨[], rfl, Nat.le_refl _, ⟨rfl, by omega, fun h => by omega⟩, fun x hx => by simp at hx⟩
  · simp [Value.cells] at hcs
    obtain ⟨rfl, rfl, rfl⟩ := hcs
    have hle : len ≤ m := by subst hmm; split <;> omega
    obtain ⟨xs, hxl, hx⟩ := list_of (P := fun i (z : α) => Q z ∧ ∃ cs, d.K w z cs ∧ w.cells? base (x.add (i * d.sz)) d.sz = some cs) len (fun i hil => by
      obtain ⟨cs, h1, h2⟩ := hi i (by omega)
      rw [hC] at h1
      obtain ⟨z, h3, h4⟩ := hd _ _ _ h2
      exact ⟨z, h4, cs, h3, h1⟩)
    refine ⟨xs, hxl, hl, ⟨hxl, by unfold maxLen at hm; omega, fun _ => ⟨x, rfl, fun j p hp => ?_⟩⟩, fun z hz => ?_⟩
    · obtain ⟨_, cs, h1, h2⟩ := hx j p hp
      obtain ⟨_, hlen, hat⟩ := World.cells?_some h2
      refine ⟨cs, hlen, h1, fun i u hu => ?_⟩
      have hil : i < d.sz := by have := (List.getElem?_eq_some_iff.1 hu).1; omega
      rw [← Go.Deep.add_add, hat i hil, hu]
    · obtain ⟨j, hj⟩ := List.getElem?_of_mem hz
      exact (hx j z hj).1

theorem sized_row {t e : TypeId} {a : Option Addr} {len cap : Nat} {d : DataW H} {ps : List MemPlace} {ts : List TypeId} {ds : List (DataW H)} {j : Nat}
    (hsz : (DataW.weightsEach P ts ds).all (· ≤ reachBytes) = true) (ht : ts[j]? = some t) (hd : ds[j]? = some d) (hu : P.underlying t = some (.slice e)) {B : Nat} (hB : P.bytesOf e = B)
    (h : DataW.Trod enc P w base spare held t (.slice a len cap) d ps) : len * B ≤ 140737488351232 := by
  obtain ⟨fuel, hf⟩ := h
  rcases open_slice hu hf with ⟨hcs, _⟩ | ⟨x, l, c, m, n, D, Pl, hcs, _, hl, hm, hmm, hx, hi⟩
  · simp [Value.cells] at hcs
    obtain ⟨rfl, rfl, rfl⟩ := hcs
    simp
  · simp [Value.cells] at hcs
    obtain ⟨rfl, rfl, rfl⟩ := hcs
    obtain ⟨hx, _⟩ := Prod.mk.inj hx
    subst hx
    have z := sized_slice hsz ht hd hu
    rw [hB] at z
    simp only [List.length_map, List.length_range] at z
    have hle : len ≤ m := by subst hmm; split <;> omega
    rw [show len + (m - len) = m by omega] at z
    exact Nat.le_trans (Nat.mul_le_mul_right _ hle) z

theorem one_field {f : Field} {cs : List Value} {o c : Nat} (ho : f.offset = o) (hc : P.cellsOf f.type = c) {n : Nat} {y : Option (DataW H × List MemPlace)} (h : DataW.trod enc P w base spare held n f.type ((cs.drop f.offset).take (P.cellsOf f.type)) = y) : DataW.trod enc P w base spare held n f.type ((cs.drop o).take c) = y := by rw [← ho, ← hc]; exact h
end
theorem len5 {α : Type} : ∀ {l : List α}, l.length = 5 → ∃ x0 x1 x2 x3 x4, l = [x0, x1, x2, x3, x4]
  | [x0, x1, x2, x3, x4], _ => ⟨x0, x1, x2, x3, x4, rfl⟩
end Go.Proofs.YthplhbcafihacaaDoor.Opens

namespace Go.Proofs.YthplhbcafihacaaDoor.fnExactAdjustedDepth
open Go.ChangeShapes Go.WideShapes Go.ChangeAt Go.RowKit
open Go.ChangeMaps (open_string shut_string)
open Go.Proofs.YthplhbcafihacaaDoor.A Go.Proofs.YthplhbcafihacaaDoorW.PrintWords Go.Proofs.YthplhbcafihacaaDoor.Opens
set_option linter.unusedVariables false
theorem own : ownKnob Tryd.prog.godebug = none := by kernel_rfl
theorem laidOut : laidOutB Tryd.prog = true := by kernel_rfl
theorem open_53 {H : Type} {enc : TypeId × Value → H} {w : World} {base : Nat} {spare : Nat → Bool} {held : Bool} {n : Nat} {cs : List Value} {y : DataW H × List MemPlace} (h : DataW.trod enc Tryd.prog w base spare held n 53 cs = some y) : ∃ (x0 : Int) (x1 : Int) (x2 : Int) (x3 : Int) (x4 : Int), cs = [.int .i64 x0, .int .i64 x1, .int .i64 x2, .int .i64 x3, .int .i64 x4] ∧ (Lit.int .i64 x0).wf = true ∧ (Lit.int .i64 x1).wf = true ∧ (Lit.int .i64 x2).wf = true ∧ (Lit.int .i64 x3).wf = true ∧ (Lit.int .i64 x4).wf = true := by
  obtain ⟨ys, n', _, _, hlen, hys, hf⟩ := DataW.trod_struct Tryd.underlying53 h
  replace hlen : cs.length = 5 := hlen.trans (by kernel_rfl)
  replace hys : ys.length = 5 := hys.trans (by kernel_rfl)
  clear h
  obtain ⟨c0, c1, c2, c3, c4, rfl⟩ := len5 hlen
  obtain ⟨y0, y1, y2, y3, y4, rfl⟩ := len5 hys
  have h0 : DataW.trod enc Tryd.prog w base spare held n' 3 [c0] = some y0 := one_field (c := 1) (o := 0) rfl (by kernel_rfl) (hf 0 _ rfl)
  obtain ⟨x0, e0, _, w0⟩ := DataW.trod_int Tryd.underlying3 h0
  obtain rfl : c0 = _ := (List.cons.inj e0).1
  have h1 : DataW.trod enc Tryd.prog w base spare held n' 3 [c1] = some y1 := one_field (c := 1) (o := 1) rfl (by kernel_rfl) (hf 1 _ rfl)
  obtain ⟨x1, e1, _, w1⟩ := DataW.trod_int Tryd.underlying3 h1
  obtain rfl : c1 = _ := (List.cons.inj e1).1
  have h2 : DataW.trod enc Tryd.prog w base spare held n' 3 [c2] = some y2 := one_field (c := 1) (o := 2) rfl (by kernel_rfl) (hf 2 _ rfl)
  obtain ⟨x2, e2, _, w2⟩ := DataW.trod_int Tryd.underlying3 h2
  obtain rfl : c2 = _ := (List.cons.inj e2).1
  have h3 : DataW.trod enc Tryd.prog w base spare held n' 3 [c3] = some y3 := one_field (c := 1) (o := 3) rfl (by kernel_rfl) (hf 3 _ rfl)
  obtain ⟨x3, e3, _, w3⟩ := DataW.trod_int Tryd.underlying3 h3
  obtain rfl : c3 = _ := (List.cons.inj e3).1
  have h4 : DataW.trod enc Tryd.prog w base spare held n' 3 [c4] = some y4 := one_field (c := 1) (o := 4) rfl (by kernel_rfl) (hf 4 _ rfl)
  obtain ⟨x4, e4, _, w4⟩ := DataW.trod_int Tryd.underlying3 h4
  obtain rfl : c4 = _ := (List.cons.inj e4).1
  exact ⟨x0, x1, x2, x3, x4, rfl, w0, w1, w2, w3, w4⟩
set_option maxRecDepth 100000 in
theorem lifted (os : Os) (started : os.Started) (H : Type) (enc : TypeId × Value → H) :
    ReturnsInHanded {} Tryd.checked os 6 .any (fun w args => (Rows.fnExactAdjustedDepthSpec.pre enc Tryd.prog Tryd.f6 [] false w args ∧ laidMetH Tryd.prog LaidT.list w) ∧ sizedMet enc Tryd.prog Tryd.f6 (OpenSpec.ofChange Rows.fnExactAdjustedDepthSpec) false w args) (Rows.fnExactAdjustedDepthSpec.post enc Tryd.prog Tryd.f6 false true false false) := by
  refine returnsInHanded_of_change_and (C := Tryd.checked) (X := fun w _ => laidMetH Tryd.prog LaidT.list w) (fun _ _ _ hh h => h.of_heap hh) own started (by kernel_rfl) Tryd.func6
    (ChangeSpec.witness_shaped (enc := enc) (C := Tryd.checked) (os := os) (X := fun w _ => laidMetH Tryd.prog LaidT.list w) false (World.doorLaid Tryd.prog 400 os) #[.slice none 0 0] 8 rfl (World.shaped_of_RefB (by kernel_rfl) (by kernel_rfl)) (by kernel_rfl) (by kernel_rfl) (by kernel_rfl) (LaidT.door_met os _)) ?_
  intro W base args ds gs before hval0 hW hcnd hsz0 hL _
  have hsz : (DataW.weightsEach Tryd.prog (Tryd.f6.params.toList ++ Rows.fnExactAdjustedDepthSpec.plain.varTypes Tryd.prog) (ds ++ gs)).all (· ≤ reachBytes) = true := hsz0
  have hval : ∀ (j : Nat) t v, Tryd.f6.params[j]? = some t → args[j]? = some v → Value.okWide Tryd.prog W .any base t v := hval0
  have hW' := hW
  obtain ⟨p, q, hA0, hV, rfl, hfz, hnd⟩ := hW
  have hA : DataW.TrodAll enc Tryd.prog W 0 (fun _ => true) true Tryd.f6.params.toList args.toList ds p := hA0
  rw [Tryd.params6] at hA hval hsz
  obtain ⟨v0, vs0, d0, ds0, p0, q0, hargs, rfl, rfl, h0, r0⟩ := trodAll_cons hA
  obtain ⟨rfl, rfl, rfl⟩ := trodAll_nil r0
  obtain rfl : args = #[v0] := by cases args; simp_all
  have hV2 := hV
  obtain ⟨_, _, _, _, gd, _, rfl, _, _, _, _, _⟩ := trodVars_one hV
  have k0 := h0
  have lt0 : ∀ x ∈ p0, x.block < W.heap.size := by obtain ⟨m, hm⟩ := k0; exact DataW.trod_lt m _ _ _ hm
  obtain ⟨a0, len0, cap0, rfl⟩ := okWide_slice Tryd.underlying22 (hval 0 22 v0 rfl rfl)
  obtain ⟨l0, hl0, hc0, hr0, hw0⟩ := Opens.open_row k53 (Q := fun x => (Lit.int .i64 x.f0).wf = true ∧ (Lit.int .i64 x.f1).wf = true ∧ (Lit.int .i64 x.f2).wf = true ∧ (Lit.int .i64 x.f3).wf = true ∧ (Lit.int .i64 x.f4).wf = true) (e := 53) Tryd.underlying22 (by kernel_rfl) (fun _ _ _ h => by obtain ⟨x0, x1, x2, x3, x4, rfl, hw⟩ := open_53 h; exact ⟨⟨x0, x1, x2, x3, x4⟩, k53_mk _ _, hw⟩) h0
  have y0 : len0 * 40 ≤ 140737488351232 := Opens.sized_row hsz (j := 0) (t := 22) rfl rfl Tryd.underlying22 (by kernel_rfl) h0
  subst hl0
  clear hA0 hval0 hsz0 hsz
  obtain ⟨k, hk⟩ := Pure.FnExactAdjustedDepth l0 y0 hw0
  refine (laws_FnExactAdjustedDepth.calls k _ _ l0 true W hr0 hc0 hk (LaidT.of_laid hL)).mono fun e W' ⟨he, hb⟩ => ?_
  have bel : Below W.heap.size W W' := hb
  subst he
  exact ⟨_, rfl, _, _, _, [], _, _, hW', trodAll_mk1 (shut_bool Tryd.underlying4 _), (trodAll_cons_mk (Below.trod laidOut (by kernel_rfl) (of_decide_eq_true (by kernel_rfl)) k0 bel lt0) trodAll_mk0), Below.trodVars laidOut bel (by kernel_rfl) hV2, bel.frame _, fun h => by cases h⟩
theorem over : Rows.fnExactAdjustedDepthRow.holds Tryd.pinned (OpenSpec.ofChange Rows.fnExactAdjustedDepthSpec) :=
  OpenClaim.holds_of_wide 6 Tryd.f6 rfl rfl rfl rfl rfl rfl rfl ⟨rfl, rfl, rfl, rfl, rfl⟩ rfl rfl rfl rfl rfl (by kernel_rfl) Tryd.func6 (by kernel_rfl)
    (of_decide_eq_true (by kernel_rfl)) (by unfold Func.isWrapper; first | (rw [if_pos (by decide +kernel)]; kernel_rfl) | (rw [if_neg (by decide +kernel)]; exact ⟨rfl, rfl⟩))
    (fun os started H enc _ => lifted os started H enc)
theorem proved : Rows.FnExactAdjustedDepthSaid := over
theorem card_holds : Rows.FnExactAdjustedDepthCardSaid :=
  Claim7.holds_tied_plain_at .later [] [.data] true (true, "57e2faa9e92f11a4cdee4d549bcbf1debfde8c84ca67e4d671151bf42375cc4d") false
    over (fun _ h => by cases h) (by kernel_rfl) (fun _ h => by cases h) fnExactAdjustedDepth_row_tie rfl ⟨rfl, rfl⟩ (by kernel_rfl) rfl
    (fun f fn hf hfn => by
      obtain rfl : f = 6 := Option.some.inj ((show Tryd.prog.funcNamed "loop.example/g00933/laws.FnExactAdjustedDepth" = some 6 by kernel_rfl).symm.trans hf) |>.symm
      obtain rfl : fn = Tryd.f6 := (Option.some.inj (Tryd.func6.symm.trans hfn)).symm
      exact ⟨by kernel_rfl, fun j t ht => by
        rw [Tryd.params6] at ht
        have hm : t ∈ [22] := by simpa using Array.mem_of_getElem? ht
        have hall : ([22].all fun u => !Tryd.prog.wantsStandIn u) = true := by kernel_rfl
        exact (show Tryd.prog.wantsStandIn t = false by simpa using List.all_eq_true.1 hall t hm)⟩)
    (by kernel_rfl)
#print axioms card_holds
end Go.Proofs.YthplhbcafihacaaDoor.fnExactAdjustedDepth
namespace Go.Proofs.YthplhbcafihacaaDoor
/-- The row, under a short name, for the claim. -/
theorem fnExactAdjustedDepth_holds : Rows.FnExactAdjustedDepthCardSaid := fnExactAdjustedDepth.card_holds
end Go.Proofs.YthplhbcafihacaaDoor
