/- The row of the law FnExactCorrectAll: whatever the input, it returns true; its arguments read as they did. No conditions. -/
import Derived.Test.YtkiehapaofkmiaaWMore
import Derived.Deep.Slices
import Derived.Deep.Fields
import Derived.ChangeSame
import Derived.SizedLaws
import Derived.Test.YtkiehapaofkmiaaRows
import Derived.WalkKit
import Derived.ProofKit
import Derived.OpenShut
import Derived.ShutString
import Derived.ChangeOld
import Derived.Below
import Derived.Test.YtkiehapaofkmiaaKFnExactCorrectAll0
import Derived.Test.YtkiehapaofkmiaaKFnExactCorrectAll1
import Derived.Test.YtkiehapaofkmiaaKFnExactCorrectAll2
import Derived.Test.YtkiehapaofkmiaaKFnExactCorrectAll3
import Derived.Test.YtkiehapaofkmiaaKFnExactCorrectAll4
import Derived.Test.YtkiehapaofkmiaaKFnExactCorrectAll5
/- Plain lemmas on integers that wrap at 64 bits, on answers that come after enough rounds, on tests over all indexes of a list. No program stands here. -/
namespace Go.Proofs.Ytkiehapaofkmiaa.Plain
open Go.RowKit Go.Proofs.YtkiehapaofkmiaaW.PrintWords

theorem w64 {x : Int} (h1 : -9223372036854775808 ≤ x) (h2 : x ≤ 9223372036854775807) : wrap64 x = x := by
  unfold wrap64
  omega

theorem wf_bounds {x : Int} (h : (Lit.int .i64 x).wf = true) : -9223372036854775808 ≤ x ∧ x ≤ 9223372036854775807 := by
  simp only [Lit.wf, IntKind.min, IntKind.max, IntKind.signed, IntKind.bits, Bool.and_eq_true, decide_eq_true_eq, if_true] at h
  omega

/-- The product of two numbers that are bounded. -/
theorem mul_bound {x y : Int} (A B : Int) (h1 : -A ≤ x) (h2 : x ≤ A) (h3 : -B ≤ y) (h4 : y ≤ B) : -(A * B) ≤ x * y ∧ x * y ≤ A * B := by
  have e1 : 0 ≤ (A - x) * (B - y) := Int.mul_nonneg (by omega) (by omega)
  have e2 : 0 ≤ (A + x) * (B + y) := Int.mul_nonneg (by omega) (by omega)
  have e3 : 0 ≤ (A - x) * (B + y) := Int.mul_nonneg (by omega) (by omega)
  have e4 : 0 ≤ (A + x) * (B - y) := Int.mul_nonneg (by omega) (by omega)
  simp only [Int.sub_mul, Int.mul_sub, Int.add_mul, Int.mul_add] at e1 e2 e3 e4
  omega

/-! ### Answers after enough rounds -/
theorem Ev.some {α : Type} {g : Nat → Option α} {r : α} (h : ∀ k, g k = some r) : Ev g r := ⟨0, fun k _ => h k⟩
theorem Ev.eq {α : Type} {g f : Nat → Option α} {r : α} (h : Ev f r) (e : ∀ k, g k = f k) : Ev g r := Ev.congr e h
theorem Ev.ite {α : Type} {c : Prop} [Decidable c] {g f : Nat → Option α} {r q : α} (h : c → Ev g r) (k : ¬ c → Ev f q) : Ev (fun n => if c then g n else f n) (if c then r else q) := by
  by_cases hc : c
  · obtain ⟨K, hK⟩ := h hc
    exact ⟨K, fun n hn => by simp only [if_pos hc]; exact hK n hn⟩
  · obtain ⟨K, hK⟩ := k hc
    exact ⟨K, fun n hn => by simp only [if_neg hc]; exact hK n hn⟩
theorem Ev.pos {α : Type} {c : Prop} [Decidable c] {g f : Nat → Option α} {r : α} (hc : c) (h : Ev g r) : Ev (fun n => if c then g n else f n) r := by
  obtain ⟨K, hK⟩ := h
  exact ⟨K, fun n hn => by simp only [if_pos hc]; exact hK n hn⟩
theorem Ev.neg {α : Type} {c : Prop} [Decidable c] {g f : Nat → Option α} {r : α} (hc : ¬ c) (h : Ev f r) : Ev (fun n => if c then g n else f n) r := by
  obtain ⟨K, hK⟩ := h
  exact ⟨K, fun n hn => by simp only [if_neg hc]; exact hK n hn⟩
theorem Ev.bindc {α β : Type} {o : Option α} {f : Nat → α → Option β} {a : α} {r : β} (h : o = Option.some a) (k : Ev (fun n => f n a) r) : Ev (fun n => o.bind (f n)) r := by
  obtain ⟨K, hK⟩ := k
  exact ⟨K, fun n hn => by rw [h]; exact hK n hn⟩
theorem Ev.uniq {α : Type} {g : Nat → Option α} {r q : α} (h : Ev g r) (k : Ev g q) : r = q := by
  obtain ⟨K, h⟩ := h
  obtain ⟨K', k⟩ := k
  have h1 := h (max K K') (by omega)
  have h2 := k (max K K') (by omega)
  rw [h1] at h2
  exact Option.some.inj h2

/-! ### A test of all indexes from one on -/
def allFrom (P : Nat → Bool) : Nat → Nat → Bool
  | _, 0 => true
  | i, d + 1 => P i && allFrom P (i + 1) d
theorem allFrom_iff (P : Nat → Bool) : ∀ (d i : Nat), allFrom P i d = true ↔ ∀ j, i ≤ j → j < i + d → P j = true
  | 0, i => ⟨fun _ j h1 h2 => by omega, fun _ => rfl⟩
  | d + 1, i => by
    rw [allFrom, Bool.and_eq_true, allFrom_iff P d (i + 1)]
    constructor
    · rintro ⟨h0, h1⟩ j hj hj2
      by_cases e : j = i
      · subst e
        exact h0
      · exact h1 j (by omega) (by omega)
    · intro h
      exact ⟨h i (by omega) (by omega), fun j hj hj2 => h j (by omega) (by omega)⟩
theorem allFrom_congr {P Q : Nat → Bool} : ∀ (d i : Nat), (∀ j, i ≤ j → j < i + d → P j = Q j) → allFrom P i d = allFrom Q i d
  | 0, _, _ => rfl
  | d + 1, i, h => by rw [allFrom, allFrom, h i (by omega) (by omega), allFrom_congr d (i + 1) (fun j hj hj2 => h j (by omega) (by omega))]

/-- A number within two others. -/
def inR (x a b : Int) : Bool := if x ≥ a then decide (x ≤ b) else false
theorem inR_iff {x a b : Int} : inR x a b = true ↔ a ≤ x ∧ x ≤ b := by
  unfold inR
  split
  · simp
    omega
  · simp
    omega
theorem inR_false {x a b : Int} : inR x a b = false ↔ ¬ (a ≤ x ∧ x ≤ b) := by
  rw [← inR_iff]
  simp

/-! ### Loops that copy a list, or compare two -/
theorem copy_loop {α β : Type} (L : Nat → List α → List β → Int → Option (List β)) (cv : α → β) (z : α)
    (hL : ∀ k x0 x3 x4, L (k + 1) x0 x3 x4 = if x4 < (x0.length : Int) then (if 0 ≤ x4 then (if x4 < (x3.length : Int) then L k x0 (x3.set x4.toNat (cv (x0.getD x4.toNat z))) (wrap64 (x4 + 1)) else none) else none) else some x3)
    (x0 : List α) (hb : x0.length ≤ 140737488351232) : ∀ (d k i : Nat) (x3 : List β), x3.length = x0.length → i + d = x0.length → d < k → L k x0 x3 (i : Int) = some (x3.take i ++ (x0.drop i).map cv)
  | 0, k, i, x3, h3, hi, hk => by
    obtain ⟨k, rfl⟩ : ∃ m, k = m + 1 := ⟨k - 1, by omega⟩
    rw [hL, if_neg (by omega), List.drop_of_length_le (by omega), List.take_of_length_le (by omega)]
    simp
  | d + 1, k, i, x3, h3, hi, hk => by
    obtain ⟨k, rfl⟩ : ∃ m, k = m + 1 := ⟨k - 1, by omega⟩
    have hil : i < x0.length := by omega
    rw [hL, if_pos (by omega), if_pos (by omega), if_pos (by omega), w64 (by omega) (by omega)]
    have e := copy_loop L cv z hL x0 hb d k (i + 1) (x3.set i (cv (x0.getD i z))) (by simpa using h3) (by omega) (by omega)
    rw [Int.toNat_natCast, show ((i : Int) + 1) = ((i + 1 : Nat) : Int) by omega, e]
    congr 1
    rw [List.drop_eq_getElem_cons hil, List.map_cons]
    have hx3 : i < x3.length := by omega
    rw [List.take_succ_eq_append_getElem (by simpa using hx3), List.take_set_of_le (by omega)]
    simp [List.getD, hil]

theorem copy_all {α β : Type} (L : Nat → List α → List β → Int → Option (List β)) (cv : α → β) (z : α) (z' : β)
    (hL : ∀ k x0 x3 x4, L (k + 1) x0 x3 x4 = if x4 < (x0.length : Int) then (if 0 ≤ x4 then (if x4 < (x3.length : Int) then L k x0 (x3.set x4.toNat (cv (x0.getD x4.toNat z))) (wrap64 (x4 + 1)) else none) else none) else some x3)
    (x0 : List α) (hb : x0.length ≤ 140737488351232) : Ev (fun k => L k x0 (List.replicate ((x0.length : Int) : Int).toNat z') 0) (x0.map cv) :=
  ⟨x0.length + 1, fun k hk => by
    have := copy_loop L cv z hL x0 hb x0.length k 0 (List.replicate x0.length z') (by simp) (by omega) (by omega)
    simpa using this⟩

theorem eq_loop {α : Type} (L : Nat → List α → List α → Int → Option Bool) 
    (hL : ∀ k x0 x4, 0 ≤ x4 → L (k + 1) x0 x0 x4 = if x4 < (x0.length : Int) then L k x0 x0 (wrap64 (x4 + 1)) else some true)
    (x0 : List α) (hb : x0.length ≤ 140737488351232) : ∀ (d k i : Nat), i + d = x0.length → d < k → L k x0 x0 (i : Int) = some true
  | 0, k, i, hi, hk => by
    obtain ⟨k, rfl⟩ : ∃ m, k = m + 1 := ⟨k - 1, by omega⟩
    rw [hL _ _ _ (by omega), if_neg (by omega)]
  | d + 1, k, i, hi, hk => by
    obtain ⟨k, rfl⟩ : ∃ m, k = m + 1 := ⟨k - 1, by omega⟩
    rw [hL _ _ _ (by omega), if_pos (by omega), w64 (by omega) (by omega), show ((i : Int) + 1) = ((i + 1 : Nat) : Int) by omega]
    exact eq_loop L hL x0 hb d k (i + 1) (by omega) (by omega)

theorem eq_all {α : Type} (L : Nat → List α → List α → Int → Option Bool) 
    (hL : ∀ k x0 x4, 0 ≤ x4 → L (k + 1) x0 x0 x4 = if x4 < (x0.length : Int) then L k x0 x0 (wrap64 (x4 + 1)) else some true)
    (x0 : List α) (hb : x0.length ≤ 140737488351232) : Ev (fun k => L k x0 x0 0) true :=
  ⟨x0.length + 1, fun k hk => eq_loop L hL x0 hb x0.length k 0 (by omega) (by omega)⟩

/-- A loop that asks a test of each index, and says no at the first that fails. -/
theorem all_loop (P : Nat → Bool) (n : Nat) (hn : n ≤ 140737488351232) (L : Nat → Int → Option Bool) (fin : Option Bool)
    (hL : ∀ k i, i < n → L (k + 1) (i : Int) = if P i = true then L k (wrap64 (i + 1)) else some false) (hend : ∀ k, L (k + 1) (n : Int) = fin) :
    ∀ (d k i : Nat), i + d = n → d < k → L k (i : Int) = if allFrom P i d = true then fin else some false
  | 0, k, i, hi, hk => by
    obtain ⟨k, rfl⟩ : ∃ m, k = m + 1 := ⟨k - 1, by omega⟩
    obtain rfl : i = n := by omega
    rw [hend, allFrom, if_pos rfl]
  | d + 1, k, i, hi, hk => by
    obtain ⟨k, rfl⟩ : ∃ m, k = m + 1 := ⟨k - 1, by omega⟩
    rw [hL _ _ (by omega), w64 (by omega) (by omega), show ((i : Int) + 1) = ((i + 1 : Nat) : Int) by omega, all_loop P n hn L fin hL hend d k (i + 1) (by omega) (by omega), allFrom]
    cases P i <;> simp

theorem all_ev (P : Nat → Bool) (n : Nat) (hn : n ≤ 140737488351232) (L : Nat → Int → Option Bool) (fin : Option Bool)
    (hL : ∀ k i, i < n → L (k + 1) (i : Int) = if P i = true then L k (wrap64 (i + 1)) else some false) (hend : ∀ k, L (k + 1) (n : Int) = fin) :
    ∃ K, ∀ k, K ≤ k → L k 0 = if allFrom P 0 n = true then fin else some false :=
  ⟨n + 1, fun k hk => all_loop P n hn L fin hL hend n k 0 (by omega) (by omega)⟩

end Go.Proofs.Ytkiehapaofkmiaa.Plain

/- Declinations: what the program's and the reference's functions on points come to, as plain functions on lists. -/
namespace Go.Proofs.Ytkiehapaofkmiaa.Dec
open Go.RowKit Go.Proofs.YtkiehapaofkmiaaW.PrintWords Go.Proofs.Ytkiehapaofkmiaa.Plain Go.Proofs.Ytkiehapaofkmiaa.A
set_option linter.unusedVariables false

abbrev DP := S51
abbrev LP := S48
abbrev z : DP := z51
def cv (x : LP) : DP := ⟨x.f0, x.f1⟩

theorem within_eq (x a b : Int) : impl_within.f x a b = some (inR x a b) := by unfold impl_within.f inR; split <;> rfl
theorem in_eq (x a b : Int) : spec_l1In.f x a b = some (inR x a b) := by unfold spec_l1In.f inR; split <;> rfl
theorem isDay_eq (x : Int) : impl_isDay.f x = some (inR x 0 999) := by unfold impl_isDay.f; rw [within_eq]; rfl
theorem isDecl_eq (x : Int) : impl_isDeclination.f x = some (inR x (-900) 900) := by unfold impl_isDeclination.f; rw [within_eq]; rfl
theorem day_eq (x : Int) : spec_l11Day.f x = some (inR x 0 999) := by unfold spec_l11Day.f; rw [in_eq]; rfl
theorem tenths_eq (x : Int) : spec_l11Tenths.f x = some (inR x (-900) 900) := by unfold spec_l11Tenths.f; rw [in_eq]; rfl

def dayAt (l : List DP) (i : Nat) : Int := (l.getD i z).f0
def tenAt (l : List DP) (i : Nat) : Int := (l.getD i z).f1
def okP (l : List DP) (i : Nat) : Bool := inR (dayAt l i) 0 999 && (inR (tenAt l i) (-900) 900 && (decide (i = 0) || decide (dayAt l (i - 1) < dayAt l i)))
def rowB (l : List DP) : Bool := allFrom (okP l) 0 l.length
/-- The list is points. -/
def okL (l : List DP) : Bool := decide (0 < l.length) && (rowB l && decide (l.length ≤ 8))

theorem day_prev (l : List DP) (i : Nat) (h : 0 < i) : (rd_T51 l ((i : Int) - 1)).f0 = dayAt l (i - 1) := by
  show (l.getD ((i : Int) - 1).toNat z).f0 = _
  rw [show ((i : Int) - 1).toNat = i - 1 by omega]
  rfl
theorem ten_prev (l : List DP) (i : Nat) (h : 0 < i) : (rd_T51 l ((i : Int) - 1)).f1 = tenAt l (i - 1) := by
  show (l.getD ((i : Int) - 1).toNat z).f1 = _
  rw [show ((i : Int) - 1).toNat = i - 1 by omega]
  rfl

theorem isRow_ev (l : List DP) (hb : l.length ≤ 140737488351232) : Ev (fun k => impl_isRow.f k l) (rowB l && decide ((l.length : Int) ≤ 8)) := by
  obtain ⟨K, hK⟩ := all_ev (okP l) l.length hb (fun k i => impl_isRow.l0 k l l (l.length : Int) i) (some (decide ((l.length : Int) ≤ 8))) (by
      intro k i hi
      simp only [impl_isRow.l0]
      rw [if_pos (by omega), if_pos (by omega), if_pos (by omega), isDay_eq, isDecl_eq]
      simp only [Option.bind_some]
      have e1 : (rd_T51 l (i : Int)).f0 = dayAt l i := rfl
      have e2 : (rd_T51 l (i : Int)).f1 = tenAt l i := rfl
      rw [e1, e2]
      unfold okP
      cases h1 : inR (dayAt l i) 0 999
      · simp
      · cases h2 : inR (tenAt l i) (-900) 900
        · simp
        · by_cases h3 : i = 0
          · subst h3
            simp
          · rw [if_pos rfl, if_pos rfl, if_pos (by omega), w64 (x := (i : Int) - 1) (by omega) (by omega), if_pos (by omega), if_pos (by omega), day_prev l i (by omega)]
            by_cases h4 : dayAt l (i - 1) < dayAt l i
            · rw [if_neg (by omega)]
              simp [h3, h4]
            · rw [if_pos (by omega)]
              simp [h3, h4]) (by
      intro k
      simp only [impl_isRow.l0]
      rw [if_neg (by omega)])
  refine ⟨K, fun k hk => ?_⟩
  have := hK k hk
  simp only [impl_isRow.f]
  rw [this]
  unfold rowB
  cases allFrom (okP l) 0 l.length <;> simp

theorem arePoints_ev (l : List DP) (hb : l.length ≤ 140737488351232) : Ev (fun k => impl_ArePoints.f k l) (okL l) := by
  unfold impl_ArePoints.f okL
  by_cases h : 0 < l.length
  · refine Ev.pos (by omega) ?_
    rw [decide_eq_true h, Bool.true_and]
    refine Ev.bind (isRow_ev l hb) ?_
    refine Ev.some fun k => ?_
    congr 2
    exact decide_eq_decide.2 (by omega)
  · refine Ev.neg (by omega) ?_
    rw [decide_eq_false h, Bool.false_and]
    exact Ev.now _

theorem good_ev (l : List DP) (hb : l.length ≤ 140737488351232) : Ev (fun k => spec_l11Good.f k l) (okL l) := by
  obtain ⟨K, hK⟩ := all_ev (okP l) l.length hb (fun k i => spec_l11Good.l0 k l i) (some (inR (l.length : Int) 1 8)) (by
      intro k i hi
      simp only [spec_l11Good.l0]
      rw [if_pos (by omega), if_pos (by omega), day_eq, tenths_eq]
      simp only [Option.bind_some]
      have e1 : (rd_T51 l (i : Int)).f0 = dayAt l i := rfl
      have e2 : (rd_T51 l (i : Int)).f1 = tenAt l i := rfl
      rw [e1, e2]
      unfold okP
      cases h1 : inR (dayAt l i) 0 999
      · simp
      · cases h2 : inR (tenAt l i) (-900) 900
        · simp
        · by_cases h3 : i = 0
          · subst h3
            simp
          · rw [if_pos rfl, if_pos rfl, if_pos (by omega), w64 (x := (i : Int) - 1) (by omega) (by omega), if_pos (by omega), if_pos (by omega), day_prev l i (by omega)]
            by_cases h4 : dayAt l (i - 1) < dayAt l i
            · rw [if_neg (by omega)]
              simp [h3, h4]
            · rw [if_pos (by omega)]
              simp [h3, h4]) (by
      intro k
      simp only [spec_l11Good.l0]
      rw [if_neg (by omega), in_eq]
      rfl)
  refine ⟨K, fun k hk => ?_⟩
  have := hK k hk
  simp only [spec_l11Good.f]
  rw [this]
  have e : inR (l.length : Int) 1 8 = (decide (0 < l.length) && decide (l.length ≤ 8)) := by
    rw [Bool.eq_iff_iff, inR_iff]
    simp
    omega
  rw [e]
  unfold okL rowB
  cases allFrom (okP l) 0 l.length <;> simp

/-- What holds of points. -/
structure Pts (l : List DP) : Prop where
  pos : 0 < l.length
  few : l.length ≤ 8
  day : ∀ i, i < l.length → 0 ≤ dayAt l i ∧ dayAt l i ≤ 999
  ten : ∀ i, i < l.length → -900 ≤ tenAt l i ∧ tenAt l i ≤ 900
  up : ∀ i, 0 < i → i < l.length → dayAt l (i - 1) < dayAt l i
theorem okL_iff (l : List DP) : okL l = true ↔ Pts l := by
  unfold okL rowB
  simp only [Bool.and_eq_true, decide_eq_true_eq, allFrom_iff]
  constructor
  · rintro ⟨h1, h2, h3⟩
    refine ⟨h1, h3, fun i hi => ?_, fun i hi => ?_, fun i h0 hi => ?_⟩
    all_goals
      have h := h2 i (by omega) (by omega)
      unfold okP at h
      simp only [Bool.and_eq_true, Bool.or_eq_true, decide_eq_true_eq, inR_iff] at h
      omega
  · intro h
    refine ⟨h.pos, fun i _ hi => ?_, h.few⟩
    have h1 := h.day i (by omega)
    have h2 := h.ten i (by omega)
    unfold okP
    simp only [Bool.and_eq_true, Bool.or_eq_true, decide_eq_true_eq, inR_iff]
    refine ⟨h1, h2, ?_⟩
    by_cases e : i = 0
    · exact .inl e
    · exact .inr (h.up i (by omega) (by omega))
theorem Pts.lt {l : List DP} (h : Pts l) : ∀ (d i j : Nat), j = i + d + 1 → j < l.length → dayAt l i < dayAt l j
  | 0, i, j, e, hj => by
    have := h.up j (by omega) hj
    rwa [show j - 1 = i by omega] at this
  | d + 1, i, j, e, hj => by
    have h1 := h.up j (by omega) hj
    have h2 := h.lt d i (j - 1) (by omega) (by omega)
    omega

/-! ### Rounding -/
def rnd (a b : Int) : Int := if a < 0 then -((2 * (-a) + b) / (2 * b)) else (2 * a + b) / (2 * b)
theorem quot_bound {a b : Int} (ha : 0 ≤ a) (hb : 1 ≤ b) : 0 ≤ (2 * a + b) / (2 * b) ∧ (2 * a + b) / (2 * b) ≤ 2 * a + b :=
  ⟨Int.ediv_nonneg (by omega) (by omega), Int.ediv_le_self _ (by omega)⟩
theorem rounded_pos (k : Nat) (a b : Int) (h0 : 0 ≤ a) (h1 : a ≤ 1000000000000) (h2 : 1 ≤ b) (h3 : b ≤ 1000000000000) : impl_rounded.f (k + 1) a b = some ((2 * a + b) / (2 * b)) := by
  have hq := quot_bound h0 h2
  simp only [impl_rounded.f]
  rw [if_neg (by omega), w64 (x := 2 * b) (by omega) (by omega), if_neg (by omega), w64 (x := 2 * a) (by omega) (by omega), w64 (x := 2 * a + b) (by omega) (by omega), Int.tdiv_eq_ediv_of_nonneg (by omega), w64 (by omega) (by omega)]
theorem rounded_ev (a b : Int) (h0 : -1000000000000 ≤ a) (h1 : a ≤ 1000000000000) (h2 : 1 ≤ b) (h3 : b ≤ 1000000000000) : Ev (fun k => impl_rounded.f k a b) (rnd a b) := by
  refine ⟨2, fun k hk => ?_⟩
  obtain ⟨k, rfl⟩ : ∃ m, k = m + 1 + 1 := ⟨k - 2, by omega⟩
  show impl_rounded.f (k + 1 + 1) a b = _
  unfold rnd
  by_cases h : a < 0
  · have hq := quot_bound (a := -a) (by omega) h2
    rw [if_pos h]
    rw [impl_rounded.f]
    rw [if_pos h, w64 (x := -a) (by omega) (by omega), rounded_pos k (-a) b (by omega) (by omega) h2 h3]
    simp only [Option.bind_some]
    rw [w64 (by omega) (by omega)]
  · rw [if_neg h, rounded_pos (k + 1) a b (by omega) h1 h2 h3]
theorem round_pos (k : Nat) (a b : Int) (h0 : 0 ≤ a) (h1 : a ≤ 1000000000000) (h2 : 1 ≤ b) (h3 : b ≤ 1000000000000) : spec_l11Round.f (k + 1) a b = some ((2 * a + b) / (2 * b)) := by
  have hq := quot_bound h0 h2
  simp only [spec_l11Round.f]
  rw [if_neg (by omega), w64 (x := 2 * b) (by omega) (by omega), if_neg (by omega), w64 (x := 2 * a) (by omega) (by omega), w64 (x := 2 * a + b) (by omega) (by omega), Int.tdiv_eq_ediv_of_nonneg (by omega), w64 (by omega) (by omega)]
theorem round_ev (a b : Int) (h0 : -1000000000000 ≤ a) (h1 : a ≤ 1000000000000) (h2 : 1 ≤ b) (h3 : b ≤ 1000000000000) : Ev (fun k => spec_l11Round.f k a b) (rnd a b) := by
  refine ⟨2, fun k hk => ?_⟩
  obtain ⟨k, rfl⟩ : ∃ m, k = m + 1 + 1 := ⟨k - 2, by omega⟩
  show spec_l11Round.f (k + 1 + 1) a b = _
  unfold rnd
  by_cases h : a < 0
  · have hq := quot_bound (a := -a) (by omega) h2
    rw [if_pos h]
    rw [spec_l11Round.f]
    rw [if_pos h, w64 (x := -a) (by omega) (by omega), round_pos k (-a) b (by omega) (by omega) h2 h3]
    simp only [Option.bind_some]
    rw [w64 (by omega) (by omega)]
  · rw [if_neg h, round_pos (k + 1) a b (by omega) h1 h2 h3]
theorem quot_at {t D : Int} (hD : 1 ≤ D) : (2 * (t * D) + D) / (2 * D) = t := by
  rw [show 2 * (t * D) + D = D + (2 * D) * t by rw [Int.mul_assoc, Int.mul_comm D t, Int.add_comm], Int.add_mul_ediv_left _ _ (by omega), Int.ediv_eq_zero_of_lt (by omega) (by omega), Int.zero_add]
theorem rnd_at {t D : Int} (hD : 1 ≤ D) : rnd (t * D) D = t := by
  unfold rnd
  split
  · rw [show -(t * D) = (-t) * D by rw [Int.neg_mul], quot_at hD]
    omega
  · exact quot_at hD
theorem rnd_bound {a D M : Int} (hD : 1 ≤ D) (h1 : -(M * D) ≤ a) (h2 : a ≤ M * D) : -M ≤ rnd a D ∧ rnd a D ≤ M := by
  have key : ∀ x, x ≤ M * D → (2 * x + D) / (2 * D) ≤ M := by
    intro x hx
    have : (2 * x + D) / (2 * D) ≤ (2 * (M * D) + D) / (2 * D) := Int.ediv_le_ediv (by omega) (by omega)
    rwa [quot_at hD] at this
  unfold rnd
  split
  · have h3 := key (-a) (by omega)
    have h4 : 0 ≤ (2 * -a + D) / (2 * D) := Int.ediv_nonneg (by omega) (by omega)
    omega
  · have h3 := key a h2
    have h4 : 0 ≤ (2 * a + D) / (2 * D) := Int.ediv_nonneg (by omega) (by omega)
    omega

/-! ### The declination of a day -/
def interpN (l : List DP) (day : Int) (i : Nat) : Int := tenAt l (i - 1) * (dayAt l i - day) + tenAt l i * (day - dayAt l (i - 1))
def interp (l : List DP) (day : Int) (i : Nat) : Int := rnd (interpN l day i) (dayAt l i - dayAt l (i - 1))
def scan (l : List DP) (day : Int) : Nat → Nat → Int
  | _, 0 => tenAt l (l.length - 1)
  | i, d + 1 => if day ≤ dayAt l i then interp l day i else scan l day (i + 1) d
def decl (l : List DP) (day : Int) : Int := if day ≤ dayAt l 0 then tenAt l 0 else scan l day 1 (l.length - 1)

theorem interpN_bound {l : List DP} (h : Pts l) {day : Int} (hd : 0 ≤ day ∧ day ≤ 999) {i : Nat} (h0 : 0 < i) (hi : i < l.length) :
    (-899100 ≤ tenAt l (i - 1) * (dayAt l i - day) ∧ tenAt l (i - 1) * (dayAt l i - day) ≤ 899100) ∧ (-899100 ≤ tenAt l i * (day - dayAt l (i - 1)) ∧ tenAt l i * (day - dayAt l (i - 1)) ≤ 899100) := by
  have a1 := h.day i hi
  have a2 := h.day (i - 1) (by omega)
  have b1 := h.ten i hi
  have b2 := h.ten (i - 1) (by omega)
  have m1 := mul_bound (x := tenAt l (i - 1)) (y := dayAt l i - day) 900 999 (by omega) (by omega) (by omega) (by omega)
  have m2 := mul_bound (x := tenAt l i) (y := day - dayAt l (i - 1)) 900 999 (by omega) (by omega) (by omega) (by omega)
  omega

theorem decl_ev {l : List DP} (h : Pts l) {day : Int} (hd : 0 ≤ day ∧ day ≤ 999) : Ev (fun k => impl_declination.f k l day) (decl l day) := by
  have hp := h.pos
  have hf := h.few
  unfold impl_declination.f decl
  refine Ev.pos (by omega) ?_
  have e0 : rd_T51 l 0 = l.getD 0 z := rfl
  refine Ev.ite (fun _ => Ev.now _) fun _ => ?_
  have key : ∀ (d i : Nat), 0 < i → i + d = l.length → Ev (fun k => impl_declination.l0 k l day (i : Int)) (scan l day i d) := by
    intro d
    induction d with
    | zero =>
      intro i h0 hi
      refine ⟨1, fun k hk => ?_⟩
      obtain ⟨k, rfl⟩ : ∃ m, k = m + 1 := ⟨k - 1, by omega⟩
      simp only [impl_declination.l0]
      rw [if_neg (by omega), w64 (x := (l.length : Int) - 1) (by omega) (by omega), if_pos (by omega), if_pos (by omega), ten_prev l l.length hp, scan]
    | succ d ih =>
      intro i h0 hi
      have hb := interpN_bound h hd h0 (by omega)
      have hu := h.up i h0 (by omega)
      have a1 := h.day i (by omega)
      have a2 := h.day (i - 1) (by omega)
      obtain ⟨K1, h1⟩ := ih (i + 1) (by omega) (by omega)
      obtain ⟨K2, h2⟩ := rounded_ev (interpN l day i) (dayAt l i - dayAt l (i - 1)) (by unfold interpN; omega) (by unfold interpN; omega) (by omega) (by omega)
      refine ⟨max K1 K2 + 1, fun k hk => ?_⟩
      obtain ⟨k, rfl⟩ : ∃ m, k = m + 1 := ⟨k - 1, by omega⟩
      simp only [impl_declination.l0]
      have e1 : (rd_T51 l (i : Int)).f0 = dayAt l i := rfl
      have e2 : (rd_T51 l (i : Int)).f1 = tenAt l i := rfl
      rw [if_pos (by omega), w64 (x := (i : Int) - 1) (by omega) (by omega), if_pos (by omega), if_pos (by omega), if_pos (by omega), day_prev l i h0, ten_prev l i h0, e1, e2, scan]
      by_cases hc : day ≤ dayAt l i
      · rw [if_pos hc, if_pos hc, w64 (x := dayAt l i - day) (by omega) (by omega), w64 (x := day - dayAt l (i - 1)) (by omega) (by omega), w64 (x := tenAt l (i - 1) * (dayAt l i - day)) (by omega) (by omega),
          w64 (x := tenAt l i * (day - dayAt l (i - 1))) (by omega) (by omega), w64 (x := _ + _) (by omega) (by omega), w64 (x := dayAt l i - dayAt l (i - 1)) (by omega) (by omega)]
        have h2' := h2 k (by omega)
        dsimp only at h2'
        unfold interpN at h2'
        rw [h2']
        rfl
      · rw [if_neg hc, if_neg hc, w64 (x := (i : Int) + 1) (by omega) (by omega), show ((i : Int) + 1) = ((i + 1 : Nat) : Int) by omega]
        exact h1 k (by omega)
  exact key (l.length - 1) 1 (by omega) (by omega)

theorem interp_at {l : List DP} (h : Pts l) {i : Nat} (h0 : 0 < i) (hi : i < l.length) : interp l (dayAt l i) i = tenAt l i := by
  have hu := h.up i h0 hi
  unfold interp interpN
  rw [Int.sub_self, Int.mul_zero, Int.zero_add]
  exact rnd_at (by omega)

theorem scan_last {l : List DP} (h : Pts l) {day : Int} (hl : dayAt l (l.length - 1) ≤ day) : ∀ (d i : Nat), 0 < i → i + d = l.length → scan l day i d = tenAt l (l.length - 1)
  | 0, i, h0, hi => rfl
  | d + 1, i, h0, hi => by
    rw [scan]
    by_cases hc : day ≤ dayAt l i
    · rw [if_pos hc]
      have e : i = l.length - 1 := by
        by_cases e : i = l.length - 1
        · exact e
        · have := h.lt (l.length - 2 - i) i (l.length - 1) (by omega) (by omega)
          omega
      subst e
      have e2 : day = dayAt l (l.length - 1) := by omega
      rw [e2]
      exact interp_at h h0 (by omega)
    · rw [if_neg hc]
      exact scan_last h hl d (i + 1) (by omega) (by omega)

theorem on_ev {l : List DP} (h : Pts l) {day : Int} (hd : 0 ≤ day ∧ day ≤ 999) : Ev (fun k => spec_l11On.f k l day) (decl l day) := by
  have hp := h.pos
  have hf := h.few
  unfold spec_l11On.f decl
  refine Ev.pos (by omega) ?_
  have e0 : rd_T51 l 0 = l.getD 0 z := rfl
  refine Ev.ite (fun _ => Ev.now _) fun hn => ?_
  rw [w64 (x := (l.length : Int) - 1) (by omega) (by omega)]
  refine Ev.pos (by omega) ?_
  refine Ev.pos (by omega) ?_
  rw [day_prev l l.length hp, ten_prev l l.length hp]
  by_cases hl : day ≥ dayAt l (l.length - 1)
  · refine Ev.pos hl ?_
    rw [scan_last h hl _ 1 (by omega) (by omega)]
    exact Ev.now _
  · refine Ev.neg hl ?_
    have key : ∀ (d i : Nat), 0 < i → i + d = l.length → (i < l.length) → Ev (fun k => spec_l11On.l0 k l day (i : Int)) (scan l day i d) := by
      intro d
      induction d with
      | zero => intro i h0 hi hil; omega
      | succ d ih =>
        intro i h0 hi hil
        have hb := interpN_bound h hd h0 (by omega)
        have hu := h.up i h0 (by omega)
        have a1 := h.day i (by omega)
        have a2 := h.day (i - 1) (by omega)
        obtain ⟨K2, h2⟩ := round_ev (interpN l day i) (dayAt l i - dayAt l (i - 1)) (by unfold interpN; omega) (by unfold interpN; omega) (by omega) (by omega)
        have e1 : (rd_T51 l (i : Int)).f0 = dayAt l i := rfl
        have e2 : (rd_T51 l (i : Int)).f1 = tenAt l i := rfl
        by_cases hc : day ≤ dayAt l i
        · refine ⟨K2 + 1, fun k hk => ?_⟩
          obtain ⟨k, rfl⟩ : ∃ m, k = m + 1 := ⟨k - 1, by omega⟩
          simp only [spec_l11On.l0]
          rw [if_pos (by omega), if_pos (by omega), e1, e2, if_neg (by omega), w64 (x := (i : Int) - 1) (by omega) (by omega), if_pos (by omega), if_pos (by omega), day_prev l i h0, ten_prev l i h0, scan, if_pos hc]
          rw [w64 (x := dayAt l i - day) (by omega) (by omega), w64 (x := day - dayAt l (i - 1)) (by omega) (by omega), w64 (x := tenAt l (i - 1) * (dayAt l i - day)) (by omega) (by omega),
            w64 (x := tenAt l i * (day - dayAt l (i - 1))) (by omega) (by omega), w64 (x := _ + _) (by omega) (by omega), w64 (x := dayAt l i - dayAt l (i - 1)) (by omega) (by omega)]
          have h2' := h2 k (by omega)
          dsimp only at h2'
          unfold interpN at h2'
          rw [h2']
          rfl
        · have hil' : i + 1 < l.length := by
            by_cases e : i + 1 < l.length
            · exact e
            · have : i = l.length - 1 := by omega
              subst this
              omega
          obtain ⟨K1, h1⟩ := ih (i + 1) (by omega) (by omega) hil'
          refine ⟨K1 + 1, fun k hk => ?_⟩
          obtain ⟨k, rfl⟩ : ∃ m, k = m + 1 := ⟨k - 1, by omega⟩
          simp only [spec_l11On.l0]
          rw [if_pos (by omega), if_pos (by omega), e1, if_pos (by omega), scan, if_neg hc, w64 (x := (i : Int) + 1) (by omega) (by omega), show ((i : Int) + 1) = ((i + 1 : Nat) : Int) by omega]
          exact h1 k (by omega)
    by_cases e : l.length = 1
    · have hn' : ¬ day ≤ dayAt l 0 := hn
      have hl' : ¬ day ≥ dayAt l 0 := by
        rw [e] at hl
        exact hl
      omega
    · exact key (l.length - 1) 1 (by omega) (by omega) (by omega)

theorem interp_bound {l : List DP} (h : Pts l) {day : Int} {i : Nat} (h0 : 0 < i) (hi : i < l.length) (h1 : dayAt l (i - 1) ≤ day) (h2 : day ≤ dayAt l i) : -900 ≤ interp l day i ∧ interp l day i ≤ 900 := by
  have hu := h.up i h0 hi
  have b1 := h.ten i hi
  have b2 := h.ten (i - 1) (by omega)
  unfold interp
  refine rnd_bound (by omega) ?_ ?_
  all_goals
    unfold interpN
    have p1 : 0 ≤ (900 - tenAt l (i - 1)) * (dayAt l i - day) := Int.mul_nonneg (by omega) (by omega)
    have p2 : 0 ≤ (900 + tenAt l (i - 1)) * (dayAt l i - day) := Int.mul_nonneg (by omega) (by omega)
    have p3 : 0 ≤ (900 - tenAt l i) * (day - dayAt l (i - 1)) := Int.mul_nonneg (by omega) (by omega)
    have p4 : 0 ≤ (900 + tenAt l i) * (day - dayAt l (i - 1)) := Int.mul_nonneg (by omega) (by omega)
    rw [Int.sub_mul] at p1 p3
    rw [Int.add_mul] at p2 p4
    omega

theorem decl_bound {l : List DP} (h : Pts l) (day : Int) : -900 ≤ decl l day ∧ decl l day ≤ 900 := by
  have hp := h.pos
  unfold decl
  split
  · exact h.ten 0 hp
  · rename_i hn
    have key : ∀ (d i : Nat), 0 < i → i + d = l.length → dayAt l (i - 1) ≤ day → -900 ≤ scan l day i d ∧ scan l day i d ≤ 900 := by
      intro d
      induction d with
      | zero => intro i _ _ _; exact h.ten _ (by omega)
      | succ d ih =>
        intro i h0 hi hlo
        rw [scan]
        split
        · rename_i hc
          exact interp_bound h h0 (by omega) hlo hc
        · rename_i hc
          exact ih (i + 1) (by omega) (by omega) (by rw [Nat.add_sub_cancel]; omega)
    exact key _ 1 (by omega) (by omega) (by show dayAt l 0 ≤ day; omega)
end Go.Proofs.Ytkiehapaofkmiaa.Dec

/- Points: the list that a law makes of its argument, and that it compares with itself. -/
namespace Go.Proofs.Ytkiehapaofkmiaa.Dec
open Go.RowKit Go.Proofs.YtkiehapaofkmiaaW.PrintWords Go.Proofs.Ytkiehapaofkmiaa.Plain Go.Proofs.Ytkiehapaofkmiaa.A
set_option linter.unusedVariables false
theorem to_ev (l : List LP) (hb : l.length ≤ 140737488351232 / 16) : Ev (fun k => laws_toDecPointS.f k l) (l.map cv) := by
  unfold laws_toDecPointS.f
  refine Ev.pos (by omega) ?_
  refine Ev.pos (by omega) ?_
  exact copy_all laws_toDecPointS.l0 cv z48 _ (fun k x0 x3 x4 => by simp only [laws_toDecPointS.l0, laws_toDecPoint.f, Option.bind_some]; rfl) l (by omega)
theorem same_ev (l : List DP) (hb : l.length ≤ 140737488351232) : Ev (fun k => laws_eqDecPointS.f k l l) true := by
  unfold laws_eqDecPointS.f
  refine Ev.pos rfl ?_
  exact eq_all laws_eqDecPointS.l0 (fun k x0 x4 h0 => by
    simp only [laws_eqDecPointS.l0, laws_eqDecPoint.f, if_true, Option.bind_some]
    by_cases h : x4 < (x0.length : Int)
    · rw [if_pos h, if_pos h0, if_pos h, if_pos h]
    · rw [if_neg h, if_neg h]) l hb
theorem sz_ev (l : List LP) (hb : l.length ≤ 140737488351232) : laws_szDecPointS.f l 1048576 = some (if 1048576 - (l.length : Int) < 0 then -1 else 1048576 - (l.length : Int)) := by
  unfold laws_szDecPointS.f
  rw [w64 (by omega) (by omega)]
  split <;> rfl
end Go.Proofs.Ytkiehapaofkmiaa.Dec

/- What the functions on declinations answer, the program's and the reference's: the same. -/
namespace Go.Proofs.Ytkiehapaofkmiaa.Dec
open Go.RowKit Go.Proofs.YtkiehapaofkmiaaW.PrintWords Go.Proofs.Ytkiehapaofkmiaa.Plain Go.Proofs.Ytkiehapaofkmiaa.A
set_option linter.unusedVariables false
set_option linter.unusedSimpArgs false

theorem isFine_eq (x : Int) : impl_isFine.f x = some (inR x 0 3599) := by unfold impl_isFine.f; rw [within_eq]; rfl
theorem fine_eq (x : Int) : spec_l11Fine.f x = some (inR x 0 3599) := by unfold spec_l11Fine.f; rw [in_eq]; rfl
theorem modulo_eq (x : Int) (h1 : -100000 ≤ x) (h2 : x ≤ 100000) : impl_modulo.f x 3600 = some (x % 3600) := by
  unfold impl_modulo.f
  have e : (0 ≤ x ∧ x.tmod 3600 = x % 3600) ∨ (x < 0 ∧ x.tmod 3600 = -((-x) % 3600)) := by
    by_cases h : 0 ≤ x
    · exact .inl ⟨h, Int.tmod_eq_emod_of_nonneg h⟩
    · refine .inr ⟨by omega, ?_⟩
      rw [← Int.tmod_eq_emod_of_nonneg (show 0 ≤ -x by omega), Int.neg_tmod, Int.neg_neg]
  rw [if_neg (by omega), w64 (by omega) (by omega)]
  congr 1
  rw [Int.tmod_eq_emod_of_nonneg (by omega)]
  omega

def onB (l : List DP) (day : Int) : Bool := okL l && inR day 0 999
theorem onB_iff {l : List DP} {day : Int} : onB l day = true ↔ Pts l ∧ 0 ≤ day ∧ day ≤ 999 := by
  unfold onB
  rw [Bool.and_eq_true, okL_iff, inR_iff]

theorem implDeclinationOn_ev (l : List DP) (hb : l.length ≤ 140737488351232) (day : Int) : Ev (fun k => impl_DeclinationOn.f k l day) (if onB l day = true then (decl l day, true) else (0, false)) := by
  obtain ⟨K1, h1⟩ := arePoints_ev l hb
  by_cases hc : onB l day = true
  · rw [if_pos hc]
    obtain ⟨hp, hd⟩ := onB_iff.1 hc
    obtain ⟨K2, h2⟩ := decl_ev hp hd
    have e1 := (okL_iff l).2 hp
    have e2 : inR day 0 999 = true := inR_iff.2 hd
    refine ⟨max K1 K2, fun k hk => ?_⟩
    simp [impl_DeclinationOn.f, h1 k (by omega), h2 k (by omega), isDay_eq, e1, e2]
  · rw [if_neg hc]
    refine ⟨K1, fun k hk => ?_⟩
    unfold onB at hc
    cases e1 : okL l <;> cases e2 : inR day 0 999 <;> simp [e1, e2] at hc <;> simp [impl_DeclinationOn.f, h1 k (by omega), isDay_eq, e1, e2]
theorem specDeclinationOn_ev (l : List DP) (hb : l.length ≤ 140737488351232) (day : Int) : Ev (fun k => spec_DeclinationOn.f k l day) (if onB l day = true then (decl l day, true) else (0, false)) := by
  obtain ⟨K1, h1⟩ := good_ev l hb
  by_cases hc : onB l day = true
  · rw [if_pos hc]
    obtain ⟨hp, hd⟩ := onB_iff.1 hc
    obtain ⟨K2, h2⟩ := on_ev hp hd
    have e1 := (okL_iff l).2 hp
    have e2 : inR day 0 999 = true := inR_iff.2 hd
    refine ⟨max K1 K2, fun k hk => ?_⟩
    simp [spec_DeclinationOn.f, h1 k (by omega), h2 k (by omega), day_eq, e1, e2]
  · rw [if_neg hc]
    refine ⟨K1, fun k hk => ?_⟩
    unfold onB at hc
    cases e1 : okL l <;> cases e2 : inR day 0 999 <;> simp [e1, e2] at hc <;> simp [spec_DeclinationOn.f, h1 k (by omega), day_eq, e1, e2]

def fineB (l : List DP) (day x : Int) : Bool := onB l day && inR x 0 3599
theorem implTrueBearing_ev (l : List DP) (hb : l.length ≤ 140737488351232) (day x : Int) : Ev (fun k => impl_TrueBearing.f k l day x) (if fineB l day x = true then ((x + decl l day) % 3600, true) else (0, false)) := by
  obtain ⟨K1, h1⟩ := arePoints_ev l hb
  by_cases hc : fineB l day x = true
  · rw [if_pos hc]
    unfold fineB at hc
    rw [Bool.and_eq_true, inR_iff] at hc
    obtain ⟨hp, hd⟩ := onB_iff.1 hc.1
    obtain ⟨K2, h2⟩ := decl_ev hp hd
    have hx := hc.2
    have hy := decl_bound hp day
    have e1 := (okL_iff l).2 hp
    have e2 : inR day 0 999 = true := inR_iff.2 hd
    have e3 : inR x 0 3599 = true := inR_iff.2 hx
    refine ⟨max K1 K2 + 1, fun k hk => ?_⟩
    obtain ⟨k, rfl⟩ : ∃ m, k = m + 1 := ⟨k - 1, by omega⟩
    have e4 : wrap64 (x + decl l day) = x + decl l day := w64 (by omega) (by omega)
    simp [impl_TrueBearing.f, impl_TrueBearing.j0, h1 (k + 1) (by omega), h2 k (by omega), isDay_eq, isFine_eq, e1, e2, e3, e4, modulo_eq (x + decl l day) (by omega) (by omega)]
  · rw [if_neg hc]
    refine ⟨K1 + 1, fun k hk => ?_⟩
    obtain ⟨k, rfl⟩ : ∃ m, k = m + 1 := ⟨k - 1, by omega⟩
    unfold fineB onB at hc
    cases e1 : okL l <;> cases e2 : inR day 0 999 <;> cases e3 : inR x 0 3599 <;> simp [e1, e2, e3] at hc <;> simp [impl_TrueBearing.f, impl_TrueBearing.j0, h1 (k + 1) (by omega), isDay_eq, isFine_eq, e1, e2, e3]
theorem specTrueBearing_ev (l : List DP) (hb : l.length ≤ 140737488351232) (day x : Int) : Ev (fun k => spec_TrueBearing.f k l day x) (if fineB l day x = true then ((x + decl l day) % 3600, true) else (0, false)) := by
  obtain ⟨K1, h1⟩ := good_ev l hb
  by_cases hc : fineB l day x = true
  · rw [if_pos hc]
    unfold fineB at hc
    rw [Bool.and_eq_true, inR_iff] at hc
    obtain ⟨hp, hd⟩ := onB_iff.1 hc.1
    obtain ⟨K2, h2⟩ := on_ev hp hd
    have hx := hc.2
    have hy := decl_bound hp day
    have e1 := (okL_iff l).2 hp
    have e2 : inR day 0 999 = true := inR_iff.2 hd
    have e3 : inR x 0 3599 = true := inR_iff.2 hx
    refine ⟨max K1 K2, fun k hk => ?_⟩
    have e4 : wrap64 (x + decl l day) = x + decl l day := w64 (by omega) (by omega)
    have e5 : wrap64 (x + decl l day + 3600) = x + decl l day + 3600 := w64 (by omega) (by omega)
    have e6 : Int.tmod (x + decl l day + 3600) 3600 = (x + decl l day) % 3600 := by rw [Int.tmod_eq_emod_of_nonneg (by omega)]; omega
    simp [spec_TrueBearing.f, h1 k (by omega), h2 k (by omega), day_eq, fine_eq, e1, e2, e3, e4, e5, e6]
  · rw [if_neg hc]
    refine ⟨K1, fun k hk => ?_⟩
    unfold fineB onB at hc
    cases e1 : okL l <;> cases e2 : inR day 0 999 <;> cases e3 : inR x 0 3599 <;> simp [e1, e2, e3] at hc <;> simp [spec_TrueBearing.f, h1 k (by omega), day_eq, fine_eq, e1, e2, e3]
theorem implMagneticBearing_ev (l : List DP) (hb : l.length ≤ 140737488351232) (day x : Int) : Ev (fun k => impl_MagneticBearing.f k l day x) (if fineB l day x = true then ((x - decl l day) % 3600, true) else (0, false)) := by
  obtain ⟨K1, h1⟩ := arePoints_ev l hb
  by_cases hc : fineB l day x = true
  · rw [if_pos hc]
    unfold fineB at hc
    rw [Bool.and_eq_true, inR_iff] at hc
    obtain ⟨hp, hd⟩ := onB_iff.1 hc.1
    obtain ⟨K2, h2⟩ := decl_ev hp hd
    have hx := hc.2
    have hy := decl_bound hp day
    have e1 := (okL_iff l).2 hp
    have e2 : inR day 0 999 = true := inR_iff.2 hd
    have e3 : inR x 0 3599 = true := inR_iff.2 hx
    refine ⟨max K1 K2 + 1, fun k hk => ?_⟩
    obtain ⟨k, rfl⟩ : ∃ m, k = m + 1 := ⟨k - 1, by omega⟩
    have e4 : wrap64 (x - decl l day) = x - decl l day := w64 (by omega) (by omega)
    simp [impl_MagneticBearing.f, impl_MagneticBearing.j0, h1 (k + 1) (by omega), h2 k (by omega), isDay_eq, isFine_eq, e1, e2, e3, e4, modulo_eq (x - decl l day) (by omega) (by omega)]
  · rw [if_neg hc]
    refine ⟨K1 + 1, fun k hk => ?_⟩
    obtain ⟨k, rfl⟩ : ∃ m, k = m + 1 := ⟨k - 1, by omega⟩
    unfold fineB onB at hc
    cases e1 : okL l <;> cases e2 : inR day 0 999 <;> cases e3 : inR x 0 3599 <;> simp [e1, e2, e3] at hc <;> simp [impl_MagneticBearing.f, impl_MagneticBearing.j0, h1 (k + 1) (by omega), isDay_eq, isFine_eq, e1, e2, e3]
def twoB (l : List DP) (a b : Int) : Bool := onB l a && inR b 0 999
theorem implChangeBetween_ev (l : List DP) (hb : l.length ≤ 140737488351232) (a b : Int) : Ev (fun k => impl_ChangeBetween.f k l a b) (if twoB l a b = true then (decl l b - decl l a, true) else (0, false)) := by
  obtain ⟨K1, h1⟩ := arePoints_ev l hb
  by_cases hc : twoB l a b = true
  · rw [if_pos hc]
    unfold twoB at hc
    rw [Bool.and_eq_true, inR_iff] at hc
    obtain ⟨hp, hd⟩ := onB_iff.1 hc.1
    obtain ⟨K2, h2⟩ := decl_ev hp hd
    obtain ⟨K3, h3⟩ := decl_ev hp hc.2
    have hy := decl_bound hp a
    have hz := decl_bound hp b
    have e1 := (okL_iff l).2 hp
    have e2 : inR a 0 999 = true := inR_iff.2 hd
    have e3 : inR b 0 999 = true := inR_iff.2 hc.2
    refine ⟨max (max K1 K2) K3 + 1, fun k hk => ?_⟩
    obtain ⟨k, rfl⟩ : ∃ m, k = m + 1 := ⟨k - 1, by omega⟩
    have e4 : wrap64 (decl l b - decl l a) = decl l b - decl l a := w64 (by omega) (by omega)
    simp [impl_ChangeBetween.f, impl_ChangeBetween.j0, h1 (k + 1) (by omega), h2 k (by omega), h3 k (by omega), isDay_eq, e1, e2, e3, e4]
  · rw [if_neg hc]
    refine ⟨K1 + 1, fun k hk => ?_⟩
    obtain ⟨k, rfl⟩ : ∃ m, k = m + 1 := ⟨k - 1, by omega⟩
    unfold twoB onB at hc
    cases e1 : okL l <;> cases e2 : inR a 0 999 <;> cases e3 : inR b 0 999 <;> simp [e1, e2, e3] at hc <;> simp [impl_ChangeBetween.f, impl_ChangeBetween.j0, h1 (k + 1) (by omega), isDay_eq, e1, e2, e3]
theorem specChangeBetween_ev (l : List DP) (hb : l.length ≤ 140737488351232) (a b : Int) : Ev (fun k => spec_ChangeBetween.f k l a b) (if twoB l a b = true then (decl l b - decl l a, true) else (0, false)) := by
  obtain ⟨K1, h1⟩ := good_ev l hb
  by_cases hc : twoB l a b = true
  · rw [if_pos hc]
    unfold twoB at hc
    rw [Bool.and_eq_true, inR_iff] at hc
    obtain ⟨hp, hd⟩ := onB_iff.1 hc.1
    obtain ⟨K2, h2⟩ := on_ev hp hd
    obtain ⟨K3, h3⟩ := on_ev hp hc.2
    have hy := decl_bound hp a
    have hz := decl_bound hp b
    have e1 := (okL_iff l).2 hp
    have e2 : inR a 0 999 = true := inR_iff.2 hd
    have e3 : inR b 0 999 = true := inR_iff.2 hc.2
    refine ⟨max (max K1 K2) K3 + 1, fun k hk => ?_⟩
    obtain ⟨k, rfl⟩ : ∃ m, k = m + 1 := ⟨k - 1, by omega⟩
    have e4 : wrap64 (decl l b - decl l a) = decl l b - decl l a := w64 (by omega) (by omega)
    simp [spec_ChangeBetween.f, spec_ChangeBetween.j0, h1 (k + 1) (by omega), h2 k (by omega), h3 k (by omega), day_eq, e1, e2, e3, e4]
  · rw [if_neg hc]
    refine ⟨K1 + 1, fun k hk => ?_⟩
    obtain ⟨k, rfl⟩ : ∃ m, k = m + 1 := ⟨k - 1, by omega⟩
    unfold twoB onB at hc
    cases e1 : okL l <;> cases e2 : inR a 0 999 <;> cases e3 : inR b 0 999 <;> simp [e1, e2, e3] at hc <;> simp [spec_ChangeBetween.f, spec_ChangeBetween.j0, h1 (k + 1) (by omega), day_eq, e1, e2, e3]

/-! ### The days with a declination -/
/-- The first and the last day, from day i on with d days left, given what was found before. -/
def daysFrom (l : List DP) (t : Int) : Nat → Nat → Int → Int → Int × Int
  | _, 0, a, b => (a, b)
  | i, d + 1, a, b => if decl l (i : Int) = t then (if a < 0 then daysFrom l t (i + 1) d i i else daysFrom l t (i + 1) d a i) else daysFrom l t (i + 1) d a b
def fin (p : Int × Int) : Int × Int × Bool := if p.1 < 0 then (0, 0, false) else (p.1, p.2, true)
def daysWith (l : List DP) (t : Int) : Int × Int × Bool := fin (daysFrom l t 0 1000 (-1) (-1))
def withB (l : List DP) (t : Int) : Bool := okL l && inR t (-900) 900

theorem daysImpl (l : List DP) (hp : Pts l) (t : Int) : ∀ (d i : Nat) (a b : Int), i + d = 1000 → Ev (fun k => impl_DaysWith.l0 k l t a b (i : Int)) (fin (daysFrom l t i d a b)) := by
  intro d
  induction d with
  | zero =>
    intro i a b hi
    refine Ev.step (f := fun _ => if a < 0 then some (0, 0, false) else some (a, b, true)) (fun k => by simp only [impl_DaysWith.l0]; rw [if_neg (by omega)]) ?_
    exact Ev.ite (fun _ => Ev.now _) (fun _ => Ev.now _)
  | succ d ih =>
    intro i a b hi
    obtain ⟨K, hK⟩ := decl_ev hp (day := (i : Int)) (by omega)
    dsimp only at hK
    have e : wrap64 ((i : Int) + 1) = ((i + 1 : Nat) : Int) := by rw [w64 (by omega) (by omega)]; omega
    rw [daysFrom]
    by_cases h1 : decl l (i : Int) = t
    · by_cases h2 : a < 0
      · obtain ⟨K', h'⟩ := ih (i + 1) i i (by omega)
        refine ⟨max K K' + 1, fun k hk => ?_⟩
        obtain ⟨k, rfl⟩ : ∃ m, k = m + 1 := ⟨k - 1, by omega⟩
        simp only [impl_DaysWith.l0]
        rw [if_pos (by omega), hK k (by omega), Option.bind_some, if_pos h1, if_pos h2, e, if_pos h1, if_pos h2]
        exact h' k (by omega)
      · obtain ⟨K', h'⟩ := ih (i + 1) a i (by omega)
        refine ⟨max K K' + 1, fun k hk => ?_⟩
        obtain ⟨k, rfl⟩ : ∃ m, k = m + 1 := ⟨k - 1, by omega⟩
        simp only [impl_DaysWith.l0]
        rw [if_pos (by omega), hK k (by omega), Option.bind_some, if_pos h1, if_neg h2, e, if_pos h1, if_neg h2]
        exact h' k (by omega)
    · obtain ⟨K', h'⟩ := ih (i + 1) a b (by omega)
      refine ⟨max K K' + 1, fun k hk => ?_⟩
      obtain ⟨k, rfl⟩ : ∃ m, k = m + 1 := ⟨k - 1, by omega⟩
      simp only [impl_DaysWith.l0]
      rw [if_pos (by omega), hK k (by omega), Option.bind_some, if_neg h1, e, if_neg h1]
      exact h' k (by omega)
theorem daysSpec (l : List DP) (hp : Pts l) (t : Int) : ∀ (d i : Nat) (a b : Int), i + d = 1000 → Ev (fun k => spec_DaysWith.l0 k l t a b (i : Int)) (fin (daysFrom l t i d a b)) := by
  intro d
  induction d with
  | zero =>
    intro i a b hi
    refine Ev.step (f := fun _ => if a < 0 then some (0, 0, false) else some (a, b, true)) (fun k => by simp only [spec_DaysWith.l0]; rw [if_neg (by omega)]) ?_
    exact Ev.ite (fun _ => Ev.now _) (fun _ => Ev.now _)
  | succ d ih =>
    intro i a b hi
    obtain ⟨K, hK⟩ := on_ev hp (day := (i : Int)) (by omega)
    dsimp only at hK
    have e : wrap64 ((i : Int) + 1) = ((i + 1 : Nat) : Int) := by rw [w64 (by omega) (by omega)]; omega
    rw [daysFrom]
    by_cases h1 : decl l (i : Int) = t
    · by_cases h2 : a < 0
      · obtain ⟨K', h'⟩ := ih (i + 1) i i (by omega)
        refine ⟨max K K' + 1, fun k hk => ?_⟩
        obtain ⟨k, rfl⟩ : ∃ m, k = m + 1 := ⟨k - 1, by omega⟩
        simp only [spec_DaysWith.l0]
        rw [if_pos (by omega), hK k (by omega), Option.bind_some, if_pos h1, if_pos h2, e, if_pos h1, if_pos h2]
        exact h' k (by omega)
      · obtain ⟨K', h'⟩ := ih (i + 1) a i (by omega)
        refine ⟨max K K' + 1, fun k hk => ?_⟩
        obtain ⟨k, rfl⟩ : ∃ m, k = m + 1 := ⟨k - 1, by omega⟩
        simp only [spec_DaysWith.l0]
        rw [if_pos (by omega), hK k (by omega), Option.bind_some, if_pos h1, if_neg h2, e, if_pos h1, if_neg h2]
        exact h' k (by omega)
    · obtain ⟨K', h'⟩ := ih (i + 1) a b (by omega)
      refine ⟨max K K' + 1, fun k hk => ?_⟩
      obtain ⟨k, rfl⟩ : ∃ m, k = m + 1 := ⟨k - 1, by omega⟩
      simp only [spec_DaysWith.l0]
      rw [if_pos (by omega), hK k (by omega), Option.bind_some, if_neg h1, e, if_neg h1]
      exact h' k (by omega)
theorem daysImpl0 (l : List DP) (hp : Pts l) (t : Int) : Ev (fun k => impl_DaysWith.l0 k l t (-1) (-1) 0) (daysWith l t) := daysImpl l hp t 1000 0 (-1) (-1) rfl
theorem daysSpec0 (l : List DP) (hp : Pts l) (t : Int) : Ev (fun k => spec_DaysWith.l0 k l t (-1) (-1) 0) (daysWith l t) := daysSpec l hp t 1000 0 (-1) (-1) rfl
theorem implDaysWith_ev (l : List DP) (hb : l.length ≤ 140737488351232) (t : Int) : Ev (fun k => impl_DaysWith.f k l t) (if withB l t = true then daysWith l t else (0, 0, false)) := by
  obtain ⟨K1, h1⟩ := arePoints_ev l hb
  unfold withB
  cases e1 : okL l
  · refine ⟨K1 + 1, fun k hk => ?_⟩
    obtain ⟨k, rfl⟩ : ∃ m, k = m + 1 := ⟨k - 1, by omega⟩
    simp [impl_DaysWith.f, impl_DaysWith.j0, h1 (k + 1) (by omega), e1]
  · cases e2 : inR t (-900) 900
    · refine ⟨K1 + 1, fun k hk => ?_⟩
      obtain ⟨k, rfl⟩ : ∃ m, k = m + 1 := ⟨k - 1, by omega⟩
      simp [impl_DaysWith.f, impl_DaysWith.j0, h1 (k + 1) (by omega), e1, e2, isDecl_eq]
    · obtain ⟨K2, h2⟩ := daysImpl0 l ((okL_iff l).1 e1) t
      refine ⟨max K1 K2 + 1, fun k hk => ?_⟩
      obtain ⟨k, rfl⟩ : ∃ m, k = m + 1 := ⟨k - 1, by omega⟩
      have h3 := h2 k (by omega)
      dsimp only at h3
      have g1 := h1 (k + 1) (by omega)
      dsimp only at g1
      show impl_DaysWith.f (k + 1) l t = _
      rw [impl_DaysWith.f, g1, Option.bind_some, if_pos e1, isDecl_eq, Option.bind_some, e2, impl_DaysWith.j0, if_neg (by decide), Bool.and_true, if_pos rfl]
      exact h3
theorem specDaysWith_ev (l : List DP) (hb : l.length ≤ 140737488351232) (t : Int) : Ev (fun k => spec_DaysWith.f k l t) (if withB l t = true then daysWith l t else (0, 0, false)) := by
  obtain ⟨K1, h1⟩ := good_ev l hb
  unfold withB
  cases e1 : okL l
  · refine ⟨K1 + 1, fun k hk => ?_⟩
    obtain ⟨k, rfl⟩ : ∃ m, k = m + 1 := ⟨k - 1, by omega⟩
    simp [spec_DaysWith.f, spec_DaysWith.j0, h1 (k + 1) (by omega), e1]
  · cases e2 : inR t (-900) 900
    · refine ⟨K1 + 1, fun k hk => ?_⟩
      obtain ⟨k, rfl⟩ : ∃ m, k = m + 1 := ⟨k - 1, by omega⟩
      simp [spec_DaysWith.f, spec_DaysWith.j0, h1 (k + 1) (by omega), e1, e2, tenths_eq]
    · obtain ⟨K2, h2⟩ := daysSpec0 l ((okL_iff l).1 e1) t
      refine ⟨max K1 K2 + 1, fun k hk => ?_⟩
      obtain ⟨k, rfl⟩ : ∃ m, k = m + 1 := ⟨k - 1, by omega⟩
      have h3 := h2 k (by omega)
      dsimp only at h3
      have g1 := h1 (k + 1) (by omega)
      dsimp only at g1
      show spec_DaysWith.f (k + 1) l t = _
      rw [spec_DaysWith.f, g1, Option.bind_some, if_pos e1, tenths_eq, Option.bind_some, e2, spec_DaysWith.j0, if_neg (by decide), Bool.and_true, if_pos rfl]
      exact h3
end Go.Proofs.Ytkiehapaofkmiaa.Dec

/- Points that a law marks: the number it ends with. No conditions. -/
namespace Go.Proofs.Ytkiehapaofkmiaa.Dec
open Go.RowKit Go.Proofs.YtkiehapaofkmiaaW.PrintWords Go.Proofs.Ytkiehapaofkmiaa.Plain Go.Proofs.Ytkiehapaofkmiaa.A
set_option linter.unusedVariables false
theorem mark_ev (l : List DP) (a : Int) (hb : l.length ≤ 140737488351232) (h0 : 0 ≤ a) (h1 : a ≤ 1000000000000) : ∃ r, Ev (fun k => laws_markDecPointS.f k l a) (a + 2 * l.length, r) := by
  have key : ∀ (d i : Nat) (x : List DP), x.length = l.length → i + d = l.length → ∃ r, Ev (fun k => laws_markDecPointS.l0 k x (a + 2 * i) (i : Int)) (a + 2 * l.length, r) := by
    intro d
    induction d with
    | zero =>
      intro i x hx hi
      obtain rfl : i = l.length := by omega
      exact ⟨x, Ev.step (f := fun _ => some (a + 2 * (l.length : Int), x)) (fun k => by simp only [laws_markDecPointS.l0]; rw [if_neg (by omega)]) (Ev.now _)⟩
    | succ d ih =>
      intro i x hx hi
      have hil : i < x.length := by omega
      obtain ⟨r, hr⟩ := ih (i + 1) ((x.set i (⟨a + 2 * i, (rd_T51 x (i : Int)).f1⟩ : DP)).set i (⟨(rd_T51 (x.set i (⟨a + 2 * i, (rd_T51 x (i : Int)).f1⟩ : DP)) (i : Int)).f0, a + 2 * i + 1⟩ : DP)) (by simpa using hx) (by omega)
      refine ⟨r, Ev.step (fun k => ?_) hr⟩
      simp only [laws_markDecPointS.l0, Option.bind_some]
      rw [if_pos (by omega), if_pos (by omega), w64 (x := a + 2 * (i : Int) + 1) (by omega) (by omega), w64 (x := a + 2 * (i : Int) + 1 + 1) (by omega) (by omega), w64 (x := (i : Int) + 1) (by omega) (by omega), Int.toNat_natCast]
      congr 1
      omega
  obtain ⟨r, hr⟩ := key l.length 0 l rfl (by omega)
  exact ⟨r, by unfold laws_markDecPointS.f; simpa using hr⟩
end Go.Proofs.Ytkiehapaofkmiaa.Dec

/- Slices of ints that a law copies, compares, marks and looks at again. No conditions. -/
namespace Go.Proofs.Ytkiehapaofkmiaa.Ints
open Go.RowKit Go.Proofs.YtkiehapaofkmiaaW.PrintWords Go.Proofs.Ytkiehapaofkmiaa.Plain Go.Proofs.Ytkiehapaofkmiaa.A
set_option linter.unusedVariables false
theorem toInt_ev (l : List Int) (hb : l.length ≤ 35184372088832) : Ev (fun k => laws_toIntS.f k l) l := by
  unfold laws_toIntS.f
  refine Ev.pos (by omega) ?_
  refine Ev.pos (by omega) ?_
  have := copy_all laws_toIntS.l0 (fun x : Int => x) 0 0 (fun k x0 x3 x4 => by simp only [laws_toIntS.l0]; rfl) l (by omega)
  simpa using this
theorem eqInt_ev (l : List Int) (hb : l.length ≤ 140737488351232) : Ev (fun k => laws_eqIntS.f k l l) true := by
  unfold laws_eqIntS.f
  refine Ev.pos rfl ?_
  exact eq_all laws_eqIntS.l0 (fun k x0 x4 h0 => by
    simp only [laws_eqIntS.l0, if_true]
    by_cases h : x4 < (x0.length : Int)
    · rw [if_pos h, if_pos h0, if_pos h, if_pos h]
    · rw [if_neg h, if_neg h]) l hb
/-- a, a + 1, .. -/
def from_ : Int → Nat → List Int
  | _, 0 => []
  | a, n + 1 => a :: from_ (a + 1) n
theorem from_length : ∀ (n : Nat) (a : Int), (from_ a n).length = n
  | 0, _ => rfl
  | n + 1, a => by rw [from_, List.length_cons, from_length n]
theorem from_snoc : ∀ (n : Nat) (a : Int), from_ a (n + 1) = from_ a n ++ [a + n]
  | 0, a => by simp [from_]
  | n + 1, a => by
    rw [from_, from_snoc n (a + 1), from_]
    simp
    omega
theorem from_get : ∀ (n : Nat) (a : Int) (i : Nat), i < n → (from_ a n).getD i 0 = a + i
  | 0, _, _, h => by omega
  | n + 1, a, 0, _ => by simp [from_]
  | n + 1, a, i + 1, h => by
    rw [from_, List.getD_cons_succ, from_get n (a + 1) i (by omega)]
    omega
theorem mark_ev (l : List Int) (a : Int) (hb : l.length ≤ 140737488351232) (h0 : 0 ≤ a) (h1 : a ≤ 1000000000000) : Ev (fun k => laws_markIntS.f k l a) (a + l.length, from_ a l.length) := by
  have key : ∀ (d i : Nat) (x : List Int), x.length = l.length → i + d = l.length → x.take i = from_ a i → Ev (fun k => laws_markIntS.l0 k x (a + i) (i : Int)) (a + l.length, from_ a l.length) := by
    intro d
    induction d with
    | zero =>
      intro i x hx hi ht
      obtain rfl : i = l.length := by omega
      refine Ev.step (f := fun _ => some (a + (l.length : Int), x)) (fun k => by simp only [laws_markIntS.l0]; rw [if_neg (by omega)]) ?_
      rw [List.take_of_length_le (by omega)] at ht
      rw [ht]
      exact Ev.now _
    | succ d ih =>
      intro i x hx hi ht
      have hil : i < x.length := by omega
      refine Ev.step (f := fun k => laws_markIntS.l0 k (x.set i (a + i)) (a + ((i + 1 : Nat) : Int)) ((i + 1 : Nat) : Int)) (fun k => by
        simp only [laws_markIntS.l0]
        rw [if_pos (by omega), if_pos (by omega), w64 (by omega) (by omega), w64 (by omega) (by omega), Int.toNat_natCast]
        congr 1
        omega) ?_
      refine ih (i + 1) _ (by simpa using hx) (by omega) ?_
      rw [List.take_succ_eq_append_getElem (by simpa using hil), List.take_set_of_le (by omega), ht, from_snoc]
      simp
  have := key l.length 0 l rfl (by omega) rfl
  unfold laws_markIntS.f
  simpa using this
theorem held_ev (n : Nat) (a : Int) (hb : n ≤ 140737488351232) (h0 : 0 ≤ a) (h1 : a ≤ 1000000000000) : Ev (fun k => laws_heldIntS.f k (from_ a n) a) (a + n) := by
  have key : ∀ (d i : Nat), i + d = n → Ev (fun k => laws_heldIntS.l0 k (from_ a n) (a + i) (i : Int)) (a + n) := by
    intro d
    induction d with
    | zero =>
      intro i hi
      obtain rfl : i = n := by omega
      exact Ev.step (f := fun _ => some (a + (i : Int))) (fun k => by simp only [laws_heldIntS.l0]; rw [if_neg (by rw [from_length]; omega)]) (Ev.now _)
    | succ d ih =>
      intro i hi
      have e : rd (from_ a n) (i : Int) = a + i := from_get n a i (by omega)
      refine Ev.step (f := fun k => laws_heldIntS.l0 k (from_ a n) (a + ((i + 1 : Nat) : Int)) ((i + 1 : Nat) : Int)) (fun k => by
        simp only [laws_heldIntS.l0]
        rw [if_pos (by rw [from_length]; omega), if_pos (by omega), if_pos e, w64 (by omega) (by omega), w64 (by omega) (by omega)]
        congr 1
        omega) (ih (i + 1) (by omega))
  have := key n 0 (by omega)
  unfold laws_heldIntS.f
  simpa using this
end Go.Proofs.Ytkiehapaofkmiaa.Ints

/- The law FnExactCorrectAll, as a plain statement: the program's CorrectAll answers what the reference's answers. Conditions: those of the row's own reading. -/
namespace Go.Proofs.Ytkiehapaofkmiaa.Dec
open Go.RowKit Go.Proofs.YtkiehapaofkmiaaW.PrintWords Go.Proofs.Ytkiehapaofkmiaa.Plain Go.Proofs.Ytkiehapaofkmiaa.A Go.Proofs.Ytkiehapaofkmiaa.Ints
set_option linter.unusedVariables false
/-- The bearings from index i on, d of them, behind those that are there. -/
def corr (l : List DP) (ds ms : List Int) : Nat → Nat → List Int → List Int × Bool
  | _, 0, acc => (acc, true)
  | i, d + 1, acc => if fineB l (ds.getD i 0) (ms.getD i 0) = true then corr l ds ms (i + 1) d (acc ++ [(ms.getD i 0 + decl l (ds.getD i 0)) % 3600]) else ([], false)
def corrB (l : List DP) (ds ms : List Int) : Bool := okL l && (decide (ds.length = ms.length) && decide (ds.length ≤ 20))
def corrAll (l : List DP) (ds ms : List Int) : List Int × Bool := if corrB l ds ms = true then corr l ds ms 0 ds.length [] else ([], false)
theorem corrImpl (l : List DP) (hb : l.length ≤ 140737488351232) (ds ms : List Int) (hl : ds.length = ms.length) (h20 : ds.length ≤ 20) : ∀ (d i : Nat) (acc : List Int), i + d = ds.length → acc.length ≤ i → Ev (fun k => impl_CorrectAll.l0 k l ms acc ds (ds.length : Int) (i : Int)) (corr l ds ms i d acc) := by
  intro d
  induction d with
  | zero =>
    intro i acc hi ha
    exact Ev.step (f := fun _ => some (acc, true)) (fun k => by simp only [impl_CorrectAll.l0]; rw [if_neg (by omega)]) (Ev.now _)
  | succ d ih =>
    intro i acc hi ha
    obtain ⟨K1, h1⟩ := implTrueBearing_ev l hb (ds.getD i 0) (ms.getD i 0)
    have b0 : 0 ≤ (i : Int) := by omega
    have b1 : (i : Int) < (ds.length : Int) := by omega
    have b2 : (i : Int) < (ms.length : Int) := by omega
    have b3 : acc.length < 17592186044416 := by omega
    have e1 : rd ds (i : Int) = ds.getD i 0 := rfl
    have e2 : rd ms (i : Int) = ms.getD i 0 := rfl
    have e3 : wrap64 ((i : Int) + 1) = ((i + 1 : Nat) : Int) := by rw [w64 (by omega) (by omega)]; omega
    rw [corr]
    by_cases hc : fineB l (ds.getD i 0) (ms.getD i 0) = true
    · obtain ⟨K2, h2⟩ := ih (i + 1) (acc ++ [(ms.getD i 0 + decl l (ds.getD i 0)) % 3600]) (by omega) (by simp; omega)
      refine ⟨max K1 K2 + 1, fun k hk => ?_⟩
      obtain ⟨k, rfl⟩ : ∃ m, k = m + 1 := ⟨k - 1, by omega⟩
      have g1 := h1 k (by omega)
      have g2 := h2 k (by omega)
      dsimp only at g1 g2
      rw [if_pos hc] at g1
      simp only [impl_CorrectAll.l0]
      rw [if_pos b1, if_pos b0, if_pos b1, if_pos b2, e1, e2, g1, Option.bind_some, if_pos rfl, if_pos b3, e3, if_pos hc]
      exact g2
    · refine ⟨K1 + 1, fun k hk => ?_⟩
      obtain ⟨k, rfl⟩ : ∃ m, k = m + 1 := ⟨k - 1, by omega⟩
      have g1 := h1 k (by omega)
      dsimp only at g1
      rw [if_neg hc] at g1
      simp only [impl_CorrectAll.l0]
      rw [if_pos b1, if_pos b0, if_pos b1, if_pos b2, e1, e2, g1, Option.bind_some, if_neg (by decide), if_neg hc]
theorem corrSpec (l : List DP) (hb : l.length ≤ 140737488351232) (ds ms : List Int) (hl : ds.length = ms.length) (h20 : ds.length ≤ 20) : ∀ (d i : Nat) (acc : List Int), i + d = ds.length → acc.length ≤ i → Ev (fun k => spec_CorrectAll.l0 k l ds ms acc (i : Int)) (corr l ds ms i d acc) := by
  intro d
  induction d with
  | zero =>
    intro i acc hi ha
    exact Ev.step (f := fun _ => some (acc, true)) (fun k => by simp only [spec_CorrectAll.l0]; rw [if_neg (by omega)]) (Ev.now _)
  | succ d ih =>
    intro i acc hi ha
    obtain ⟨K1, h1⟩ := specTrueBearing_ev l hb (ds.getD i 0) (ms.getD i 0)
    have b0 : 0 ≤ (i : Int) := by omega
    have b1 : (i : Int) < (ds.length : Int) := by omega
    have b2 : (i : Int) < (ms.length : Int) := by omega
    have b3 : acc.length < 17592186044416 := by omega
    have e1 : rd ds (i : Int) = ds.getD i 0 := rfl
    have e2 : rd ms (i : Int) = ms.getD i 0 := rfl
    have e3 : wrap64 ((i : Int) + 1) = ((i + 1 : Nat) : Int) := by rw [w64 (by omega) (by omega)]; omega
    rw [corr]
    by_cases hc : fineB l (ds.getD i 0) (ms.getD i 0) = true
    · obtain ⟨K2, h2⟩ := ih (i + 1) (acc ++ [(ms.getD i 0 + decl l (ds.getD i 0)) % 3600]) (by omega) (by simp; omega)
      refine ⟨max K1 K2 + 1, fun k hk => ?_⟩
      obtain ⟨k, rfl⟩ : ∃ m, k = m + 1 := ⟨k - 1, by omega⟩
      have g1 := h1 k (by omega)
      have g2 := h2 k (by omega)
      dsimp only at g1 g2
      rw [if_pos hc] at g1
      simp only [spec_CorrectAll.l0]
      rw [if_pos b1, if_pos b0, if_pos b2, e1, e2, g1, Option.bind_some, if_pos rfl, if_pos b3, e3, if_pos hc]
      exact g2
    · refine ⟨K1 + 1, fun k hk => ?_⟩
      obtain ⟨k, rfl⟩ : ∃ m, k = m + 1 := ⟨k - 1, by omega⟩
      have g1 := h1 k (by omega)
      dsimp only at g1
      rw [if_neg hc] at g1
      simp only [spec_CorrectAll.l0]
      rw [if_pos b1, if_pos b0, if_pos b2, e1, e2, g1, Option.bind_some, if_neg (by decide), if_neg hc]
theorem corr_length (l : List DP) (ds ms : List Int) : ∀ (d i : Nat) (acc : List Int), (corr l ds ms i d acc).1.length ≤ acc.length + d
  | 0, i, acc => by simp [corr]
  | d + 1, i, acc => by
    rw [corr]
    split
    · have := corr_length l ds ms d (i + 1) (acc ++ [(ms.getD i 0 + decl l (ds.getD i 0)) % 3600])
      rw [List.length_append, List.length_singleton] at this
      omega
    · simp
theorem corrAll_length (l : List DP) (ds ms : List Int) : (corrAll l ds ms).1.length ≤ 20 := by
  unfold corrAll
  split
  · rename_i h
    unfold corrB at h
    simp only [Bool.and_eq_true, decide_eq_true_eq] at h
    have := corr_length l ds ms ds.length 0 []
    simp at this
    omega
  · simp
theorem implCorrectAll_ev (l : List DP) (hb : l.length ≤ 140737488351232) (ds ms : List Int) : Ev (fun k => impl_CorrectAll.f k l ds ms) (corrAll l ds ms) := by
  obtain ⟨K1, h1⟩ := arePoints_ev l hb
  unfold corrAll corrB
  cases e1 : okL l
  · refine ⟨K1 + 1, fun k hk => ?_⟩
    obtain ⟨k, rfl⟩ : ∃ m, k = m + 1 := ⟨k - 1, by omega⟩
    simp [impl_CorrectAll.f, impl_CorrectAll.j0, h1 (k + 1) (by omega), e1]
  · by_cases hl : ds.length = ms.length
    · by_cases h20 : ds.length ≤ 20
      · obtain ⟨K2, h2⟩ := corrImpl l hb ds ms hl h20 ds.length 0 [] (by omega) (by simp)
        refine ⟨max K1 K2 + 1, fun k hk => ?_⟩
        obtain ⟨k, rfl⟩ : ∃ m, k = m + 1 := ⟨k - 1, by omega⟩
        have g1 := h1 (k + 1) (by omega)
        have g2 := h2 k (by omega)
        dsimp only at g1 g2
        show impl_CorrectAll.f (k + 1) l ds ms = _
        rw [impl_CorrectAll.f, g1, Option.bind_some, if_pos e1, if_pos (by omega), decide_eq_false (show ¬ (ds.length : Int) > 20 by omega), impl_CorrectAll.j0, if_neg (by decide), if_pos (by simp [hl]; omega)]
        exact g2
      · refine ⟨K1 + 1, fun k hk => ?_⟩
        obtain ⟨k, rfl⟩ : ∃ m, k = m + 1 := ⟨k - 1, by omega⟩
        have g1 := h1 (k + 1) (by omega)
        dsimp only at g1
        show impl_CorrectAll.f (k + 1) l ds ms = _
        rw [impl_CorrectAll.f, g1, Option.bind_some, if_pos e1, if_pos (by omega), decide_eq_true (show (ds.length : Int) > 20 by omega), impl_CorrectAll.j0, if_pos rfl, if_neg (by simp; omega)]
    · refine ⟨K1 + 1, fun k hk => ?_⟩
      obtain ⟨k, rfl⟩ : ∃ m, k = m + 1 := ⟨k - 1, by omega⟩
      have g1 := h1 (k + 1) (by omega)
      dsimp only at g1
      show impl_CorrectAll.f (k + 1) l ds ms = _
      rw [impl_CorrectAll.f, g1, Option.bind_some, if_pos e1, if_neg (by omega), impl_CorrectAll.j0, if_pos rfl, if_neg (by simp [hl])]
theorem specCorrectAll_ev (l : List DP) (hb : l.length ≤ 140737488351232) (ds ms : List Int) : Ev (fun k => spec_CorrectAll.f k l ds ms) (corrAll l ds ms) := by
  obtain ⟨K1, h1⟩ := good_ev l hb
  unfold corrAll corrB
  cases e1 : okL l
  · refine ⟨K1 + 1, fun k hk => ?_⟩
    obtain ⟨k, rfl⟩ : ∃ m, k = m + 1 := ⟨k - 1, by omega⟩
    simp [spec_CorrectAll.f, spec_CorrectAll.j0, h1 (k + 1) (by omega), e1]
  · by_cases hl : ds.length = ms.length
    · by_cases h20 : ds.length ≤ 20
      · obtain ⟨K2, h2⟩ := corrSpec l hb ds ms hl h20 ds.length 0 [] (by omega) (by simp)
        refine ⟨max K1 K2 + 1, fun k hk => ?_⟩
        obtain ⟨k, rfl⟩ : ∃ m, k = m + 1 := ⟨k - 1, by omega⟩
        have g1 := h1 (k + 1) (by omega)
        have g2 := h2 k (by omega)
        dsimp only at g1 g2
        show spec_CorrectAll.f (k + 1) l ds ms = _
        rw [spec_CorrectAll.f, Option.bind_some, g1, Option.bind_some, if_pos e1, if_pos (by omega), decide_eq_false (show ¬ (ds.length : Int) > 20 by omega), spec_CorrectAll.j0, if_neg (by decide), if_pos (by simp [hl]; omega)]
        exact g2
      · refine ⟨K1 + 1, fun k hk => ?_⟩
        obtain ⟨k, rfl⟩ : ∃ m, k = m + 1 := ⟨k - 1, by omega⟩
        have g1 := h1 (k + 1) (by omega)
        dsimp only at g1
        show spec_CorrectAll.f (k + 1) l ds ms = _
        rw [spec_CorrectAll.f, Option.bind_some, g1, Option.bind_some, if_pos e1, if_pos (by omega), decide_eq_true (show (ds.length : Int) > 20 by omega), spec_CorrectAll.j0, if_pos rfl, if_neg (by simp; omega)]
    · refine ⟨K1 + 1, fun k hk => ?_⟩
      obtain ⟨k, rfl⟩ : ∃ m, k = m + 1 := ⟨k - 1, by omega⟩
      have g1 := h1 (k + 1) (by omega)
      dsimp only at g1
      show spec_CorrectAll.f (k + 1) l ds ms = _
      rw [spec_CorrectAll.f, Option.bind_some, g1, Option.bind_some, if_pos e1, if_neg (by omega), spec_CorrectAll.j0, if_pos rfl, if_neg (by simp [hl])]
end Go.Proofs.Ytkiehapaofkmiaa.Dec
namespace Go.Proofs.Ytkiehapaofkmiaa.Pure
open Go.RowKit Go.Proofs.YtkiehapaofkmiaaW.PrintWords Go.Proofs.Ytkiehapaofkmiaa.Plain Go.Proofs.Ytkiehapaofkmiaa.A Go.Proofs.Ytkiehapaofkmiaa.Dec Go.Proofs.Ytkiehapaofkmiaa.Ints
theorem FnExactCorrectAll (l : List LP) (ds ms : List Int) (hb : l.length * 16 ≤ 140737488351232) (_ : ∀ x ∈ l, (Lit.int .i64 x.f0).wf = true ∧ (Lit.int .i64 x.f1).wf = true) (hd : ds.length * 8 ≤ 140737488351232) (_ : ∀ x ∈ ds, (Lit.int .i64 x).wf = true) (hm : ms.length * 8 ≤ 140737488351232) (_ : ∀ x ∈ ms, (Lit.int .i64 x).wf = true) : ∃ k, laws_FnExactCorrectAll.f k l ds ms = some true := by
  by_cases c1 : (ds.length : Int) > 1048576
  · exact ⟨0, by rw [laws_FnExactCorrectAll.f, if_pos c1]⟩
  by_cases c2 : (ms.length : Int) > 1048576
  · exact ⟨0, by rw [laws_FnExactCorrectAll.f, if_neg c1, if_pos c2]⟩
  have hs := sz_ev l (by omega)
  by_cases c3 : 1048576 - (l.length : Int) < 0
  · refine ⟨0, ?_⟩
    rw [laws_FnExactCorrectAll.f, if_neg c1, if_neg c2, hs, if_pos c3]
    rfl
  rw [if_neg c3] at hs
  obtain ⟨K1, h1⟩ := to_ev l (by omega)
  obtain ⟨K2, h2⟩ := toInt_ev ds (by omega)
  obtain ⟨K3, h3⟩ := toInt_ev ms (by omega)
  obtain ⟨K4, h4⟩ := specCorrectAll_ev (l.map cv) (by simp; omega) ds ms
  obtain ⟨K5, h5⟩ := implCorrectAll_ev (l.map cv) (by simp; omega) ds ms
  have hr := corrAll_length (l.map cv) ds ms
  generalize corrAll (l.map cv) ds ms = r at *
  obtain ⟨out, ok⟩ := r
  simp only at hr
  obtain ⟨K6, h6⟩ := eqInt_ev out (by omega)
  obtain ⟨K7, h7⟩ := same_ev (l.map cv) (by simp; omega)
  obtain ⟨K8, h8⟩ := eqInt_ev ds (by omega)
  obtain ⟨K9, h9⟩ := eqInt_ev ms (by omega)
  obtain ⟨r1, K10, h10⟩ := Dec.mark_ev (l.map cv) 1 (by simp; omega) (by omega) (by omega)
  obtain ⟨K11, h11⟩ := Ints.mark_ev ds (1 + 2 * ((l.map cv).length : Int)) (by omega) (by omega) (by simp; omega)
  obtain ⟨K12, h12⟩ := Ints.mark_ev ms (1 + 2 * ((l.map cv).length : Int) + (ds.length : Int)) (by omega) (by omega) (by simp; omega)
  obtain ⟨K13, h13⟩ := Ints.mark_ev out 1 (by omega) (by omega) (by omega)
  obtain ⟨K14, h14⟩ := Ints.held_ev out.length 1 (by omega) (by omega) (by omega)
  obtain ⟨K, hK⟩ : ∃ K, K = K1 + K2 + K3 + K4 + K5 + K6 + K7 + K8 + K9 + K10 + K11 + K12 + K13 + K14 := ⟨_, rfl⟩
  dsimp only at h1 h2 h3 h4 h5 h6 h7 h8 h9 h10 h11 h12 h13 h14
  refine ⟨K + 1 + 1 + 1, ?_⟩
  have c4 : ¬ (1 + 2 * ((l.map cv).length : Int) + (ds.length : Int) + (ms.length : Int) < 0) := by omega
  have c5 : ¬ ((1 : Int) + (out.length : Int) < 0) := by omega
  simp (discharger := omega) only [laws_FnExactCorrectAll.f, hs, h1, h2, h3, h4, h5, h6, Option.bind_some, if_neg c1, if_neg c2, if_neg c3, if_true, bne_self_eq_false]
  simp (discharger := omega) only [laws_FnExactCorrectAll.j0, h1, h2, h3, h7, h8, h9, h10, h11, h12, h6, Option.bind_some, if_neg c4, if_true, bne_self_eq_false, Bool.false_eq_true, if_false]
  simp (discharger := omega) only [laws_FnExactCorrectAll.j1, h13, h14, h1, h2, h3, h5, h6, Option.bind_some, if_neg c5, if_true, bne_self_eq_false, Bool.false_eq_true, if_false]
  simp (discharger := omega) only [laws_FnExactCorrectAll.j2, h14, Option.bind_some, if_neg c5, if_true, Bool.false_eq_true, if_false]
end Go.Proofs.Ytkiehapaofkmiaa.Pure

/- General laws by which a law's arguments are opened: a slice of structs whose fields are integers or bools, as a row of the print's kinds; a struct by value. No conditions. -/
namespace Go.Proofs.Ytkiehapaofkmiaa.Opens
open Go.ChangeShapes Go.WideShapes Go.Deep Go.RowKit Go.Proofs.YtkiehapaofkmiaaW.PrintWords

theorem list_of {α : Type} {P : Nat → α → Prop} : ∀ (n : Nat), (∀ i, i < n → ∃ x, P i x) → ∃ xs : List α, xs.length = n ∧ ∀ i x, xs[i]? = some x → P i x
  | 0, _ => ⟨[], rfl, fun i x h => by simp at h⟩
  | n + 1, h => by
    obtain ⟨xs, hl, hx⟩ := list_of n (fun i hi => h i (Nat.lt_succ_of_lt hi))
    obtain ⟨y, hy⟩ := h n (Nat.lt_succ_self n)
    refine ⟨xs ++ [y], by simp [hl], fun i x hi => ?_⟩
    by_cases hlt : i < xs.length
    · rw [List.getElem?_append_left hlt] at hi
      exact hx i x hi
    · rw [List.getElem?_append_right (by omega)] at hi
      have h0 : i - xs.length = 0 := by
        have := (List.getElem?_eq_some_iff.1 hi).1
        simp at this
        omega
      rw [h0] at hi
      simp at hi
      subst hi
      have : i = n := by omega
      subst this
      exact hy

section
variable {H : Type} {enc : TypeId × Value → H} {P : Program} {w : World} {base : Nat} {spare : Nat → Bool} {held : Bool}
/-- A slice of structs, opened: the list of what its elements are, each by the kind's own reading. -/
theorem open_row {α : Type} (d : Kd α) {Q : α → Prop} {t e : TypeId} {a : Option Addr} {len cap : Nat} {dd : DataW H} {ps : List MemPlace} (ht : P.underlying t = some (.slice e)) (hC : P.cellsOf e = d.sz)
    (hd : ∀ n cs y, DataW.trod enc P w base spare held n e cs = some y → ∃ x, d.K w x cs ∧ Q x)
    (h : DataW.Trod enc P w base spare held t (.slice a len cap) dd ps) : ∃ xs : List α, xs.length = len ∧ len ≤ cap ∧ d.C w a len xs ∧ ∀ x ∈ xs, Q x := by
  obtain ⟨fuel, hf⟩ := h
  rcases open_slice ht hf with ⟨hcs, _⟩ | ⟨x, l, c, m, n, D, Pl, hcs, _, hl, hm, hmm, _, hi⟩
  · simp [Value.cells] at hcs
    obtain ⟨rfl, rfl, rfl⟩ := hcs
    exact ⟨[], rfl, Nat.le_refl _, ⟨rfl, by omega, fun h => by omega⟩, fun x hx => by simp at hx⟩
  · simp [Value.cells] at hcs
    obtain ⟨rfl, rfl, rfl⟩ := hcs
    have hle : len ≤ m := by subst hmm; split <;> omega
    obtain ⟨xs, hxl, hx⟩ := list_of (P := fun i (z : α) => Q z ∧ ∃ cs, d.K w z cs ∧ w.cells? base (x.add (i * d.sz)) d.sz = some cs) len (fun i hil => by
      obtain ⟨cs, h1, h2⟩ := hi i (by omega)
      rw [hC] at h1
      obtain ⟨z, h3, h4⟩ := hd _ _ _ h2
      exact ⟨z, h4, cs, h3, h1⟩)
    refine ⟨xs, hxl, hl, ⟨hxl, by unfold maxLen at hm; omega, fun _ => ⟨x, rfl, fun j p hp => ?_⟩⟩, fun z hz => ?_⟩
    · obtain ⟨_, cs, h1, h2⟩ := hx j p hp
      obtain ⟨_, hlen, hat⟩ := World.cells?_some h2
      refine ⟨cs, hlen, h1, fun i u hu => ?_⟩
      have hil : i < d.sz := by have := (List.getElem?_eq_some_iff.1 hu).1; omega
      rw [← Go.Deep.add_add, hat i hil, hu]
    · obtain ⟨j, hj⟩ := List.getElem?_of_mem hz
      exact (hx j z hj).1

theorem sized_row {t e : TypeId} {a : Option Addr} {len cap : Nat} {d : DataW H} {ps : List MemPlace} {ts : List TypeId} {ds : List (DataW H)} {j : Nat}
    (hsz : (DataW.weightsEach P ts ds).all (· ≤ reachBytes) = true) (ht : ts[j]? = some t) (hd : ds[j]? = some d) (hu : P.underlying t = some (.slice e)) {B : Nat} (hB : P.bytesOf e = B)
    (h : DataW.Trod enc P w base spare held t (.slice a len cap) d ps) : len * B ≤ 140737488351232 := by
  obtain ⟨fuel, hf⟩ := h
  rcases open_slice hu hf with ⟨hcs, _⟩ | ⟨x, l, c, m, n, D, Pl, hcs, _, hl, hm, hmm, hx, hi⟩
  · simp [Value.cells] at hcs
    obtain ⟨rfl, rfl, rfl⟩ := hcs
    simp
  · simp [Value.cells] at hcs
    obtain ⟨rfl, rfl, rfl⟩ := hcs
    obtain ⟨hx, _⟩ := Prod.mk.inj hx
    subst hx
    have z := sized_slice hsz ht hd hu
    rw [hB] at z
    simp only [List.length_map, List.length_range] at z
    have hle : len ≤ m := by subst hmm; split <;> omega
    rw [show len + (m - len) = m by omega] at z
    exact Nat.le_trans (Nat.mul_le_mul_right _ hle) z

theorem one_field {f : Field} {cs : List Value} {o c : Nat} (ho : f.offset = o) (hc : P.cellsOf f.type = c) {n : Nat} {y : Option (DataW H × List MemPlace)} (h : DataW.trod enc P w base spare held n f.type ((cs.drop f.offset).take (P.cellsOf f.type)) = y) : DataW.trod enc P w base spare held n f.type ((cs.drop o).take c) = y := by rw [← ho, ← hc]; exact h
end
theorem len2 {α : Type} : ∀ {l : List α}, l.length = 2 → ∃ x0 x1, l = [x0, x1]
  | [x0, x1], _ => ⟨x0, x1, rfl⟩
theorem len3 {α : Type} : ∀ {l : List α}, l.length = 3 → ∃ x0 x1 x2, l = [x0, x1, x2]
  | [x0, x1, x2], _ => ⟨x0, x1, x2, rfl⟩
theorem len4 {α : Type} : ∀ {l : List α}, l.length = 4 → ∃ x0 x1 x2 x3, l = [x0, x1, x2, x3]
  | [x0, x1, x2, x3], _ => ⟨x0, x1, x2, x3, rfl⟩
theorem len5 {α : Type} : ∀ {l : List α}, l.length = 5 → ∃ x0 x1 x2 x3 x4, l = [x0, x1, x2, x3, x4]
  | [x0, x1, x2, x3, x4], _ => ⟨x0, x1, x2, x3, x4, rfl⟩
theorem len6 {α : Type} : ∀ {l : List α}, l.length = 6 → ∃ x0 x1 x2 x3 x4 x5, l = [x0, x1, x2, x3, x4, x5]
  | [x0, x1, x2, x3, x4, x5], _ => ⟨x0, x1, x2, x3, x4, x5, rfl⟩
end Go.Proofs.Ytkiehapaofkmiaa.Opens

namespace Go.Proofs.Ytkiehapaofkmiaa.fnExactCorrectAll
open Go.ChangeShapes Go.WideShapes Go.ChangeAt Go.RowKit
open Go.ChangeMaps (open_string shut_string)
open Go.Proofs.Ytkiehapaofkmiaa.A Go.Proofs.YtkiehapaofkmiaaW.PrintWords Go.Proofs.Ytkiehapaofkmiaa.Opens
set_option linter.unusedVariables false
theorem own : ownKnob Try.prog.godebug = none := by kernel_rfl
theorem laidOut : laidOutB Try.prog = true := by kernel_rfl
theorem open_48 {H : Type} {enc : TypeId × Value → H} {w : World} {base : Nat} {spare : Nat → Bool} {held : Bool} {n : Nat} {cs : List Value} {y : DataW H × List MemPlace} (h : DataW.trod enc Try.prog w base spare held n 48 cs = some y) : ∃ (x0 : Int) (x1 : Int), cs = [.int .i64 x0, .int .i64 x1] ∧ (Lit.int .i64 x0).wf = true ∧ (Lit.int .i64 x1).wf = true := by
  obtain ⟨ys, n', _, _, hlen, hys, hf⟩ := DataW.trod_struct Try.underlying48 h
  replace hlen : cs.length = 2 := hlen.trans (by kernel_rfl)
  replace hys : ys.length = 2 := hys.trans (by kernel_rfl)
  clear h
  obtain ⟨c0, c1, rfl⟩ := len2 hlen
  obtain ⟨y0, y1, rfl⟩ := len2 hys
  have h0 : DataW.trod enc Try.prog w base spare held n' 3 [c0] = some y0 := one_field (c := 1) (o := 0) rfl (by kernel_rfl) (hf 0 _ rfl)
  obtain ⟨x0, e0, _, w0⟩ := DataW.trod_int Try.underlying3 h0
  obtain rfl : c0 = _ := (List.cons.inj e0).1
  have h1 : DataW.trod enc Try.prog w base spare held n' 3 [c1] = some y1 := one_field (c := 1) (o := 1) rfl (by kernel_rfl) (hf 1 _ rfl)
  obtain ⟨x1, e1, _, w1⟩ := DataW.trod_int Try.underlying3 h1
  obtain rfl : c1 = _ := (List.cons.inj e1).1
  exact ⟨x0, x1, rfl, w0, w1⟩
set_option maxRecDepth 100000 in
theorem lifted (os : Os) (started : os.Started) (H : Type) (enc : TypeId × Value → H) :
    ReturnsInHanded {} Try.checked os 5 .any (Rows.fnExactCorrectAllSpec.pre6 enc Try.prog Try.f5 Rows.fnExactCorrectAllRow.domain false) (Rows.fnExactCorrectAllSpec.post enc Try.prog Try.f5 false true false false) := by
  refine returnsInHanded_of_change_sized (C := Try.checked) own started (by kernel_rfl) Try.func5
    (ChangeSpec.witness6 (enc := enc) (C := Try.checked) false ⟨#[], #[.slice none 0 0, .slice none 0 0, .slice none 0 0], []⟩ 8 (by kernel_rfl) (by kernel_rfl) (by kernel_rfl) (by kernel_rfl)) ?_
  intro W base args ds gs before hval0 hW hcnd hsz0 _
  have hsz : (DataW.weightsEach Try.prog (Try.f5.params.toList ++ Rows.fnExactCorrectAllSpec.plain.varTypes Try.prog) (ds ++ gs)).all (· ≤ reachBytes) = true := hsz0
  have hval : ∀ (j : Nat) t v, Try.f5.params[j]? = some t → args[j]? = some v → Value.okWide Try.prog W .any base t v := hval0
  have hW' := hW
  obtain ⟨p, q, hA0, hV, rfl, hfz, hnd⟩ := hW
  have hA : DataW.TrodAll enc Try.prog W 0 (fun _ => true) true Try.f5.params.toList args.toList ds p := hA0
  rw [Try.params5] at hA hval hsz
  obtain ⟨v0, vs0, d0, ds0, p0, q0, hargs, rfl, rfl, h0, r0⟩ := trodAll_cons hA
  obtain ⟨v1, vs1, d1, ds1, p1, q1, rfl, rfl, rfl, h1, r1⟩ := trodAll_cons r0
  obtain ⟨v2, vs2, d2, ds2, p2, q2, rfl, rfl, rfl, h2, r2⟩ := trodAll_cons r1
  obtain ⟨rfl, rfl, rfl⟩ := trodAll_nil r2
  obtain rfl : args = #[v0, v1, v2] := by cases args; simp_all
  obtain ⟨rfl, rfl⟩ := trodVars_none hV
  have k0 := h0
  have lt0 : ∀ x ∈ p0, x.block < W.heap.size := by obtain ⟨m, hm⟩ := k0; exact DataW.trod_lt m _ _ _ hm
  obtain ⟨a0, len0, cap0, rfl⟩ := okWide_slice Try.underlying31 (hval 0 31 v0 rfl rfl)
  obtain ⟨l0, hl0, hc0, hr0, hw0⟩ := open_row k48 (Q := fun x => (Lit.int .i64 x.f0).wf = true ∧ (Lit.int .i64 x.f1).wf = true) (e := 48) Try.underlying31 (by kernel_rfl) (fun _ _ _ h => by obtain ⟨x0, x1, rfl, hw⟩ := open_48 h; exact ⟨⟨x0, x1⟩, k48_mk _ _, hw⟩) h0
  have y0 : len0 * 16 ≤ 140737488351232 := sized_row hsz (j := 0) (t := 31) rfl rfl Try.underlying31 (by kernel_rfl) h0
  subst hl0
  have k1 := h1
  have lt1 : ∀ x ∈ p1, x.block < W.heap.size := by obtain ⟨m, hm⟩ := k1; exact DataW.trod_lt m _ _ _ hm
  obtain ⟨a1, len1, cap1, rfl⟩ := okWide_slice Try.underlying32 (hval 1 32 v1 rfl rfl)
  obtain ⟨l1, hl1, hc1, hr1, hw1⟩ := open_row (Kd.int .i64) (Q := fun x => (Lit.int .i64 x).wf = true) (e := 3) Try.underlying32 (by kernel_rfl) (fun _ _ _ h => by obtain ⟨x, rfl, _, hw⟩ := DataW.trod_int Try.underlying3 h; exact ⟨x, rfl, hw⟩) h1
  have y1 : len1 * 8 ≤ 140737488351232 := sized_row hsz (j := 1) (t := 32) rfl rfl Try.underlying32 (by kernel_rfl) h1
  subst hl1
  have k2 := h2
  have lt2 : ∀ x ∈ p2, x.block < W.heap.size := by obtain ⟨m, hm⟩ := k2; exact DataW.trod_lt m _ _ _ hm
  obtain ⟨a2, len2, cap2, rfl⟩ := okWide_slice Try.underlying32 (hval 2 32 v2 rfl rfl)
  obtain ⟨l2, hl2, hc2, hr2, hw2⟩ := open_row (Kd.int .i64) (Q := fun x => (Lit.int .i64 x).wf = true) (e := 3) Try.underlying32 (by kernel_rfl) (fun _ _ _ h => by obtain ⟨x, rfl, _, hw⟩ := DataW.trod_int Try.underlying3 h; exact ⟨x, rfl, hw⟩) h2
  have y2 : len2 * 8 ≤ 140737488351232 := sized_row hsz (j := 2) (t := 32) rfl rfl Try.underlying32 (by kernel_rfl) h2
  subst hl2
  clear hA0 hval0 hsz0 hsz
  obtain ⟨k, hk⟩ := Pure.FnExactCorrectAll l0 l1 l2 y0 hw0 y1 hw1 y2 hw2
  refine (laws_FnExactCorrectAll.calls k _ _ l0 _ _ l1 _ _ l2 true W hr0 hc0 hr1 hc1 hr2 hc2 hk).mono fun e W' ⟨he, hb⟩ => ?_
  have bel : Below W.heap.size W W' := hb
  subst he
  exact ⟨_, rfl, _, _, _, [], _, [], hW', trodAll_mk1 (shut_bool Try.underlying4 _), (trodAll_cons_mk (Below.trod laidOut (by kernel_rfl) (of_decide_eq_true (by kernel_rfl)) k0 bel lt0) (trodAll_cons_mk (Below.trod laidOut (by kernel_rfl) (of_decide_eq_true (by kernel_rfl)) k1 bel lt1) (trodAll_cons_mk (Below.trod laidOut (by kernel_rfl) (of_decide_eq_true (by kernel_rfl)) k2 bel lt2) trodAll_mk0))), rfl, bel.frame _, fun h => by cases h⟩
theorem over : Rows.fnExactCorrectAllRow.holds Try.pinned (OpenSpec.ofChange Rows.fnExactCorrectAllSpec) :=
  OpenClaim.holds_of_wide 5 Try.f5 rfl rfl rfl rfl rfl rfl rfl ⟨rfl, rfl, rfl, rfl, rfl⟩ rfl rfl rfl rfl rfl (by kernel_rfl) Try.func5 (by kernel_rfl)
    (of_decide_eq_true (by kernel_rfl)) (by unfold Func.isWrapper; first | (rw [if_pos (by decide +kernel)]; kernel_rfl) | (rw [if_neg (by decide +kernel)]; exact ⟨rfl, rfl⟩))
    (fun os started H enc _ => lifted os started H enc)
theorem proved : Rows.FnExactCorrectAllSaid := over
#print axioms proved
end Go.Proofs.Ytkiehapaofkmiaa.fnExactCorrectAll
namespace Go.Proofs.Ytkiehapaofkmiaa
/-- The row, under a short name, for the claim. -/
theorem fnExactCorrectAll_holds : Rows.FnExactCorrectAllSaid := fnExactCorrectAll.proved
end Go.Proofs.Ytkiehapaofkmiaa
