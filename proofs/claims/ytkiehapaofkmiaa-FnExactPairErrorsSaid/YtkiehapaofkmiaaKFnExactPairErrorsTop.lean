/- The row of the law FnExactPairErrors: whatever the input, it returns true; its arguments read as they did. No conditions. -/
import Derived.Test.YtkiehapaofkmiaaWMore
import Derived.Deep.Slices
import Derived.Deep.Fields
import Derived.ChangeSame
import Derived.SizedLaws
import Derived.Test.YtkiehapaofkmiaaRows
import Derived.WalkKit
import Derived.ProofKit
import Derived.OpenShut
import Derived.ShutString
import Derived.ChangeOld
import Derived.Below
import Derived.Test.YtkiehapaofkmiaaKFnExactPairErrors0
import Derived.Test.YtkiehapaofkmiaaKFnExactPairErrors1
import Derived.Test.YtkiehapaofkmiaaKFnExactPairErrors2
import Derived.Test.YtkiehapaofkmiaaKFnExactPairErrors3
import Derived.Test.YtkiehapaofkmiaaKFnExactPairErrors4
import Derived.Test.YtkiehapaofkmiaaKFnExactPairErrors5
/- Plain lemmas on integers that wrap at 64 bits, on answers that come after enough rounds, on tests over all indexes of a list. No program stands here. -/
namespace Go.Proofs.Ytkiehapaofkmiaa.Plain
open Go.RowKit Go.Proofs.YtkiehapaofkmiaaW.PrintWords

theorem w64 {x : Int} (h1 : -9223372036854775808 ≤ x) (h2 : x ≤ 9223372036854775807) : wrap64 x = x := by
  unfold wrap64
  omega

theorem wf_bounds {x : Int} (h : (Lit.int .i64 x).wf = true) : -9223372036854775808 ≤ x ∧ x ≤ 9223372036854775807 := by
  simp only [Lit.wf, IntKind.min, IntKind.max, IntKind.signed, IntKind.bits, Bool.and_eq_true, decide_eq_true_eq, if_true] at h
  omega

/-- The product of two numbers that are bounded. -/
theorem mul_bound {x y : Int} (A B : Int) (h1 : -A ≤ x) (h2 : x ≤ A) (h3 : -B ≤ y) (h4 : y ≤ B) : -(A * B) ≤ x * y ∧ x * y ≤ A * B := by
  have e1 : 0 ≤ (A - x) * (B - y) := Int.mul_nonneg (by omega) (by omega)
  have e2 : 0 ≤ (A + x) * (B + y) := Int.mul_nonneg (by omega) (by omega)
  have e3 : 0 ≤ (A - x) * (B + y) := Int.mul_nonneg (by omega) (by omega)
  have e4 : 0 ≤ (A + x) * (B - y) := Int.mul_nonneg (by omega) (by omega)
  simp only [Int.sub_mul, Int.mul_sub, Int.add_mul, Int.mul_add] at e1 e2 e3 e4
  omega

/-! ### Answers after enough rounds -/
theorem Ev.some {α : Type} {g : Nat → Option α} {r : α} (h : ∀ k, g k = some r) : Ev g r := ⟨0, fun k _ => h k⟩
theorem Ev.eq {α : Type} {g f : Nat → Option α} {r : α} (h : Ev f r) (e : ∀ k, g k = f k) : Ev g r := Ev.congr e h
theorem Ev.ite {α : Type} {c : Prop} [Decidable c] {g f : Nat → Option α} {r q : α} (h : c → Ev g r) (k : ¬ c → Ev f q) : Ev (fun n => if c then g n else f n) (if c then r else q) := by
  by_cases hc : c
  · obtain ⟨K, hK⟩ := h hc
    exact ⟨K, fun n hn => by simp only [if_pos hc]; exact hK n hn⟩
  · obtain ⟨K, hK⟩ := k hc
    exact ⟨K, fun n hn => by simp only [if_neg hc]; exact hK n hn⟩
theorem Ev.pos {α : Type} {c : Prop} [Decidable c] {g f : Nat → Option α} {r : α} (hc : c) (h : Ev g r) : Ev (fun n => if c then g n else f n) r := by
  obtain ⟨K, hK⟩ := h
  exact ⟨K, fun n hn => by simp only [if_pos hc]; exact hK n hn⟩
theorem Ev.neg {α : Type} {c : Prop} [Decidable c] {g f : Nat → Option α} {r : α} (hc : ¬ c) (h : Ev f r) : Ev (fun n => if c then g n else f n) r := by
  obtain ⟨K, hK⟩ := h
  exact ⟨K, fun n hn => by simp only [if_neg hc]; exact hK n hn⟩
theorem Ev.bindc {α β : Type} {o : Option α} {f : Nat → α → Option β} {a : α} {r : β} (h : o = Option.some a) (k : Ev (fun n => f n a) r) : Ev (fun n => o.bind (f n)) r := by
  obtain ⟨K, hK⟩ := k
  exact ⟨K, fun n hn => by rw [h]; exact hK n hn⟩
theorem Ev.uniq {α : Type} {g : Nat → Option α} {r q : α} (h : Ev g r) (k : Ev g q) : r = q := by
  obtain ⟨K, h⟩ := h
  obtain ⟨K', k⟩ := k
  have h1 := h (max K K') (by omega)
  have h2 := k (max K K') (by omega)
  rw [h1] at h2
  exact Option.some.inj h2

/-! ### A test of all indexes from one on -/
def allFrom (P : Nat → Bool) : Nat → Nat → Bool
  | _, 0 => true
  | i, d + 1 => P i && allFrom P (i + 1) d
theorem allFrom_iff (P : Nat → Bool) : ∀ (d i : Nat), allFrom P i d = true ↔ ∀ j, i ≤ j → j < i + d → P j = true
  | 0, i => ⟨fun _ j h1 h2 => by omega, fun _ => rfl⟩
  | d + 1, i => by
    rw [allFrom, Bool.and_eq_true, allFrom_iff P d (i + 1)]
    constructor
    · rintro ⟨h0, h1⟩ j hj hj2
      by_cases e : j = i
      · subst e
        exact h0
      · exact h1 j (by omega) (by omega)
    · intro h
      exact ⟨h i (by omega) (by omega), fun j hj hj2 => h j (by omega) (by omega)⟩
theorem allFrom_congr {P Q : Nat → Bool} : ∀ (d i : Nat), (∀ j, i ≤ j → j < i + d → P j = Q j) → allFrom P i d = allFrom Q i d
  | 0, _, _ => rfl
  | d + 1, i, h => by rw [allFrom, allFrom, h i (by omega) (by omega), allFrom_congr d (i + 1) (fun j hj hj2 => h j (by omega) (by omega))]

theorem allFrom_all {α : Type} (l : List α) (d : α) (p : α → Bool) : allFrom (fun i => p (l.getD i d)) 0 l.length = l.all p := by
  rw [Bool.eq_iff_iff, allFrom_iff, List.all_eq_true]
  constructor
  · intro h x hx
    obtain ⟨j, hj, rfl⟩ := List.getElem_of_mem hx
    have := h j (by omega) (by omega)
    simpa [List.getD, hj] using this
  · intro h j _ hj
    have hj' : j < l.length := by omega
    have := h l[j] (List.getElem_mem hj')
    simpa [List.getD, hj'] using this

/-- A number within two others. -/
def inR (x a b : Int) : Bool := if x ≥ a then decide (x ≤ b) else false
theorem inR_iff {x a b : Int} : inR x a b = true ↔ a ≤ x ∧ x ≤ b := by
  unfold inR
  split
  · simp
    omega
  · simp
    omega
theorem inR_false {x a b : Int} : inR x a b = false ↔ ¬ (a ≤ x ∧ x ≤ b) := by
  rw [← inR_iff]
  simp

/-! ### Loops that copy a list, or compare two -/
theorem copy_loop {α β : Type} (L : Nat → List α → List β → Int → Option (List β)) (cv : α → β) (z : α)
    (hL : ∀ k x0 x3 x4, L (k + 1) x0 x3 x4 = if x4 < (x0.length : Int) then (if 0 ≤ x4 then (if x4 < (x3.length : Int) then L k x0 (x3.set x4.toNat (cv (x0.getD x4.toNat z))) (wrap64 (x4 + 1)) else none) else none) else some x3)
    (x0 : List α) (hb : x0.length ≤ 140737488351232) : ∀ (d k i : Nat) (x3 : List β), x3.length = x0.length → i + d = x0.length → d < k → L k x0 x3 (i : Int) = some (x3.take i ++ (x0.drop i).map cv)
  | 0, k, i, x3, h3, hi, hk => by
    obtain ⟨k, rfl⟩ : ∃ m, k = m + 1 := ⟨k - 1, by omega⟩
    rw [hL, if_neg (by omega), List.drop_of_length_le (by omega), List.take_of_length_le (by omega)]
    simp
  | d + 1, k, i, x3, h3, hi, hk => by
    obtain ⟨k, rfl⟩ : ∃ m, k = m + 1 := ⟨k - 1, by omega⟩
    have hil : i < x0.length := by omega
    rw [hL, if_pos (by omega), if_pos (by omega), if_pos (by omega), w64 (by omega) (by omega)]
    have e := copy_loop L cv z hL x0 hb d k (i + 1) (x3.set i (cv (x0.getD i z))) (by simpa using h3) (by omega) (by omega)
    rw [Int.toNat_natCast, show ((i : Int) + 1) = ((i + 1 : Nat) : Int) by omega, e]
    congr 1
    rw [List.drop_eq_getElem_cons hil, List.map_cons]
    have hx3 : i < x3.length := by omega
    rw [List.take_succ_eq_append_getElem (by simpa using hx3), List.take_set_of_le (by omega)]
    simp [List.getD, hil]

theorem copy_all {α β : Type} (L : Nat → List α → List β → Int → Option (List β)) (cv : α → β) (z : α) (z' : β)
    (hL : ∀ k x0 x3 x4, L (k + 1) x0 x3 x4 = if x4 < (x0.length : Int) then (if 0 ≤ x4 then (if x4 < (x3.length : Int) then L k x0 (x3.set x4.toNat (cv (x0.getD x4.toNat z))) (wrap64 (x4 + 1)) else none) else none) else some x3)
    (x0 : List α) (hb : x0.length ≤ 140737488351232) : Ev (fun k => L k x0 (List.replicate ((x0.length : Int) : Int).toNat z') 0) (x0.map cv) :=
  ⟨x0.length + 1, fun k hk => by
    have := copy_loop L cv z hL x0 hb x0.length k 0 (List.replicate x0.length z') (by simp) (by omega) (by omega)
    simpa using this⟩

theorem eq_loop {α : Type} (L : Nat → List α → List α → Int → Option Bool) 
    (hL : ∀ k x0 x4, 0 ≤ x4 → L (k + 1) x0 x0 x4 = if x4 < (x0.length : Int) then L k x0 x0 (wrap64 (x4 + 1)) else some true)
    (x0 : List α) (hb : x0.length ≤ 140737488351232) : ∀ (d k i : Nat), i + d = x0.length → d < k → L k x0 x0 (i : Int) = some true
  | 0, k, i, hi, hk => by
    obtain ⟨k, rfl⟩ : ∃ m, k = m + 1 := ⟨k - 1, by omega⟩
    rw [hL _ _ _ (by omega), if_neg (by omega)]
  | d + 1, k, i, hi, hk => by
    obtain ⟨k, rfl⟩ : ∃ m, k = m + 1 := ⟨k - 1, by omega⟩
    rw [hL _ _ _ (by omega), if_pos (by omega), w64 (by omega) (by omega), show ((i : Int) + 1) = ((i + 1 : Nat) : Int) by omega]
    exact eq_loop L hL x0 hb d k (i + 1) (by omega) (by omega)

theorem eq_all {α : Type} (L : Nat → List α → List α → Int → Option Bool) 
    (hL : ∀ k x0 x4, 0 ≤ x4 → L (k + 1) x0 x0 x4 = if x4 < (x0.length : Int) then L k x0 x0 (wrap64 (x4 + 1)) else some true)
    (x0 : List α) (hb : x0.length ≤ 140737488351232) : Ev (fun k => L k x0 x0 0) true :=
  ⟨x0.length + 1, fun k hk => eq_loop L hL x0 hb x0.length k 0 (by omega) (by omega)⟩

/-- A loop that asks a test of each index, and says no at the first that fails. -/
theorem all_loop (P : Nat → Bool) (n : Nat) (hn : n ≤ 140737488351232) (L : Nat → Int → Option Bool) (fin : Option Bool)
    (hL : ∀ k i, i < n → L (k + 1) (i : Int) = if P i = true then L k (wrap64 (i + 1)) else some false) (hend : ∀ k, L (k + 1) (n : Int) = fin) :
    ∀ (d k i : Nat), i + d = n → d < k → L k (i : Int) = if allFrom P i d = true then fin else some false
  | 0, k, i, hi, hk => by
    obtain ⟨k, rfl⟩ : ∃ m, k = m + 1 := ⟨k - 1, by omega⟩
    obtain rfl : i = n := by omega
    rw [hend, allFrom, if_pos rfl]
  | d + 1, k, i, hi, hk => by
    obtain ⟨k, rfl⟩ : ∃ m, k = m + 1 := ⟨k - 1, by omega⟩
    rw [hL _ _ (by omega), w64 (by omega) (by omega), show ((i : Int) + 1) = ((i + 1 : Nat) : Int) by omega, all_loop P n hn L fin hL hend d k (i + 1) (by omega) (by omega), allFrom]
    cases P i <;> simp

theorem all_ev (P : Nat → Bool) (n : Nat) (hn : n ≤ 140737488351232) (L : Nat → Int → Option Bool) (fin : Option Bool)
    (hL : ∀ k i, i < n → L (k + 1) (i : Int) = if P i = true then L k (wrap64 (i + 1)) else some false) (hend : ∀ k, L (k + 1) (n : Int) = fin) :
    ∃ K, ∀ k, K ≤ k → L k 0 = if allFrom P 0 n = true then fin else some false :=
  ⟨n + 1, fun k hk => all_loop P n hn L fin hL hend n k 0 (by omega) (by omega)⟩

/-! ### Marks: a law writes numbers into what came out, and looks whether they are still there -/
def marks {α : Type} (mk : Int → α) (s : Int) : Int → Nat → List α
  | _, 0 => []
  | a, n + 1 => mk a :: marks mk s (a + s) n
theorem marks_length {α : Type} (mk : Int → α) (s : Int) : ∀ (n : Nat) (a : Int), (marks mk s a n).length = n
  | 0, _ => rfl
  | n + 1, a => by rw [marks, List.length_cons, marks_length mk s n]
theorem marks_snoc {α : Type} (mk : Int → α) (s : Int) : ∀ (n : Nat) (a : Int), marks mk s a (n + 1) = marks mk s a n ++ [mk (a + s * n)]
  | 0, a => by simp [marks]
  | n + 1, a => by
    rw [marks, marks_snoc mk s n (a + s), marks]
    have e : a + s + s * (n : Int) = a + s * ((n + 1 : Nat) : Int) := by rw [Int.natCast_add, Int.mul_add]; omega
    rw [e]
    rfl
theorem marks_get {α : Type} (mk : Int → α) (s : Int) (z : α) : ∀ (n : Nat) (a : Int) (i : Nat), i < n → (marks mk s a n).getD i z = mk (a + s * i)
  | 0, _, _, h => by omega
  | n + 1, a, 0, _ => by simp [marks]
  | n + 1, a, i + 1, h => by
    rw [marks, List.getD_cons_succ, marks_get mk s z n (a + s) i (by omega)]
    have e : a + s + s * (i : Int) = a + s * ((i + 1 : Nat) : Int) := by rw [Int.natCast_add, Int.mul_add]; omega
    rw [e]
theorem mark_bound {a s : Int} {i n : Nat} (h0 : 0 ≤ a) (h1 : a ≤ 1000000000000) (hs : 0 ≤ s) (hs' : s ≤ 100) (hi : i ≤ n) (hn : n ≤ 140737488351232) : 0 ≤ a + s * i ∧ a + s * i ≤ 20000000000000000 := by
  have e1 : 0 ≤ s * (i : Int) := Int.mul_nonneg hs (by omega)
  have e2 : s * (i : Int) ≤ 100 * (i : Int) := Int.mul_le_mul_of_nonneg_right hs' (by omega)
  omega
theorem mark_all {α : Type} (L : Nat → List α → Int → Int → Option (Int × List α)) (mk : Int → α) (s : Int) (hs : 0 ≤ s) (hs' : s ≤ 100)
    (hL : ∀ (k : Nat) (x : List α) (a : Int) (i : Nat), i < x.length → x.length ≤ 140737488351232 → 0 ≤ a → a ≤ 20000000000000000 → L (k + 1) x a (i : Int) = L k (x.set i (mk a)) (a + s) ((i + 1 : Nat) : Int)) (hend : ∀ k x a, L (k + 1) x a (x.length : Int) = some (a, x))
    (l : List α) (a : Int) (hb : l.length ≤ 140737488351232) (h0 : 0 ≤ a) (h1 : a ≤ 1000000000000) : Ev (fun k => L k l a 0) (a + s * l.length, marks mk s a l.length) := by
  have key : ∀ (d i : Nat) (x : List α), x.length = l.length → i + d = l.length → x.take i = marks mk s a i → Ev (fun k => L k x (a + s * i) (i : Int)) (a + s * l.length, marks mk s a l.length) := by
    intro d
    induction d with
    | zero =>
      intro i x hx hi ht
      obtain rfl : i = x.length := by omega
      refine Ev.step (f := fun _ => some (a + s * (x.length : Int), x)) (fun k => hend k x _) ?_
      rw [List.take_of_length_le (Nat.le_refl _)] at ht
      rw [← hx, ← ht]
      exact Ev.now _
    | succ d ih =>
      intro i x hx hi ht
      have hil : i < x.length := by omega
      have hbd := mark_bound h0 h1 hs hs' (show i ≤ l.length by omega) hb
      have e : a + s * (i : Int) + s = a + s * ((i + 1 : Nat) : Int) := by rw [Int.natCast_add, Int.mul_add]; omega
      refine Ev.step (f := fun k => L k (x.set i (mk (a + s * i))) (a + s * ((i + 1 : Nat) : Int)) ((i + 1 : Nat) : Int)) (fun k => by rw [hL k x _ i hil (by omega) hbd.1 hbd.2, e]) ?_
      refine ih (i + 1) _ (by simpa using hx) (by omega) ?_
      rw [List.take_succ_eq_append_getElem (by simpa using hil), List.take_set_of_le (by omega), ht, marks_snoc]
      simp
  have := key l.length 0 l rfl (by omega) rfl
  simpa using this
theorem held_all {α : Type} (H : Nat → List α → Int → Int → Option Int) (mk : Int → α) (z : α) (s : Int) (hs : 0 ≤ s) (hs' : s ≤ 100)
    (hH : ∀ (k : Nat) (x : List α) (a : Int) (i : Nat), i < x.length → x.length ≤ 140737488351232 → 0 ≤ a → a ≤ 20000000000000000 → x.getD i z = mk a → H (k + 1) x a (i : Int) = H k x (a + s) ((i + 1 : Nat) : Int)) (hend : ∀ k x a, H (k + 1) x a (x.length : Int) = some a)
    (n : Nat) (a : Int) (hb : n ≤ 140737488351232) (h0 : 0 ≤ a) (h1 : a ≤ 1000000000000) : Ev (fun k => H k (marks mk s a n) a 0) (a + s * n) := by
  have key : ∀ (d i : Nat), i + d = n → Ev (fun k => H k (marks mk s a n) (a + s * i) (i : Int)) (a + s * n) := by
    intro d
    induction d with
    | zero =>
      intro i hi
      obtain rfl : i = n := by omega
      refine Ev.step (f := fun _ => some (a + s * (i : Int))) (fun k => ?_) (Ev.now _)
      have := hend k (marks mk s a i) (a + s * i)
      rwa [marks_length] at this
    | succ d ih =>
      intro i hi
      have hbd := mark_bound h0 h1 hs hs' (show i ≤ n by omega) hb
      have e : a + s * (i : Int) + s = a + s * ((i + 1 : Nat) : Int) := by rw [Int.natCast_add, Int.mul_add]; omega
      exact Ev.step (fun k => by rw [hH k _ _ i (by rw [marks_length]; omega) (by rw [marks_length]; omega) hbd.1 hbd.2 (marks_get mk s z n a i (by omega)), e]) (ih (i + 1) (by omega))
  have := key n 0 (by omega)
  simpa using this

end Go.Proofs.Ytkiehapaofkmiaa.Plain

/- Entries of a field book: when one is valid. -/
namespace Go.Proofs.Ytkiehapaofkmiaa.Ent
open Go.RowKit Go.Proofs.YtkiehapaofkmiaaW.PrintWords Go.Proofs.Ytkiehapaofkmiaa.Plain Go.Proofs.Ytkiehapaofkmiaa.A
set_option linter.unusedVariables false
theorem within_eq (x a b : Int) : impl_within.f x a b = some (inR x a b) := by unfold impl_within.f inR; split <;> rfl
theorem in_eq (x a b : Int) : spec_l1In.f x a b = some (inR x a b) := by unfold spec_l1In.f inR; split <;> rfl
theorem station_eq (x : Int) : impl_isStation.f x = some (inR x 0 7) := by unfold impl_isStation.f; rw [within_eq]; rfl
theorem bearing_eq (x : Int) : impl_isBearing.f x = some (inR x 0 359) := by unfold impl_isBearing.f; rw [within_eq]; rfl
theorem l4Station_eq (x : Int) : spec_l4Station.f x = some (inR x 0 7) := by unfold spec_l4Station.f; rw [in_eq]; rfl
theorem l2Bearing_eq (x : Int) : spec_l2Bearing.f x = some (inR x 0 359) := by unfold spec_l2Bearing.f; rw [in_eq]; rfl
def legB (a b c d e : Int) : Bool := inR a 0 7 && (inR b 0 7 && (decide (a ≠ b) && (inR c 1 500 && (inR d 0 359 && inR e (-90) 90))))
theorem isLeg_eq (a b c d e : Int) : impl_IsLeg.f a b c d e = some (legB a b c d e) := by
  unfold impl_IsLeg.f legB
  simp only [station_eq, within_eq, bearing_eq, Option.bind_some]
  cases inR a 0 7 <;> cases inR b 0 7 <;> by_cases h : a = b <;> cases inR c 1 500 <;> cases inR d 0 359 <;> simp [h]
theorem l4Leg_eq (a b c d e : Int) : spec_l4Leg.f a b c d e = some (legB a b c d e) := by
  unfold spec_l4Leg.f legB
  simp only [l4Station_eq, in_eq, l2Bearing_eq, Option.bind_some]
  cases inR a 0 7 <;> cases inR b 0 7 <;> by_cases h : a = b <;> cases inR c 1 500 <;> cases inR d 0 359 <;> simp [h]
theorem isEntry_eq (a b c d e : Int) (f : Bool) : impl_IsEntry.f a b c d e f = some (legB a b c d e) := by
  simp only [impl_IsEntry.f, impl_Entry_leg.f, Option.bind_some, isLeg_eq]
theorem l7One_eq (a b c d e : Int) (f : Bool) : spec_l7One.f a b c d e f = some (legB a b c d e) := by
  simp only [spec_l7One.f, Option.bind_some, l4Leg_eq]
end Go.Proofs.Ytkiehapaofkmiaa.Ent

/- Field books: which are valid; which entry is the first that measures a leg. No conditions. -/
namespace Go.Proofs.Ytkiehapaofkmiaa.Book
open Go.RowKit Go.Proofs.YtkiehapaofkmiaaW.PrintWords Go.Proofs.Ytkiehapaofkmiaa.Plain Go.Proofs.Ytkiehapaofkmiaa.A Go.Proofs.Ytkiehapaofkmiaa.Ent
set_option linter.unusedVariables false
abbrev EN := S75
abbrev LE := S82
abbrev z : EN := z75
def cv (x : LE) : EN := ⟨x.f0, x.f1, x.f2, x.f3, x.f4, x.f5⟩
def okE (x : EN) : Bool := legB x.f0 x.f1 x.f2 x.f3 x.f4
def bookB (l : List EN) : Bool := l.all okE && decide (l.length ≤ 12)
theorem bad_eq (x : EN) : impl_isBook.bad x = !okE x := by
  unfold impl_isBook.bad okE
  rw [isEntry_eq]
  cases legB x.f0 x.f1 x.f2 x.f3 x.f4 <;> rfl
theorem isBook_eq (l : List EN) : impl_isBook.f l = some (bookB l) := by
  unfold impl_isBook.f bookB
  have e : (!(l.any impl_isBook.bad)) = l.all okE := by
    induction l with
    | nil => rfl
    | cons x l ih => rw [List.any_cons, List.all_cons, Bool.not_or, ih, bad_eq, Bool.not_not]
  by_cases h : l.length ≤ 12
  · rw [if_pos h, e, decide_eq_true h, Bool.and_true]
  · rw [if_neg h, decide_eq_false h, Bool.and_false]
theorem l7Book_ev (l : List EN) (hb : l.length ≤ 140737488351232) : Ev (fun k => spec_l7Book.f k l) (bookB l) := by
  obtain ⟨K, hK⟩ := all_ev (fun i => okE (l.getD i z)) l.length hb (fun k i => spec_l7Book.l0 k l i) (some (decide ((l.length : Int) ≤ 12))) (by
      intro k i hi
      simp only [spec_l7Book.l0]
      rw [if_pos (by omega), if_pos (by omega), l7One_eq, Option.bind_some]
      rfl) (by
      intro k
      simp only [spec_l7Book.l0]
      rw [if_neg (by omega)])
  refine ⟨K, fun k hk => ?_⟩
  have := hK k hk
  simp only [spec_l7Book.f]
  rw [this, allFrom_all]
  unfold bookB
  have e : decide ((l.length : Int) ≤ 12) = decide (l.length ≤ 12) := decide_eq_decide.2 (by omega)
  rw [e]
  cases l.all okE <;> simp
theorem okE_iff {x : EN} (h : okE x = true) : (0 ≤ x.f0 ∧ x.f0 ≤ 7) ∧ (0 ≤ x.f1 ∧ x.f1 ≤ 7) ∧ x.f0 ≠ x.f1 ∧ (1 ≤ x.f2 ∧ x.f2 ≤ 500) ∧ (0 ≤ x.f3 ∧ x.f3 ≤ 359) ∧ (-90 ≤ x.f4 ∧ x.f4 ≤ 90) := by
  unfold okE legB at h
  simp only [Bool.and_eq_true, inR_iff, decide_eq_true_eq] at h
  exact ⟨h.1, h.2.1, h.2.2.1, h.2.2.2.1, h.2.2.2.2.1, h.2.2.2.2.2⟩
theorem book_at {l : List EN} (h : bookB l = true) {i : Nat} (hi : i < l.length) : okE (l.getD i z) = true := by
  unfold bookB at h
  rw [Bool.and_eq_true, List.all_eq_true] at h
  rw [List.getD_eq_getElem?_getD, List.getElem?_eq_getElem hi]
  exact h.1 _ (List.getElem_mem hi)
theorem book_len {l : List EN} (h : bookB l = true) : l.length ≤ 12 := by
  unfold bookB at h
  rw [Bool.and_eq_true, decide_eq_true_eq] at h
  exact h.2
theorem to_ev (l : List LE) (hb : l.length ≤ 140737488351232 / 48) : Ev (fun k => laws_toEntryS.f k l) (l.map cv) := by
  unfold laws_toEntryS.f
  refine Ev.pos (by omega) ?_
  refine Ev.pos (by omega) ?_
  exact copy_all laws_toEntryS.l0 cv z82 _ (fun k x0 x3 x4 => by simp only [laws_toEntryS.l0, laws_toEntry.f, Option.bind_some]; rfl) l (by omega)
theorem same_ev (l : List EN) (hb : l.length ≤ 140737488351232) : Ev (fun k => laws_eqEntryS.f k l l) true := by
  unfold laws_eqEntryS.f
  refine Ev.pos rfl ?_
  exact eq_all laws_eqEntryS.l0 (fun k x0 x4 h0 => by
    simp only [laws_eqEntryS.l0, laws_eqEntry.f, if_true, bne_self_eq_false, Bool.false_eq_true, if_false, Option.bind_some]
    by_cases h : x4 < (x0.length : Int)
    · rw [if_pos h, if_pos h0, if_pos h, if_pos h]
    · rw [if_neg h, if_neg h]) l hb
theorem sz_ev (l : List LE) (hb : l.length ≤ 140737488351232) : laws_szEntryS.f l 1048576 = some (if 1048576 - (l.length : Int) < 0 then -1 else 1048576 - (l.length : Int)) := by
  unfold laws_szEntryS.f
  rw [w64 (by omega) (by omega)]
  split <;> rfl
end Go.Proofs.Ytkiehapaofkmiaa.Book

/- Entries that measure the same leg: the program's and the reference's way to find the first of them. No conditions. -/
namespace Go.Proofs.Ytkiehapaofkmiaa.Book
open Go.RowKit Go.Proofs.YtkiehapaofkmiaaW.PrintWords Go.Proofs.Ytkiehapaofkmiaa.Plain Go.Proofs.Ytkiehapaofkmiaa.A
set_option linter.unusedVariables false
set_option linter.unusedSimpArgs false
abbrev scan := impl_firstOf.scan
def at_ (l : List EN) (i : Nat) : EN := l.getD i z
def firstM (l : List EN) (i : Nat) : Int := scan l (at_ l i) 0 l.length
theorem pair_iff {a b c d : Int} : (a + b = c + d ∧ a * b = c * d) ↔ (a = c ∧ b = d) ∨ (a = d ∧ b = c) := by
  constructor
  · rintro ⟨h1, h2⟩
    have e : (a - c) * (a - d) = 0 := by
      have : b = c + d - a := by omega
      subst this
      grind
    rcases Int.mul_eq_zero.1 e with h | h
    · exact .inl ⟨by omega, by omega⟩
    · exact .inr ⟨by omega, by omega⟩
  · rintro (⟨rfl, rfl⟩ | ⟨rfl, rfl⟩)
    · exact ⟨rfl, rfl⟩
    · exact ⟨by omega, Int.mul_comm _ _⟩
theorem joins_iff (x y : EN) : impl_firstOf.joinsB x y = true ↔ (x.f0 + x.f1 = y.f0 + y.f1 ∧ x.f0 * x.f1 = y.f0 * y.f1) := by
  rw [pair_iff]
  unfold impl_firstOf.joinsB
  simp
theorem implFirst_eq (l : List EN) (i : Nat) (hi : i < l.length) (hb : l.length ≤ 140737488351232) : impl_firstOf.f l (i : Int) = some (firstM l i) := by
  unfold impl_firstOf.f
  rw [if_pos ⟨by omega, by omega, hb⟩]
  rfl
theorem joins_self (x : EN) : impl_firstOf.joinsB x x = true := by
  unfold impl_firstOf.joinsB
  simp
theorem specFirst_ev (l : List EN) (hv : bookB l = true) (i : Nat) (hi : i < l.length) : Ev (fun k => spec_l7First.f k l (i : Int)) (firstM l i) := by
  have hn := book_len hv
  have hy := okE_iff (book_at hv hi)
  have key : ∀ (d j : Nat), j + d = l.length → j ≤ i → Ev (fun k => spec_l7First.l0 k l (i : Int) (j : Int)) (scan l (at_ l i) j d) := by
    intro d
    induction d with
    | zero => intro j hj hji; omega
    | succ d ih =>
      intro j hj hji
      have hx := okE_iff (book_at hv (show j < l.length by omega))
      have ex : rd_T75 l (j : Int) = at_ l j := rfl
      have ey : rd_T75 l (i : Int) = at_ l i := rfl
      replace hx : (0 ≤ (at_ l j).f0 ∧ (at_ l j).f0 ≤ 7) ∧ (0 ≤ (at_ l j).f1 ∧ (at_ l j).f1 ≤ 7) := ⟨hx.1, hx.2.1⟩
      have hy' : (0 ≤ (at_ l i).f0 ∧ (at_ l i).f0 ≤ 7) ∧ (0 ≤ (at_ l i).f1 ∧ (at_ l i).f1 ≤ 7) := ⟨hy.1, hy.2.1⟩
      have m1 := mul_bound (x := (at_ l j).f0) (y := (at_ l j).f1) 7 7 (by omega) (by omega) (by omega) (by omega)
      have m2 := mul_bound (x := (at_ l i).f0) (y := (at_ l i).f1) 7 7 (by omega) (by omega) (by omega) (by omega)
      have b0 : 0 ≤ (j : Int) := by omega
      have b1 : (j : Int) < (l.length : Int) := by omega
      have b2 : 0 ≤ (i : Int) := by omega
      have b3 : (i : Int) < (l.length : Int) := by omega
      have hj1 : j + 1 + d = l.length := by omega
      have hj2 : j ≠ i → j + 1 ≤ i := by omega
      have hle1 : -9223372036854775808 ≤ (j : Int) + 1 ∧ (j : Int) + 1 ≤ 9223372036854775807 := by omega
      have v1 : -9223372036854775808 ≤ (at_ l j).f0 + (at_ l j).f1 ∧ (at_ l j).f0 + (at_ l j).f1 ≤ 9223372036854775807 := by omega
      have v2 : -9223372036854775808 ≤ (at_ l i).f0 + (at_ l i).f1 ∧ (at_ l i).f0 + (at_ l i).f1 ≤ 9223372036854775807 := by omega
      have v3 : -9223372036854775808 ≤ (at_ l j).f0 * (at_ l j).f1 ∧ (at_ l j).f0 * (at_ l j).f1 ≤ 9223372036854775807 := by omega
      have v4 : -9223372036854775808 ≤ (at_ l i).f0 * (at_ l i).f1 ∧ (at_ l i).f0 * (at_ l i).f1 ≤ 9223372036854775807 := by omega
      have e0 : (j : Int) + 1 = ((j + 1 : Nat) : Int) := by omega
      have w1 : wrap64 ((at_ l j).f0 + (at_ l j).f1) = (at_ l j).f0 + (at_ l j).f1 := w64 v1.1 v1.2
      have w2 : wrap64 ((at_ l i).f0 + (at_ l i).f1) = (at_ l i).f0 + (at_ l i).f1 := w64 v2.1 v2.2
      have w3 : wrap64 ((at_ l j).f0 * (at_ l j).f1) = (at_ l j).f0 * (at_ l j).f1 := w64 v3.1 v3.2
      have w4 : wrap64 ((at_ l i).f0 * (at_ l i).f1) = (at_ l i).f0 * (at_ l i).f1 := w64 v4.1 v4.2
      have e : wrap64 ((j : Int) + 1) = ((j + 1 : Nat) : Int) := by rw [w64 hle1.1 hle1.2]; exact e0
      have hjo := joins_iff (at_ l j) (at_ l i)
      have step : ∀ k, spec_l7First.l0 (k + 1) l (i : Int) (j : Int) = if impl_firstOf.joinsB (at_ l j) (at_ l i) = true then some (j : Int) else spec_l7First.l0 k l (i : Int) ((j + 1 : Nat) : Int) := by
        intro k
        simp only [spec_l7First.l0]
        rw [if_pos b0, if_pos b1, if_pos b2, if_pos b3, ex, ey, w1, w2, w3, w4, e]
        by_cases h1 : (at_ l j).f0 + (at_ l j).f1 = (at_ l i).f0 + (at_ l i).f1
        · by_cases h2 : (at_ l j).f0 * (at_ l j).f1 = (at_ l i).f0 * (at_ l i).f1
          · rw [if_pos h1, if_pos h2, if_pos (hjo.2 ⟨h1, h2⟩)]
          · rw [if_pos h1, if_neg h2, if_neg (fun h => h2 (hjo.1 h).2)]
        · rw [if_neg h1, if_neg (fun h => h1 (hjo.1 h).1)]
      have es : scan l (at_ l i) j (d + 1) = if impl_firstOf.joinsB (at_ l j) (at_ l i) = true then (j : Int) else scan l (at_ l i) (j + 1) d := rfl
      rw [es]
      by_cases hc : impl_firstOf.joinsB (at_ l j) (at_ l i) = true
      · refine Ev.step (f := fun _ => some (j : Int)) (fun k => by rw [step, if_pos hc]) ?_
        rw [if_pos hc]
        exact Ev.now _
      · rw [if_neg hc]
        have hne : j ≠ i := fun h => hc (by rw [h]; exact joins_self _)
        exact Ev.step (fun k => by rw [step, if_neg hc]) (ih (j + 1) hj1 (hj2 hne))
  exact key l.length 0 (by omega) (by omega)
/-- The first entry of a leg lies at or ahead of it. -/
theorem scan_le (l : List EN) (i : Nat) : ∀ (d j : Nat), j + d = l.length → j ≤ i → i < l.length → ∃ k : Nat, scan l (at_ l i) j d = (k : Int) ∧ k ≤ i ∧ j ≤ k ∧ impl_firstOf.joinsB (at_ l k) (at_ l i) = true
  | 0, j, hj, hji, hi => by omega
  | d + 1, j, hj, hji, hi => by
    have es : scan l (at_ l i) j (d + 1) = if impl_firstOf.joinsB (at_ l j) (at_ l i) = true then (j : Int) else scan l (at_ l i) (j + 1) d := rfl
    rw [es]
    by_cases hc : impl_firstOf.joinsB (at_ l j) (at_ l i) = true
    · exact ⟨j, by rw [if_pos hc], hji, Nat.le_refl _, hc⟩
    · have hne : j ≠ i := fun h => hc (by rw [h]; exact joins_self _)
      obtain ⟨k, h1, h2, h3, h4⟩ := scan_le l i d (j + 1) (by omega) (by omega) hi
      exact ⟨k, by rw [if_neg hc, h1], h2, by omega, h4⟩
theorem firstM_spec (l : List EN) (i : Nat) (hi : i < l.length) : ∃ k : Nat, firstM l i = (k : Int) ∧ k ≤ i ∧ impl_firstOf.joinsB (at_ l k) (at_ l i) = true := by
  obtain ⟨k, h1, h2, _, h4⟩ := scan_le l i l.length 0 (by omega) (by omega) hi
  exact ⟨k, h1, h2, h4⟩
end Go.Proofs.Ytkiehapaofkmiaa.Book

/- Entries that a law marks and looks at again. No conditions. -/
namespace Go.Proofs.Ytkiehapaofkmiaa.Book
open Go.RowKit Go.Proofs.YtkiehapaofkmiaaW.PrintWords Go.Proofs.Ytkiehapaofkmiaa.Plain Go.Proofs.Ytkiehapaofkmiaa.A
set_option linter.unusedVariables false
set_option linter.unusedSimpArgs false
def mk (a : Int) : EN := ⟨a, a + 1, a + 2, a + 3, a + 4, Int.tmod (a + 5) 3 == 0⟩
theorem rd_set (x : List EN) (i : Nat) (v : EN) (h : i < x.length) : rd_T75 (x.set i v) (i : Int) = v := by
  show (x.set i v).getD i z = v
  simp [List.getD, h]
theorem mark_ev (l : List EN) (a : Int) (hb : l.length ≤ 140737488351232) (h0 : 0 ≤ a) (h1 : a ≤ 1000000000000) : Ev (fun k => laws_markEntryS.f k l a) (a + 6 * l.length, marks mk 6 a l.length) := by
  unfold laws_markEntryS.f
  refine mark_all laws_markEntryS.l0 mk 6 (by omega) (by omega) (fun k x a i hi hx ha hb => ?_) (fun k x a => by simp only [laws_markEntryS.l0]; rw [if_neg (by omega)]) l a hb h0 h1
  simp only [laws_markEntryS.l0, Option.bind_some, Int.toNat_natCast]
  rw [if_pos (by omega), if_pos (by omega), w64 (x := a + 1) (by omega) (by omega), w64 (x := a + 1 + 1) (by omega) (by omega), w64 (x := a + 1 + 1 + 1) (by omega) (by omega), w64 (x := a + 1 + 1 + 1 + 1) (by omega) (by omega), w64 (x := a + 1 + 1 + 1 + 1 + 1) (by omega) (by omega),
    w64 (x := a + 1 + 1 + 1 + 1 + 1 + 1) (by omega) (by omega), w64 (x := (i : Int) + 1) (by omega) (by omega)]
  simp only [rd_set, List.set_set, List.length_set, hi]
  congr 1
  · unfold mk
    rw [show a + 1 + 1 = a + 2 by omega, show a + 2 + 1 = a + 3 by omega, show a + 3 + 1 = a + 4 by omega, show a + 4 + 1 = a + 5 by omega]
  · omega
theorem held_ev (n : Nat) (a : Int) (hb : n ≤ 140737488351232) (h0 : 0 ≤ a) (h1 : a ≤ 1000000000000) : Ev (fun k => laws_heldEntryS.f k (marks mk 6 a n) a) (a + 6 * n) := by
  unfold laws_heldEntryS.f
  refine held_all laws_heldEntryS.l0 mk z 6 (by omega) (by omega) (fun k x a i hi hx ha hb he => ?_) (fun k x a => by simp only [laws_heldEntryS.l0]; rw [if_neg (by omega)]) n a hb h0 h1
  have e : rd_T75 x (i : Int) = mk a := he
  simp only [laws_heldEntryS.l0]
  rw [if_pos (by omega), if_pos (by omega), w64 (x := a + 1) (by omega) (by omega), w64 (x := a + 1 + 1) (by omega) (by omega), w64 (x := a + 1 + 1 + 1) (by omega) (by omega), w64 (x := a + 1 + 1 + 1 + 1) (by omega) (by omega), w64 (x := a + 1 + 1 + 1 + 1 + 1) (by omega) (by omega),
    w64 (x := a + 1 + 1 + 1 + 1 + 1 + 1) (by omega) (by omega), w64 (x := (i : Int) + 1) (by omega) (by omega), e]
  have e5 : a + 1 + 1 + 1 + 1 + 1 = a + 5 := by omega
  have p0 : (mk a).f0 = a := rfl
  have p1 : (mk a).f1 = a + 1 := rfl
  have p2 : (mk a).f2 = a + 2 := rfl
  have p3 : (mk a).f3 = a + 3 := rfl
  have p4 : (mk a).f4 = a + 4 := rfl
  rw [p0, p1, p2, p3, p4, if_pos rfl, if_pos rfl, if_pos (show a + 2 = a + 1 + 1 by omega), if_pos (show a + 3 = a + 1 + 1 + 1 by omega), if_pos (show a + 4 = a + 1 + 1 + 1 + 1 by omega), e5, if_neg (by simp [mk])]
  congr 1 <;> omega
end Go.Proofs.Ytkiehapaofkmiaa.Book

/- Slices of ints that a law copies, compares, marks and looks at again. No conditions. -/
namespace Go.Proofs.Ytkiehapaofkmiaa.Ints
open Go.RowKit Go.Proofs.YtkiehapaofkmiaaW.PrintWords Go.Proofs.Ytkiehapaofkmiaa.Plain Go.Proofs.Ytkiehapaofkmiaa.A
set_option linter.unusedVariables false
set_option linter.unusedSimpArgs false
theorem toInt_ev (l : List Int) (hb : l.length ≤ 35184372088832) : Ev (fun k => laws_toIntS.f k l) l := by
  unfold laws_toIntS.f
  refine Ev.pos (by omega) ?_
  refine Ev.pos (by omega) ?_
  have := copy_all laws_toIntS.l0 (fun x : Int => x) 0 0 (fun k x0 x3 x4 => by simp only [laws_toIntS.l0]; rfl) l (by omega)
  simpa using this
theorem eqInt_ev (l : List Int) (hb : l.length ≤ 140737488351232) : Ev (fun k => laws_eqIntS.f k l l) true := by
  unfold laws_eqIntS.f
  refine Ev.pos rfl ?_
  exact eq_all laws_eqIntS.l0 (fun k x0 x4 h0 => by
    simp only [laws_eqIntS.l0, if_true]
    by_cases h : x4 < (x0.length : Int)
    · rw [if_pos h, if_pos h0, if_pos h, if_pos h]
    · rw [if_neg h, if_neg h]) l hb
/-- a, a + 1, .. -/
def from_ : Int → Nat → List Int
  | _, 0 => []
  | a, n + 1 => a :: from_ (a + 1) n
theorem from_length : ∀ (n : Nat) (a : Int), (from_ a n).length = n
  | 0, _ => rfl
  | n + 1, a => by rw [from_, List.length_cons, from_length n]
theorem from_snoc : ∀ (n : Nat) (a : Int), from_ a (n + 1) = from_ a n ++ [a + n]
  | 0, a => by simp [from_]
  | n + 1, a => by
    rw [from_, from_snoc n (a + 1), from_]
    simp
    omega
theorem from_get : ∀ (n : Nat) (a : Int) (i : Nat), i < n → (from_ a n).getD i 0 = a + i
  | 0, _, _, h => by omega
  | n + 1, a, 0, _ => by simp [from_]
  | n + 1, a, i + 1, h => by
    rw [from_, List.getD_cons_succ, from_get n (a + 1) i (by omega)]
    omega
theorem mark_ev (l : List Int) (a : Int) (hb : l.length ≤ 140737488351232) (h0 : 0 ≤ a) (h1 : a ≤ 1000000000000) : Ev (fun k => laws_markIntS.f k l a) (a + l.length, from_ a l.length) := by
  have key : ∀ (d i : Nat) (x : List Int), x.length = l.length → i + d = l.length → x.take i = from_ a i → Ev (fun k => laws_markIntS.l0 k x (a + i) (i : Int)) (a + l.length, from_ a l.length) := by
    intro d
    induction d with
    | zero =>
      intro i x hx hi ht
      obtain rfl : i = l.length := by omega
      refine Ev.step (f := fun _ => some (a + (l.length : Int), x)) (fun k => by simp only [laws_markIntS.l0]; rw [if_neg (by omega)]) ?_
      rw [List.take_of_length_le (by omega)] at ht
      rw [ht]
      exact Ev.now _
    | succ d ih =>
      intro i x hx hi ht
      have hil : i < x.length := by omega
      refine Ev.step (f := fun k => laws_markIntS.l0 k (x.set i (a + i)) (a + ((i + 1 : Nat) : Int)) ((i + 1 : Nat) : Int)) (fun k => by
        simp only [laws_markIntS.l0]
        rw [if_pos (by omega), if_pos (by omega), w64 (by omega) (by omega), w64 (by omega) (by omega), Int.toNat_natCast]
        congr 1
        omega) ?_
      refine ih (i + 1) _ (by simpa using hx) (by omega) ?_
      rw [List.take_succ_eq_append_getElem (by simpa using hil), List.take_set_of_le (by omega), ht, from_snoc]
      simp
  have := key l.length 0 l rfl (by omega) rfl
  unfold laws_markIntS.f
  simpa using this
theorem held_ev (n : Nat) (a : Int) (hb : n ≤ 140737488351232) (h0 : 0 ≤ a) (h1 : a ≤ 1000000000000) : Ev (fun k => laws_heldIntS.f k (from_ a n) a) (a + n) := by
  have key : ∀ (d i : Nat), i + d = n → Ev (fun k => laws_heldIntS.l0 k (from_ a n) (a + i) (i : Int)) (a + n) := by
    intro d
    induction d with
    | zero =>
      intro i hi
      obtain rfl : i = n := by omega
      exact Ev.step (f := fun _ => some (a + (i : Int))) (fun k => by simp only [laws_heldIntS.l0]; rw [if_neg (by rw [from_length]; omega)]) (Ev.now _)
    | succ d ih =>
      intro i hi
      have e : rd (from_ a n) (i : Int) = a + i := from_get n a i (by omega)
      refine Ev.step (f := fun k => laws_heldIntS.l0 k (from_ a n) (a + ((i + 1 : Nat) : Int)) ((i + 1 : Nat) : Int)) (fun k => by
        simp only [laws_heldIntS.l0]
        rw [if_pos (by rw [from_length]; omega), if_pos (by omega), if_pos e, w64 (by omega) (by omega), w64 (by omega) (by omega)]
        congr 1
        omega) (ih (i + 1) (by omega))
  have := key n 0 (by omega)
  unfold laws_heldIntS.f
  simpa using this
end Go.Proofs.Ytkiehapaofkmiaa.Ints

/- The law FnExactPairErrors, as a plain statement: the program's PairErrors answers what the reference's answers. Conditions: those of the row's own reading. -/
namespace Go.Proofs.Ytkiehapaofkmiaa.Book
open Go.RowKit Go.Proofs.YtkiehapaofkmiaaW.PrintWords Go.Proofs.Ytkiehapaofkmiaa.Plain Go.Proofs.Ytkiehapaofkmiaa.A
set_option linter.unusedVariables false
set_option linter.unusedSimpArgs false
def cO (x : EN) : Int := if x.f5 = true then (x.f3 + 180) % 360 else x.f3
def sO (x : EN) : Int := if x.f5 = true then -x.f4 else x.f4
theorem cO_bound {x : EN} (h : okE x = true) : 0 ≤ cO x ∧ cO x ≤ 359 := by
  have := okE_iff h
  unfold cO
  split <;> omega
theorem sO_bound {x : EN} (h : okE x = true) : -90 ≤ sO x ∧ sO x ≤ 90 := by
  have := okE_iff h
  unfold sO
  split <;> omega
theorem fw_impl {x : EN} (h : okE x = true) : impl_Entry_forwards.f x.f0 x.f1 x.f2 x.f3 x.f4 x.f5 = some (x.f0, x.f1, x.f2, cO x, sO x) := by
  have := okE_iff h
  unfold impl_Entry_forwards.f cO sO
  by_cases h5 : x.f5 = true
  · rw [if_pos h5, if_pos h5, if_pos h5, w64 (x := x.f3 + 180) (by omega) (by omega), w64 (x := -x.f4) (by omega) (by omega), Int.tmod_eq_emod_of_nonneg (by omega)]
  · rw [if_neg h5, if_neg h5, if_neg h5]
theorem fw_spec {x : EN} (h : okE x = true) : spec_l7Leg.f x.f0 x.f1 x.f2 x.f3 x.f4 x.f5 = some (x.f0, x.f1, x.f2, cO x, sO x) := fw_impl h
def absI (x : Int) : Int := if x < 0 then -x else x
def cB (a b : EN) : Int := if b.f0 = a.f0 then cO b else (cO b + 180) % 360
def sB (a b : EN) : Int := if b.f0 = a.f0 then sO b else -sO b
def tn (a b : EN) : Int := if absI (cO a - cB a b) < 360 - absI (cO a - cB a b) then absI (cO a - cB a b) else 360 - absI (cO a - cB a b)
def agr (a b : EN) : Bool := decide (tn a b ≤ 2) && (decide (absI (sO a - sB a b) ≤ 2) && decide (absI (a.f2 - b.f2) ≤ 2))
theorem abs_eq (x : Int) (h1 : -1000 ≤ x) (h2 : x ≤ 1000) : impl_absolute.f x = some (absI x) := by
  unfold impl_absolute.f
  rw [w64 (by omega) (by omega)]
  congr 1
  unfold mx absI
  split <;> split <;> omega
theorem turn_eq (a b : Int) (h1 : 0 ≤ a ∧ a ≤ 359) (h2 : 0 ≤ b ∧ b ≤ 359) : impl_turn.f a b = some (if absI (a - b) < 360 - absI (a - b) then absI (a - b) else 360 - absI (a - b)) := by
  unfold impl_turn.f
  rw [w64 (x := a - b) (by omega) (by omega), abs_eq _ (by omega) (by omega), Option.bind_some]
  have hb : 0 ≤ absI (a - b) ∧ absI (a - b) ≤ 359 := by unfold absI; split <;> omega
  generalize absI (a - b) = t at *
  rw [w64 (by omega) (by omega)]
  congr 1
  unfold mn
  split <;> split <;> omega
theorem cB_bound {a b : EN} (h : okE b = true) : 0 ≤ cB a b ∧ cB a b ≤ 359 := by
  have := cO_bound h
  unfold cB
  split <;> omega
theorem sB_bound {a b : EN} (h : okE b = true) : -90 ≤ sB a b ∧ sB a b ≤ 90 := by
  have := sO_bound h
  unfold sB
  split <;> omega
theorem agree_eq {a b : EN} (ha : okE a = true) (hb : okE b = true) : impl_agree.f a.f0 a.f1 a.f2 (cO a) (sO a) b.f0 b.f1 b.f2 (cO b) (sO b) 2 2 = some (agr a b) := by
  have a1 := cO_bound ha
  have a2 := sO_bound ha
  have a3 := okE_iff ha
  have b1 := cO_bound hb
  have b2 := sO_bound hb
  have b3 := okE_iff hb
  have c1 := cB_bound (a := a) hb
  have c2 := sB_bound (a := a) hb
  have key : ∀ (c s : Int), c = cB a b → s = sB a b → ((impl_turn.f (cO a) c).bind fun t => if t ≤ 2 then ((impl_absolute.f (wrap64 (sO a - s))).bind fun t => if t ≤ 2 then ((impl_absolute.f (wrap64 (a.f2 - b.f2))).bind fun t => some (decide (t ≤ 2))) else some false) else some false) = some (agr a b) := by
    rintro c s rfl rfl
    rw [turn_eq _ _ a1 c1, Option.bind_some, w64 (x := sO a - sB a b) (by omega) (by omega), w64 (x := a.f2 - b.f2) (by omega) (by omega), abs_eq _ (by omega) (by omega), abs_eq _ (by omega) (by omega), Option.bind_some, Option.bind_some]
    show (if tn a b ≤ 2 then _ else _) = _
    unfold agr
    by_cases h1 : tn a b ≤ 2
    · by_cases h2 : absI (sO a - sB a b) ≤ 2
      · simp [h1, h2]
      · simp [h1, h2]
    · simp [h1]
  unfold impl_agree.f
  by_cases h : b.f0 = a.f0
  · rw [if_pos h]
    exact key (cO b) (sO b) (by unfold cB; rw [if_pos h]) (by unfold sB; rw [if_pos h])
  · rw [if_neg h]
    simp only [impl_Leg_reverse.f, impl_back.f, Option.bind_some]
    rw [w64 (x := cO b + 180) (by omega) (by omega), w64 (x := -sO b) (by omega) (by omega), Int.tmod_eq_emod_of_nonneg (by omega)]
    exact key _ _ (by unfold cB; rw [if_neg h]) (by unfold sB; rw [if_neg h])
theorem apart_eq (a b : Int) (h1 : -1000 ≤ a ∧ a ≤ 1000) (h2 : -1000 ≤ b ∧ b ≤ 1000) : spec_l7Apart.f a b = some (absI (a - b)) := by
  unfold spec_l7Apart.f spec_l1Most.f
  rw [w64 (x := a - b) (by omega) (by omega), w64 (x := b - a) (by omega) (by omega)]
  unfold absI
  by_cases h : a - b > b - a
  · rw [if_pos h, if_neg (by omega)]
    rfl
  · rw [if_neg h]
    show some (b - a) = _
    by_cases h' : a - b < 0
    · rw [if_pos h']
      congr 1
      omega
    · rw [if_neg h']
      congr 1
      omega
theorem turned_self {a : EN} (ha : okE a = true) : spec_l7Turned.f a.f0 a.f1 a.f2 a.f3 a.f4 a.f5 a.f0 = some (a.f0, a.f1, a.f2, cO a, sO a) := by
  unfold spec_l7Turned.f
  rw [fw_spec ha, Option.bind_some, if_pos rfl]
theorem turned_other {a b : EN} (hb : okE b = true) : ∃ u v : Int, spec_l7Turned.f b.f0 b.f1 b.f2 b.f3 b.f4 b.f5 a.f0 = some (u, v, b.f2, cB a b, sB a b) := by
  have b1 := cO_bound hb
  have b2 := sO_bound hb
  unfold spec_l7Turned.f
  rw [fw_spec hb, Option.bind_some]
  unfold cB sB
  by_cases h : b.f0 = a.f0
  · exact ⟨_, _, by rw [if_pos h, if_pos h, if_pos h]⟩
  · exact ⟨_, _, by rw [if_neg h, if_neg h, if_neg h, w64 (x := cO b + 180) (by omega) (by omega), w64 (x := -sO b) (by omega) (by omega), Int.tmod_eq_emod_of_nonneg (by omega)]⟩
def firstN (l : List EN) (i : Nat) : EN := at_ l (firstM l i).toNat
def errs (l : List EN) : Nat → Nat → List Int → List Int
  | _, 0, acc => acc
  | i, d + 1, acc => if agr (firstN l i) (at_ l i) = true then errs l (i + 1) d acc else errs l (i + 1) d (acc ++ [(i : Int)])
def errsM (l : List EN) : List Int × Bool := if bookB l = true then (errs l 0 l.length [], true) else ([], false)
theorem errsImpl (l : List EN) (hv : bookB l = true) : ∀ (d i : Nat) (acc : List Int), i + d = l.length → acc.length ≤ i → Ev (fun k => impl_PairErrors.l0 k l acc l (l.length : Int) (i : Int)) (errs l i d acc, true) := by
  have hn := book_len hv
  intro d
  induction d with
  | zero =>
    intro i acc hi ha
    exact Ev.step (f := fun _ => some (acc, true)) (fun k => by simp only [impl_PairErrors.l0]; rw [if_neg (by omega)]) (Ev.now _)
  | succ d ih =>
    intro i acc hi ha
    have hil : i < l.length := by omega
    obtain ⟨q, hq, hqi, _⟩ := firstM_spec l i hil
    have b0 : 0 ≤ (i : Int) := by omega
    have b1 : (i : Int) < (l.length : Int) := by omega
    have b2 : acc.length < 17592186044416 := by omega
    have b3 : 0 ≤ (q : Int) := by omega
    have b4 : (q : Int) < (l.length : Int) := by omega
    have b5 : q < l.length := by omega
    have g1 : i + 1 + d = l.length := by omega
    have g2 : acc.length ≤ i + 1 := by omega
    have g3 : (acc ++ [(i : Int)]).length ≤ i + 1 := by rw [List.length_append, List.length_singleton]; omega
    have ex : rd_T75 l (i : Int) = at_ l i := rfl
    have ey : rd_T75 l (q : Int) = at_ l q := rfl
    have ef := implFirst_eq l i hil (by omega)
    have eN : firstN l i = at_ l q := by unfold firstN; rw [hq]; rfl
    have e : wrap64 ((i : Int) + 1) = ((i + 1 : Nat) : Int) := by rw [w64 (by omega) (by omega)]; omega
    have va := book_at hv b5
    have vb := book_at hv hil
    rw [hq] at ef
    rw [errs, eN]
    have step : ∀ k, impl_PairErrors.l0 (k + 1) l acc l (l.length : Int) (i : Int) = if agr (at_ l q) (at_ l i) = true then impl_PairErrors.l0 k l acc l (l.length : Int) ((i + 1 : Nat) : Int) else impl_PairErrors.l0 k l (acc ++ [(i : Int)]) l (l.length : Int) ((i + 1 : Nat) : Int) := by
      intro k
      simp only [impl_PairErrors.l0]
      rw [if_pos b1, if_pos b0, if_pos b1, ef, Option.bind_some, if_pos b3, if_pos b4, ex, ey, fw_impl (x := at_ l q) va, Option.bind_some, fw_impl (x := at_ l i) vb, Option.bind_some, agree_eq (a := at_ l q) (b := at_ l i) va vb, Option.bind_some, if_pos b2, e]
    by_cases hc : agr (at_ l q) (at_ l i) = true
    · rw [if_pos hc]
      exact Ev.step (fun k => by rw [step, if_pos hc]) (ih (i + 1) acc g1 g2)
    · rw [if_neg hc]
      exact Ev.step (fun k => by rw [step, if_neg hc]) (ih (i + 1) (acc ++ [(i : Int)]) g1 g3)
theorem errsSpec (l : List EN) (hv : bookB l = true) : ∀ (d i : Nat) (acc : List Int), i + d = l.length → acc.length ≤ i → Ev (fun k => spec_PairErrors.l0 k l acc (i : Int)) (errs l i d acc, true) := by
  have hn := book_len hv
  intro d
  induction d with
  | zero =>
    intro i acc hi ha
    exact Ev.step (f := fun _ => some (acc, true)) (fun k => by simp only [spec_PairErrors.l0]; rw [if_neg (by omega)]) (Ev.now _)
  | succ d ih =>
    intro i acc hi ha
    have hil : i < l.length := by omega
    obtain ⟨q, hq, hqi, _⟩ := firstM_spec l i hil
    have b0 : 0 ≤ (i : Int) := by omega
    have b1 : (i : Int) < (l.length : Int) := by omega
    have b2 : acc.length < 17592186044416 := by omega
    have b3 : 0 ≤ (q : Int) := by omega
    have b4 : (q : Int) < (l.length : Int) := by omega
    have b5 : q < l.length := by omega
    have g1 : i + 1 + d = l.length := by omega
    have g2 : acc.length ≤ i + 1 := by omega
    have g3 : (acc ++ [(i : Int)]).length ≤ i + 1 := by rw [List.length_append, List.length_singleton]; omega
    have ex : rd_T75 l (i : Int) = at_ l i := rfl
    have ey : rd_T75 l (q : Int) = at_ l q := rfl
    have eN : firstN l i = at_ l q := by unfold firstN; rw [hq]; rfl
    have va : okE (at_ l q) = true := book_at hv b5
    have vb : okE (at_ l i) = true := book_at hv hil
    obtain ⟨K1, h1⟩ := specFirst_ev l hv i hil
    dsimp only at h1
    rw [hq] at h1
    rw [errs, eN]
    obtain ⟨u, v, ho⟩ := turned_other (a := at_ l q) vb
    have a1 := cO_bound va
    have a2 := sO_bound va
    have a3 := okE_iff va
    have c1 := cB_bound (a := at_ l q) vb
    have c2 := sB_bound (a := at_ l q) vb
    have c3 := okE_iff vb
    have p1 := apart_eq (cO (at_ l q)) (cB (at_ l q) (at_ l i)) (by omega) (by omega)
    have p2 := apart_eq (at_ l q).f2 (at_ l i).f2 (by omega) (by omega)
    have p3 := apart_eq (sO (at_ l q)) (sB (at_ l q) (at_ l i)) (by omega) (by omega)
    have hb : 0 ≤ absI (cO (at_ l q) - cB (at_ l q) (at_ l i)) ∧ absI (cO (at_ l q) - cB (at_ l q) (at_ l i)) ≤ 359 := by unfold absI; split <;> omega
    have pl : spec_l1Least.f (absI (cO (at_ l q) - cB (at_ l q) (at_ l i))) (wrap64 (360 - absI (cO (at_ l q) - cB (at_ l q) (at_ l i)))) = some (tn (at_ l q) (at_ l i)) := by
      rw [w64 (by omega) (by omega)]
      unfold spec_l1Least.f tn
      split <;> rfl
    have e : wrap64 ((i : Int) + 1) = ((i + 1 : Nat) : Int) := by rw [w64 (by omega) (by omega)]; omega
    have step : ∀ k, K1 ≤ k → spec_PairErrors.l0 (k + 1) l acc (i : Int) = if agr (at_ l q) (at_ l i) = true then spec_PairErrors.l0 k l acc ((i + 1 : Nat) : Int) else spec_PairErrors.l0 k l (acc ++ [(i : Int)]) ((i + 1 : Nat) : Int) := by
      intro k hk
      simp only [spec_PairErrors.l0]
      rw [if_pos b1, h1 k hk, Option.bind_some, if_pos b3, if_pos b4, ey, turned_self va, Option.bind_some, if_pos b0, ex, ho, Option.bind_some, p1, Option.bind_some, p2, Option.bind_some, if_pos b2, pl, Option.bind_some, p3, Option.bind_some, e]
      unfold agr
      by_cases t1 : absI ((at_ l q).f2 - (at_ l i).f2) ≤ 2
      · rw [if_neg (show ¬ absI ((at_ l q).f2 - (at_ l i).f2) > 2 from Int.not_lt.2 t1)]
        by_cases t2 : tn (at_ l q) (at_ l i) ≤ 2
        · rw [if_neg (show ¬ tn (at_ l q) (at_ l i) > 2 from Int.not_lt.2 t2)]
          by_cases t3 : absI (sO (at_ l q) - sB (at_ l q) (at_ l i)) ≤ 2
          · rw [if_neg (show ¬ absI (sO (at_ l q) - sB (at_ l q) (at_ l i)) > 2 from Int.not_lt.2 t3)]
            simp [t1, t2, t3]
          · rw [if_pos (show absI (sO (at_ l q) - sB (at_ l q) (at_ l i)) > 2 from Int.not_le.1 t3)]
            simp [t3]
        · rw [if_pos (show tn (at_ l q) (at_ l i) > 2 from Int.not_le.1 t2)]
          simp [t2]
      · rw [if_pos (show absI ((at_ l q).f2 - (at_ l i).f2) > 2 from Int.not_le.1 t1)]
        simp [t1]
    clear e pl
    by_cases hc : agr (at_ l q) (at_ l i) = true
    · rw [if_pos hc]
      obtain ⟨K2, h2⟩ := ih (i + 1) acc g1 g2
      refine ⟨max K1 K2 + 1, fun k hk => ?_⟩
      obtain ⟨k, rfl⟩ : ∃ m, k = m + 1 := ⟨k - 1, by omega⟩
      dsimp only
      rw [step k (by omega), if_pos hc]
      exact h2 k (by omega)
    · rw [if_neg hc]
      obtain ⟨K2, h2⟩ := ih (i + 1) (acc ++ [(i : Int)]) g1 g3
      refine ⟨max K1 K2 + 1, fun k hk => ?_⟩
      obtain ⟨k, rfl⟩ : ∃ m, k = m + 1 := ⟨k - 1, by omega⟩
      dsimp only
      rw [step k (by omega), if_neg hc]
      exact h2 k (by omega)
theorem implErrs_ev (l : List EN) (hb : l.length ≤ 140737488351232) : Ev (fun k => impl_PairErrors.f k l) (errsM l) := by
  unfold impl_PairErrors.f errsM
  refine Ev.bindc (isBook_eq l) ?_
  exact Ev.ite (fun hv => errsImpl l hv l.length 0 [] (by omega) (by simp)) (fun _ => Ev.now _)
theorem specErrs_ev (l : List EN) (hb : l.length ≤ 140737488351232) : Ev (fun k => spec_PairErrors.f k l) (errsM l) := by
  unfold spec_PairErrors.f errsM
  refine Ev.bindc rfl ?_
  refine Ev.bind (l7Book_ev l hb) ?_
  exact Ev.ite (fun hv => errsSpec l hv l.length 0 [] (by omega) (by simp)) (fun _ => Ev.now _)
theorem errs_length (l : List EN) : ∀ (d i : Nat) (acc : List Int), (errs l i d acc).length ≤ acc.length + d
  | 0, i, acc => by simp [errs]
  | d + 1, i, acc => by
    rw [errs]
    split
    · have := errs_length l d (i + 1) acc
      omega
    · have := errs_length l d (i + 1) (acc ++ [(i : Int)])
      rw [List.length_append, List.length_singleton] at this
      omega
theorem errsM_length (l : List EN) : (errsM l).1.length ≤ 12 := by
  unfold errsM
  split
  · rename_i hv
    have := book_len hv
    have := errs_length l l.length 0 []
    simp at this
    show (errs l 0 l.length []).length ≤ 12
    omega
  · simp
end Go.Proofs.Ytkiehapaofkmiaa.Book
namespace Go.Proofs.Ytkiehapaofkmiaa.Pure
open Go.RowKit Go.Proofs.YtkiehapaofkmiaaW.PrintWords Go.Proofs.Ytkiehapaofkmiaa.Plain Go.Proofs.Ytkiehapaofkmiaa.A Go.Proofs.Ytkiehapaofkmiaa.Book Go.Proofs.Ytkiehapaofkmiaa.Ints
theorem FnExactPairErrors (l : List LE) (hb : l.length * 48 ≤ 140737488351232) (_ : ∀ x ∈ l, (Lit.int .i64 x.f0).wf = true ∧ (Lit.int .i64 x.f1).wf = true ∧ (Lit.int .i64 x.f2).wf = true ∧ (Lit.int .i64 x.f3).wf = true ∧ (Lit.int .i64 x.f4).wf = true) : ∃ k, laws_FnExactPairErrors.f k l = some true := by
  have hs := Book.sz_ev l (by omega)
  by_cases c3 : 1048576 - (l.length : Int) < 0
  · refine ⟨0, ?_⟩
    rw [laws_FnExactPairErrors.f, hs, if_pos c3]
    rfl
  rw [if_neg c3] at hs
  obtain ⟨K1, h1⟩ := Book.to_ev l (by omega)
  obtain ⟨K2, h2⟩ := specErrs_ev (l.map cv) (by simp; omega)
  obtain ⟨K3, h3⟩ := implErrs_ev (l.map cv) (by simp; omega)
  have hr := errsM_length (l.map cv)
  generalize errsM (l.map cv) = r at *
  obtain ⟨out, ok⟩ := r
  simp only at hr
  obtain ⟨K4, h4⟩ := eqInt_ev out (by omega)
  obtain ⟨K5, h5⟩ := Book.same_ev (l.map cv) (by simp; omega)
  obtain ⟨K6, h6⟩ := Book.mark_ev (l.map cv) 1 (by simp; omega) (by omega) (by omega)
  obtain ⟨K7, h7⟩ := Ints.mark_ev out 1 (by omega) (by omega) (by omega)
  obtain ⟨K8, h8⟩ := Ints.held_ev out.length 1 (by omega) (by omega) (by omega)
  obtain ⟨K, hK⟩ : ∃ K, K = K1 + K2 + K3 + K4 + K5 + K6 + K7 + K8 := ⟨_, rfl⟩
  dsimp only at h1 h2 h3 h4 h5 h6 h7 h8
  refine ⟨K + 1 + 1 + 1, ?_⟩
  have c4 : ¬ (1 + 6 * ((l.map cv).length : Int) < 0) := by omega
  have c5 : ¬ ((1 : Int) + (out.length : Int) < 0) := by omega
  simp (discharger := omega) only [laws_FnExactPairErrors.f, hs, h1, h2, h3, h4, Option.bind_some, if_neg c3, if_true, bne_self_eq_false]
  simp (discharger := omega) only [laws_FnExactPairErrors.j0, h1, h4, h5, h6, Option.bind_some, if_neg c4, if_true, bne_self_eq_false, Bool.false_eq_true, if_false]
  simp (discharger := omega) only [laws_FnExactPairErrors.j1, h7, h8, h1, h3, h4, Option.bind_some, if_neg c5, if_true, bne_self_eq_false, Bool.false_eq_true, if_false]
  simp (discharger := omega) only [laws_FnExactPairErrors.j2, h8, Option.bind_some, if_neg c5, if_true, Bool.false_eq_true, if_false]
end Go.Proofs.Ytkiehapaofkmiaa.Pure

/- General laws by which a law's arguments are opened: a slice of structs whose fields are integers or bools, as a row of the print's kinds; a struct by value. No conditions. -/
namespace Go.Proofs.Ytkiehapaofkmiaa.Opens
open Go.ChangeShapes Go.WideShapes Go.Deep Go.RowKit Go.Proofs.YtkiehapaofkmiaaW.PrintWords

theorem list_of {α : Type} {P : Nat → α → Prop} : ∀ (n : Nat), (∀ i, i < n → ∃ x, P i x) → ∃ xs : List α, xs.length = n ∧ ∀ i x, xs[i]? = some x → P i x
  | 0, _ => ⟨[], rfl, fun i x h => by simp at h⟩
  | n + 1, h => by
    obtain ⟨xs, hl, hx⟩ := list_of n (fun i hi => h i (Nat.lt_succ_of_lt hi))
    obtain ⟨y, hy⟩ := h n (Nat.lt_succ_self n)
    refine ⟨xs ++ [y], by simp [hl], fun i x hi => ?_⟩
    by_cases hlt : i < xs.length
    · rw [List.getElem?_append_left hlt] at hi
      exact hx i x hi
    · rw [List.getElem?_append_right (by omega)] at hi
      have h0 : i - xs.length = 0 := by
        have := (List.getElem?_eq_some_iff.1 hi).1
        simp at this
        omega
      rw [h0] at hi
      simp at hi
      subst hi
      have : i = n := by omega
      subst this
      exact hy

section
variable {H : Type} {enc : TypeId × Value → H} {P : Program} {w : World} {base : Nat} {spare : Nat → Bool} {held : Bool}
/-- A slice of structs, opened: the list of what its elements are, each by the kind's own reading. -/
theorem open_row {α : Type} (d : Kd α) {Q : α → Prop} {t e : TypeId} {a : Option Addr} {len cap : Nat} {dd : DataW H} {ps : List MemPlace} (ht : P.underlying t = some (.slice e)) (hC : P.cellsOf e = d.sz)
    (hd : ∀ n cs y, DataW.trod enc P w base spare held n e cs = some y → ∃ x, d.K w x cs ∧ Q x)
    (h : DataW.Trod enc P w base spare held t (.slice a len cap) dd ps) : ∃ xs : List α, xs.length = len ∧ len ≤ cap ∧ d.C w a len xs ∧ ∀ x ∈ xs, Q x := by
  obtain ⟨fuel, hf⟩ := h
  rcases open_slice ht hf with ⟨hcs, _⟩ | ⟨x, l, c, m, n, D, Pl, hcs, _, hl, hm, hmm, _, hi⟩
  · simp [Value.cells] at hcs
    obtain ⟨rfl, rfl, rfl⟩ := hcs
    exact ⟨[], rfl, Nat.le_refl _, ⟨rfl, by omega, fun h => by omega⟩, fun x hx => by simp at hx⟩
  · simp [Value.cells] at hcs
    obtain ⟨rfl, rfl, rfl⟩ := hcs
    have hle : len ≤ m := by subst hmm; split <;> omega
    obtain ⟨xs, hxl, hx⟩ := list_of (P := fun i (z : α) => Q z ∧ ∃ cs, d.K w z cs ∧ w.cells? base (x.add (i * d.sz)) d.sz = some cs) len (fun i hil => by
      obtain ⟨cs, h1, h2⟩ := hi i (by omega)
      rw [hC] at h1
      obtain ⟨z, h3, h4⟩ := hd _ _ _ h2
      exact ⟨z, h4, cs, h3, h1⟩)
    refine ⟨xs, hxl, hl, ⟨hxl, by unfold maxLen at hm; omega, fun _ => ⟨x, rfl, fun j p hp => ?_⟩⟩, fun z hz => ?_⟩
    · obtain ⟨_, cs, h1, h2⟩ := hx j p hp
      obtain ⟨_, hlen, hat⟩ := World.cells?_some h2
      refine ⟨cs, hlen, h1, fun i u hu => ?_⟩
      have hil : i < d.sz := by have := (List.getElem?_eq_some_iff.1 hu).1; omega
      rw [← Go.Deep.add_add, hat i hil, hu]
    · obtain ⟨j, hj⟩ := List.getElem?_of_mem hz
      exact (hx j z hj).1

theorem sized_row {t e : TypeId} {a : Option Addr} {len cap : Nat} {d : DataW H} {ps : List MemPlace} {ts : List TypeId} {ds : List (DataW H)} {j : Nat}
    (hsz : (DataW.weightsEach P ts ds).all (· ≤ reachBytes) = true) (ht : ts[j]? = some t) (hd : ds[j]? = some d) (hu : P.underlying t = some (.slice e)) {B : Nat} (hB : P.bytesOf e = B)
    (h : DataW.Trod enc P w base spare held t (.slice a len cap) d ps) : len * B ≤ 140737488351232 := by
  obtain ⟨fuel, hf⟩ := h
  rcases open_slice hu hf with ⟨hcs, _⟩ | ⟨x, l, c, m, n, D, Pl, hcs, _, hl, hm, hmm, hx, hi⟩
  · simp [Value.cells] at hcs
    obtain ⟨rfl, rfl, rfl⟩ := hcs
    simp
  · simp [Value.cells] at hcs
    obtain ⟨rfl, rfl, rfl⟩ := hcs
    obtain ⟨hx, _⟩ := Prod.mk.inj hx
    subst hx
    have z := sized_slice hsz ht hd hu
    rw [hB] at z
    simp only [List.length_map, List.length_range] at z
    have hle : len ≤ m := by subst hmm; split <;> omega
    rw [show len + (m - len) = m by omega] at z
    exact Nat.le_trans (Nat.mul_le_mul_right _ hle) z

theorem one_field {f : Field} {cs : List Value} {o c : Nat} (ho : f.offset = o) (hc : P.cellsOf f.type = c) {n : Nat} {y : Option (DataW H × List MemPlace)} (h : DataW.trod enc P w base spare held n f.type ((cs.drop f.offset).take (P.cellsOf f.type)) = y) : DataW.trod enc P w base spare held n f.type ((cs.drop o).take c) = y := by rw [← ho, ← hc]; exact h
end
theorem len2 {α : Type} : ∀ {l : List α}, l.length = 2 → ∃ x0 x1, l = [x0, x1]
  | [x0, x1], _ => ⟨x0, x1, rfl⟩
theorem len3 {α : Type} : ∀ {l : List α}, l.length = 3 → ∃ x0 x1 x2, l = [x0, x1, x2]
  | [x0, x1, x2], _ => ⟨x0, x1, x2, rfl⟩
theorem len4 {α : Type} : ∀ {l : List α}, l.length = 4 → ∃ x0 x1 x2 x3, l = [x0, x1, x2, x3]
  | [x0, x1, x2, x3], _ => ⟨x0, x1, x2, x3, rfl⟩
theorem len5 {α : Type} : ∀ {l : List α}, l.length = 5 → ∃ x0 x1 x2 x3 x4, l = [x0, x1, x2, x3, x4]
  | [x0, x1, x2, x3, x4], _ => ⟨x0, x1, x2, x3, x4, rfl⟩
theorem len6 {α : Type} : ∀ {l : List α}, l.length = 6 → ∃ x0 x1 x2 x3 x4 x5, l = [x0, x1, x2, x3, x4, x5]
  | [x0, x1, x2, x3, x4, x5], _ => ⟨x0, x1, x2, x3, x4, x5, rfl⟩
end Go.Proofs.Ytkiehapaofkmiaa.Opens

namespace Go.Proofs.Ytkiehapaofkmiaa.fnExactPairErrors
open Go.ChangeShapes Go.WideShapes Go.ChangeAt Go.RowKit
open Go.ChangeMaps (open_string shut_string)
open Go.Proofs.Ytkiehapaofkmiaa.A Go.Proofs.YtkiehapaofkmiaaW.PrintWords Go.Proofs.Ytkiehapaofkmiaa.Opens
set_option linter.unusedVariables false
theorem own : ownKnob Try.prog.godebug = none := by kernel_rfl
theorem laidOut : laidOutB Try.prog = true := by kernel_rfl
theorem open_82 {H : Type} {enc : TypeId × Value → H} {w : World} {base : Nat} {spare : Nat → Bool} {held : Bool} {n : Nat} {cs : List Value} {y : DataW H × List MemPlace} (h : DataW.trod enc Try.prog w base spare held n 82 cs = some y) : ∃ (x0 : Int) (x1 : Int) (x2 : Int) (x3 : Int) (x4 : Int) (x5 : Bool), cs = [.int .i64 x0, .int .i64 x1, .int .i64 x2, .int .i64 x3, .int .i64 x4, .bool x5] ∧ (Lit.int .i64 x0).wf = true ∧ (Lit.int .i64 x1).wf = true ∧ (Lit.int .i64 x2).wf = true ∧ (Lit.int .i64 x3).wf = true ∧ (Lit.int .i64 x4).wf = true := by
  obtain ⟨ys, n', _, _, hlen, hys, hf⟩ := DataW.trod_struct Try.underlying82 h
  replace hlen : cs.length = 6 := hlen.trans (by kernel_rfl)
  replace hys : ys.length = 6 := hys.trans (by kernel_rfl)
  clear h
  obtain ⟨c0, c1, c2, c3, c4, c5, rfl⟩ := len6 hlen
  obtain ⟨y0, y1, y2, y3, y4, y5, rfl⟩ := len6 hys
  have h0 : DataW.trod enc Try.prog w base spare held n' 3 [c0] = some y0 := one_field (c := 1) (o := 0) rfl (by kernel_rfl) (hf 0 _ rfl)
  obtain ⟨x0, e0, _, w0⟩ := DataW.trod_int Try.underlying3 h0
  obtain rfl : c0 = _ := (List.cons.inj e0).1
  have h1 : DataW.trod enc Try.prog w base spare held n' 3 [c1] = some y1 := one_field (c := 1) (o := 1) rfl (by kernel_rfl) (hf 1 _ rfl)
  obtain ⟨x1, e1, _, w1⟩ := DataW.trod_int Try.underlying3 h1
  obtain rfl : c1 = _ := (List.cons.inj e1).1
  have h2 : DataW.trod enc Try.prog w base spare held n' 3 [c2] = some y2 := one_field (c := 1) (o := 2) rfl (by kernel_rfl) (hf 2 _ rfl)
  obtain ⟨x2, e2, _, w2⟩ := DataW.trod_int Try.underlying3 h2
  obtain rfl : c2 = _ := (List.cons.inj e2).1
  have h3 : DataW.trod enc Try.prog w base spare held n' 3 [c3] = some y3 := one_field (c := 1) (o := 3) rfl (by kernel_rfl) (hf 3 _ rfl)
  obtain ⟨x3, e3, _, w3⟩ := DataW.trod_int Try.underlying3 h3
  obtain rfl : c3 = _ := (List.cons.inj e3).1
  have h4 : DataW.trod enc Try.prog w base spare held n' 3 [c4] = some y4 := one_field (c := 1) (o := 4) rfl (by kernel_rfl) (hf 4 _ rfl)
  obtain ⟨x4, e4, _, w4⟩ := DataW.trod_int Try.underlying3 h4
  obtain rfl : c4 = _ := (List.cons.inj e4).1
  have h5 : DataW.trod enc Try.prog w base spare held n' 4 [c5] = some y5 := one_field (c := 1) (o := 5) rfl (by kernel_rfl) (hf 5 _ rfl)
  obtain ⟨x5, e5, _⟩ := DataW.trod_bool Try.underlying4 h5
  obtain rfl : c5 = _ := (List.cons.inj e5).1
  exact ⟨x0, x1, x2, x3, x4, x5, rfl, w0, w1, w2, w3, w4⟩
set_option maxRecDepth 100000 in
theorem lifted (os : Os) (started : os.Started) (H : Type) (enc : TypeId × Value → H) :
    ReturnsInHanded {} Try.checked os 7 .any (Rows.fnExactPairErrorsSpec.pre6 enc Try.prog Try.f7 Rows.fnExactPairErrorsRow.domain false) (Rows.fnExactPairErrorsSpec.post enc Try.prog Try.f7 false true false false) := by
  refine returnsInHanded_of_change_sized (C := Try.checked) own started (by kernel_rfl) Try.func7
    (ChangeSpec.witness6 (enc := enc) (C := Try.checked) false ⟨#[], #[.slice none 0 0], []⟩ 8 (by kernel_rfl) (by kernel_rfl) (by kernel_rfl) (by kernel_rfl)) ?_
  intro W base args ds gs before hval0 hW hcnd hsz0 _
  have hsz : (DataW.weightsEach Try.prog (Try.f7.params.toList ++ Rows.fnExactPairErrorsSpec.plain.varTypes Try.prog) (ds ++ gs)).all (· ≤ reachBytes) = true := hsz0
  have hval : ∀ (j : Nat) t v, Try.f7.params[j]? = some t → args[j]? = some v → Value.okWide Try.prog W .any base t v := hval0
  have hW' := hW
  obtain ⟨p, q, hA0, hV, rfl, hfz, hnd⟩ := hW
  have hA : DataW.TrodAll enc Try.prog W 0 (fun _ => true) true Try.f7.params.toList args.toList ds p := hA0
  rw [Try.params7] at hA hval hsz
  obtain ⟨v0, vs0, d0, ds0, p0, q0, hargs, rfl, rfl, h0, r0⟩ := trodAll_cons hA
  obtain ⟨rfl, rfl, rfl⟩ := trodAll_nil r0
  obtain rfl : args = #[v0] := by cases args; simp_all
  obtain ⟨rfl, rfl⟩ := trodVars_none hV
  have k0 := h0
  have lt0 : ∀ x ∈ p0, x.block < W.heap.size := by obtain ⟨m, hm⟩ := k0; exact DataW.trod_lt m _ _ _ hm
  obtain ⟨a0, len0, cap0, rfl⟩ := okWide_slice Try.underlying22 (hval 0 22 v0 rfl rfl)
  obtain ⟨l0, hl0, hc0, hr0, hw0⟩ := open_row k82 (Q := fun x => (Lit.int .i64 x.f0).wf = true ∧ (Lit.int .i64 x.f1).wf = true ∧ (Lit.int .i64 x.f2).wf = true ∧ (Lit.int .i64 x.f3).wf = true ∧ (Lit.int .i64 x.f4).wf = true) (e := 82) Try.underlying22 (by kernel_rfl) (fun _ _ _ h => by obtain ⟨x0, x1, x2, x3, x4, x5, rfl, hw⟩ := open_82 h; exact ⟨⟨x0, x1, x2, x3, x4, x5⟩, k82_mk _ _, hw⟩) h0
  have y0 : len0 * 48 ≤ 140737488351232 := sized_row hsz (j := 0) (t := 22) rfl rfl Try.underlying22 (by kernel_rfl) h0
  subst hl0
  clear hA0 hval0 hsz0 hsz
  obtain ⟨k, hk⟩ := Pure.FnExactPairErrors l0 y0 hw0
  refine (laws_FnExactPairErrors.calls k _ _ l0 true W hr0 hc0 hk).mono fun e W' ⟨he, hb⟩ => ?_
  have bel : Below W.heap.size W W' := hb
  subst he
  exact ⟨_, rfl, _, _, _, [], _, [], hW', trodAll_mk1 (shut_bool Try.underlying4 _), (trodAll_cons_mk (Below.trod laidOut (by kernel_rfl) (of_decide_eq_true (by kernel_rfl)) k0 bel lt0) trodAll_mk0), rfl, bel.frame _, fun h => by cases h⟩
theorem over : Rows.fnExactPairErrorsRow.holds Try.pinned (OpenSpec.ofChange Rows.fnExactPairErrorsSpec) :=
  OpenClaim.holds_of_wide 7 Try.f7 rfl rfl rfl rfl rfl rfl rfl ⟨rfl, rfl, rfl, rfl, rfl⟩ rfl rfl rfl rfl rfl (by kernel_rfl) Try.func7 (by kernel_rfl)
    (of_decide_eq_true (by kernel_rfl)) (by unfold Func.isWrapper; first | (rw [if_pos (by decide +kernel)]; kernel_rfl) | (rw [if_neg (by decide +kernel)]; exact ⟨rfl, rfl⟩))
    (fun os started H enc _ => lifted os started H enc)
theorem proved : Rows.FnExactPairErrorsSaid := over
#print axioms proved
end Go.Proofs.Ytkiehapaofkmiaa.fnExactPairErrors
namespace Go.Proofs.Ytkiehapaofkmiaa
/-- The row, under a short name, for the claim. -/
theorem fnExactPairErrors_holds : Rows.FnExactPairErrorsSaid := fnExactPairErrors.proved
end Go.Proofs.Ytkiehapaofkmiaa
