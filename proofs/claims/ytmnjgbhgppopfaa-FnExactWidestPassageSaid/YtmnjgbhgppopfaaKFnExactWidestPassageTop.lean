/- The row of the law FnExactWidestPassage: whatever the input, it returns true; its arguments read as they did. No conditions. -/
import Derived.Test.YtmnjgbhgppopfaaWMore
import Derived.Test.YtmnjgbhgppopfaaA0
import Derived.Deep.Slices
import Derived.Deep.Fields
import Derived.ChangeSame
import Derived.SizedLaws
import Derived.Test.YtmnjgbhgppopfaaRows
import Derived.WalkKit
import Derived.ProofKit
import Derived.OpenShut
import Derived.ShutString
import Derived.ChangeOld
import Derived.Below
import Derived.Test.YtmnjgbhgppopfaaKFnExactWidestPassage1
import Derived.Test.YtmnjgbhgppopfaaKFnExactWidestPassage2
import Derived.Test.YtmnjgbhgppopfaaKFnExactWidestPassage3
/- Plain lemmas on integers that wrap at 64 bits, on answers that come after enough rounds, on tests over all indexes of a list. No program stands here. -/
namespace Go.Proofs.Ytmnjgbhgppopfaa.Plain
open Go.RowKit Go.Proofs.YtmnjgbhgppopfaaW.PrintWords

theorem w64 {x : Int} (h1 : -9223372036854775808 ≤ x) (h2 : x ≤ 9223372036854775807) : wrap64 x = x := by
  unfold wrap64
  omega

theorem wf_bounds {x : Int} (h : (Lit.int .i64 x).wf = true) : -9223372036854775808 ≤ x ∧ x ≤ 9223372036854775807 := by
  simp only [Lit.wf, IntKind.min, IntKind.max, IntKind.signed, IntKind.bits, Bool.and_eq_true, decide_eq_true_eq, if_true] at h
  omega

/-- The product of two numbers that are bounded. -/
theorem mul_bound {x y : Int} (A B : Int) (h1 : -A ≤ x) (h2 : x ≤ A) (h3 : -B ≤ y) (h4 : y ≤ B) : -(A * B) ≤ x * y ∧ x * y ≤ A * B := by
  have e1 : 0 ≤ (A - x) * (B - y) := Int.mul_nonneg (by omega) (by omega)
  have e2 : 0 ≤ (A + x) * (B + y) := Int.mul_nonneg (by omega) (by omega)
  have e3 : 0 ≤ (A - x) * (B + y) := Int.mul_nonneg (by omega) (by omega)
  have e4 : 0 ≤ (A + x) * (B - y) := Int.mul_nonneg (by omega) (by omega)
  simp only [Int.sub_mul, Int.mul_sub, Int.add_mul, Int.mul_add] at e1 e2 e3 e4
  omega

/-! ### Answers after enough rounds -/
theorem Ev.some {α : Type} {g : Nat → Option α} {r : α} (h : ∀ k, g k = some r) : Ev g r := ⟨0, fun k _ => h k⟩
theorem Ev.eq {α : Type} {g f : Nat → Option α} {r : α} (h : Ev f r) (e : ∀ k, g k = f k) : Ev g r := Ev.congr e h
theorem Ev.ite {α : Type} {c : Prop} [Decidable c] {g f : Nat → Option α} {r q : α} (h : c → Ev g r) (k : ¬ c → Ev f q) : Ev (fun n => if c then g n else f n) (if c then r else q) := by
  by_cases hc : c
  · obtain ⟨K, hK⟩ := h hc
    exact ⟨K, fun n hn => by simp only [if_pos hc]; exact hK n hn⟩
  · obtain ⟨K, hK⟩ := k hc
    exact ⟨K, fun n hn => by simp only [if_neg hc]; exact hK n hn⟩
theorem Ev.pos {α : Type} {c : Prop} [Decidable c] {g f : Nat → Option α} {r : α} (hc : c) (h : Ev g r) : Ev (fun n => if c then g n else f n) r := by
  obtain ⟨K, hK⟩ := h
  exact ⟨K, fun n hn => by simp only [if_pos hc]; exact hK n hn⟩
theorem Ev.neg {α : Type} {c : Prop} [Decidable c] {g f : Nat → Option α} {r : α} (hc : ¬ c) (h : Ev f r) : Ev (fun n => if c then g n else f n) r := by
  obtain ⟨K, hK⟩ := h
  exact ⟨K, fun n hn => by simp only [if_neg hc]; exact hK n hn⟩
theorem Ev.bindc {α β : Type} {o : Option α} {f : Nat → α → Option β} {a : α} {r : β} (h : o = Option.some a) (k : Ev (fun n => f n a) r) : Ev (fun n => o.bind (f n)) r := by
  obtain ⟨K, hK⟩ := k
  exact ⟨K, fun n hn => by rw [h]; exact hK n hn⟩
theorem Ev.uniq {α : Type} {g : Nat → Option α} {r q : α} (h : Ev g r) (k : Ev g q) : r = q := by
  obtain ⟨K, h⟩ := h
  obtain ⟨K', k⟩ := k
  have h1 := h (max K K') (by omega)
  have h2 := k (max K K') (by omega)
  rw [h1] at h2
  exact Option.some.inj h2

/-! ### A test of all indexes from one on -/
def allFrom (P : Nat → Bool) : Nat → Nat → Bool
  | _, 0 => true
  | i, d + 1 => P i && allFrom P (i + 1) d
theorem allFrom_iff (P : Nat → Bool) : ∀ (d i : Nat), allFrom P i d = true ↔ ∀ j, i ≤ j → j < i + d → P j = true
  | 0, i => ⟨fun _ j h1 h2 => by omega, fun _ => rfl⟩
  | d + 1, i => by
    rw [allFrom, Bool.and_eq_true, allFrom_iff P d (i + 1)]
    constructor
    · rintro ⟨h0, h1⟩ j hj hj2
      by_cases e : j = i
      · subst e
        exact h0
      · exact h1 j (by omega) (by omega)
    · intro h
      exact ⟨h i (by omega) (by omega), fun j hj hj2 => h j (by omega) (by omega)⟩
theorem allFrom_congr {P Q : Nat → Bool} : ∀ (d i : Nat), (∀ j, i ≤ j → j < i + d → P j = Q j) → allFrom P i d = allFrom Q i d
  | 0, _, _ => rfl
  | d + 1, i, h => by rw [allFrom, allFrom, h i (by omega) (by omega), allFrom_congr d (i + 1) (fun j hj hj2 => h j (by omega) (by omega))]

/-- A number within two others. -/
def inR (x a b : Int) : Bool := if x ≥ a then decide (x ≤ b) else false
theorem inR_iff {x a b : Int} : inR x a b = true ↔ a ≤ x ∧ x ≤ b := by
  unfold inR
  split
  · simp
    omega
  · simp
    omega
theorem inR_false {x a b : Int} : inR x a b = false ↔ ¬ (a ≤ x ∧ x ≤ b) := by
  rw [← inR_iff]
  simp

/-! ### Loops that copy a list, or compare two -/
theorem copy_loop {α β : Type} (L : Nat → List α → List β → Int → Option (List β)) (cv : α → β) (z : α)
    (hL : ∀ k x0 x3 x4, L (k + 1) x0 x3 x4 = if x4 < (x0.length : Int) then (if 0 ≤ x4 then (if x4 < (x3.length : Int) then L k x0 (x3.set x4.toNat (cv (x0.getD x4.toNat z))) (wrap64 (x4 + 1)) else none) else none) else some x3)
    (x0 : List α) (hb : x0.length ≤ 140737488351232) : ∀ (d k i : Nat) (x3 : List β), x3.length = x0.length → i + d = x0.length → d < k → L k x0 x3 (i : Int) = some (x3.take i ++ (x0.drop i).map cv)
  | 0, k, i, x3, h3, hi, hk => by
    obtain ⟨k, rfl⟩ : ∃ m, k = m + 1 := ⟨k - 1, by omega⟩
    rw [hL, if_neg (by omega), List.drop_of_length_le (by omega), List.take_of_length_le (by omega)]
    simp
  | d + 1, k, i, x3, h3, hi, hk => by
    obtain ⟨k, rfl⟩ : ∃ m, k = m + 1 := ⟨k - 1, by omega⟩
    have hil : i < x0.length := by omega
    rw [hL, if_pos (by omega), if_pos (by omega), if_pos (by omega), w64 (by omega) (by omega)]
    have e := copy_loop L cv z hL x0 hb d k (i + 1) (x3.set i (cv (x0.getD i z))) (by simpa using h3) (by omega) (by omega)
    rw [Int.toNat_natCast, show ((i : Int) + 1) = ((i + 1 : Nat) : Int) by omega, e]
    congr 1
    rw [List.drop_eq_getElem_cons hil, List.map_cons]
    have hx3 : i < x3.length := by omega
    rw [List.take_succ_eq_append_getElem (by simpa using hx3), List.take_set_of_le (by omega)]
    simp [List.getD, hil]

theorem copy_all {α β : Type} (L : Nat → List α → List β → Int → Option (List β)) (cv : α → β) (z : α) (z' : β)
    (hL : ∀ k x0 x3 x4, L (k + 1) x0 x3 x4 = if x4 < (x0.length : Int) then (if 0 ≤ x4 then (if x4 < (x3.length : Int) then L k x0 (x3.set x4.toNat (cv (x0.getD x4.toNat z))) (wrap64 (x4 + 1)) else none) else none) else some x3)
    (x0 : List α) (hb : x0.length ≤ 140737488351232) : Ev (fun k => L k x0 (List.replicate ((x0.length : Int) : Int).toNat z') 0) (x0.map cv) :=
  ⟨x0.length + 1, fun k hk => by
    have := copy_loop L cv z hL x0 hb x0.length k 0 (List.replicate x0.length z') (by simp) (by omega) (by omega)
    simpa using this⟩

theorem eq_loop {α : Type} (L : Nat → List α → List α → Int → Option Bool) 
    (hL : ∀ k x0 x4, 0 ≤ x4 → L (k + 1) x0 x0 x4 = if x4 < (x0.length : Int) then L k x0 x0 (wrap64 (x4 + 1)) else some true)
    (x0 : List α) (hb : x0.length ≤ 140737488351232) : ∀ (d k i : Nat), i + d = x0.length → d < k → L k x0 x0 (i : Int) = some true
  | 0, k, i, hi, hk => by
    obtain ⟨k, rfl⟩ : ∃ m, k = m + 1 := ⟨k - 1, by omega⟩
    rw [hL _ _ _ (by omega), if_neg (by omega)]
  | d + 1, k, i, hi, hk => by
    obtain ⟨k, rfl⟩ : ∃ m, k = m + 1 := ⟨k - 1, by omega⟩
    rw [hL _ _ _ (by omega), if_pos (by omega), w64 (by omega) (by omega), show ((i : Int) + 1) = ((i + 1 : Nat) : Int) by omega]
    exact eq_loop L hL x0 hb d k (i + 1) (by omega) (by omega)

theorem eq_all {α : Type} (L : Nat → List α → List α → Int → Option Bool) 
    (hL : ∀ k x0 x4, 0 ≤ x4 → L (k + 1) x0 x0 x4 = if x4 < (x0.length : Int) then L k x0 x0 (wrap64 (x4 + 1)) else some true)
    (x0 : List α) (hb : x0.length ≤ 140737488351232) : Ev (fun k => L k x0 x0 0) true :=
  ⟨x0.length + 1, fun k hk => eq_loop L hL x0 hb x0.length k 0 (by omega) (by omega)⟩

/-- A loop that asks a test of each index, and says no at the first that fails. -/
theorem all_loop (P : Nat → Bool) (n : Nat) (hn : n ≤ 140737488351232) (L : Nat → Int → Option Bool) (fin : Option Bool)
    (hL : ∀ k i, i < n → L (k + 1) (i : Int) = if P i = true then L k (wrap64 (i + 1)) else some false) (hend : ∀ k, L (k + 1) (n : Int) = fin) :
    ∀ (d k i : Nat), i + d = n → d < k → L k (i : Int) = if allFrom P i d = true then fin else some false
  | 0, k, i, hi, hk => by
    obtain ⟨k, rfl⟩ : ∃ m, k = m + 1 := ⟨k - 1, by omega⟩
    obtain rfl : i = n := by omega
    rw [hend, allFrom, if_pos rfl]
  | d + 1, k, i, hi, hk => by
    obtain ⟨k, rfl⟩ : ∃ m, k = m + 1 := ⟨k - 1, by omega⟩
    rw [hL _ _ (by omega), w64 (by omega) (by omega), show ((i : Int) + 1) = ((i + 1 : Nat) : Int) by omega, all_loop P n hn L fin hL hend d k (i + 1) (by omega) (by omega), allFrom]
    cases P i <;> simp

theorem all_ev (P : Nat → Bool) (n : Nat) (hn : n ≤ 140737488351232) (L : Nat → Int → Option Bool) (fin : Option Bool)
    (hL : ∀ k i, i < n → L (k + 1) (i : Int) = if P i = true then L k (wrap64 (i + 1)) else some false) (hend : ∀ k, L (k + 1) (n : Int) = fin) :
    ∃ K, ∀ k, K ≤ k → L k 0 = if allFrom P 0 n = true then fin else some false :=
  ⟨n + 1, fun k hk => all_loop P n hn L fin hL hend n k 0 (by omega) (by omega)⟩

end Go.Proofs.Ytmnjgbhgppopfaa.Plain

/- Passages: what the program's and the reference's functions on them come to. -/
namespace Go.Proofs.Ytmnjgbhgppopfaa.Pas
open Go.RowKit Go.Proofs.YtmnjgbhgppopfaaW.PrintWords Go.Proofs.Ytmnjgbhgppopfaa.Plain Go.Proofs.Ytmnjgbhgppopfaa.A
set_option linter.unusedVariables false
abbrev PP := S30
abbrev LP := S29
abbrev z : PP := z30
def cv (x : LP) : PP := ⟨x.f0, x.f1, x.f2, x.f3, x.f4⟩
def at_ (l : List PP) (i : Nat) : PP := l.getD i z

def oneB (a b c d e : Int) : Bool := inR a 0 7 && (inR b 0 200 && (inR c 0 200 && (inR d 0 200 && inR e 0 200)))
theorem within_eq (x a b : Int) : impl_within.f x a b = some (inR x a b) := by unfold impl_within.f inR; split <;> rfl
theorem in_eq (x a b : Int) : spec_l1In.f x a b = some (inR x a b) := by unfold spec_l1In.f inR; split <;> rfl
theorem station_eq (x : Int) : impl_isStation.f x = some (inR x 0 7) := by unfold impl_isStation.f; rw [within_eq]; rfl
theorem l4Station_eq (x : Int) : spec_l4Station.f x = some (inR x 0 7) := by unfold spec_l4Station.f; rw [in_eq]; rfl
theorem far_eq (x : Int) : spec_l12Far.f x = some (inR x 0 200) := by unfold spec_l12Far.f; rw [in_eq]; rfl
theorem isPassage_eq (a b c d e : Int) : impl_isPassage.f a b c d e = some (oneB a b c d e) := by
  unfold impl_isPassage.f oneB
  simp only [station_eq, within_eq, Option.bind_some]
  cases inR a 0 7 <;> cases inR b 0 200 <;> cases inR c 0 200 <;> cases inR d 0 200 <;> simp
theorem one_eq (a b c d e : Int) : spec_l12One.f a b c d e = some (oneB a b c d e) := by
  unfold spec_l12One.f oneB
  simp only [l4Station_eq, far_eq, Option.bind_some]
  cases inR a 0 7 <;> cases inR b 0 200 <;> cases inR c 0 200 <;> cases inR d 0 200 <;> simp
end Go.Proofs.Ytmnjgbhgppopfaa.Pas

/- Lists of passages: which are valid. -/
namespace Go.Proofs.Ytmnjgbhgppopfaa.Pas
open Go.RowKit Go.Proofs.YtmnjgbhgppopfaaW.PrintWords Go.Proofs.Ytmnjgbhgppopfaa.Plain Go.Proofs.Ytmnjgbhgppopfaa.A
set_option linter.unusedVariables false
def okAt (x : PP) : Bool := oneB x.f0 x.f1 x.f2 x.f3 x.f4
def okP (l : List PP) (i : Nat) : Bool := okAt (at_ l i) && (decide (i = 0) || decide ((at_ l (i - 1)).f0 < (at_ l i).f0))
def okL (l : List PP) : Bool := allFrom (okP l) 0 l.length
theorem prev (l : List PP) (i : Nat) (h : 0 < i) : (rd_T30 l ((i : Int) - 1)) = at_ l (i - 1) := by
  show (l.getD ((i : Int) - 1).toNat z) = _
  rw [show ((i : Int) - 1).toNat = i - 1 by omega]
  rfl
theorem are_ev (l : List PP) (hb : l.length ≤ 140737488351232) : Ev (fun k => impl_ArePassages.f k l) (okL l) := by
  obtain ⟨K, hK⟩ := all_ev (okP l) l.length hb (fun k i => impl_ArePassages.l0 k l l (l.length : Int) i) (some true) (by
      intro k i hi
      simp only [impl_ArePassages.l0]
      have e1 : rd_T30 l (i : Int) = at_ l i := rfl
      rw [if_pos (by omega), if_pos (by omega), if_pos (by omega), isPassage_eq, Option.bind_some]
      show (if okAt (at_ l i) = true then _ else _) = _
      unfold okP
      cases h1 : okAt (at_ l i)
      · simp
      · by_cases h3 : i = 0
        · subst h3
          simp
        · rw [if_pos rfl, if_pos (by omega), w64 (x := (i : Int) - 1) (by omega) (by omega), if_pos (by omega), if_pos (by omega), prev l i (by omega), e1]
          by_cases h4 : (at_ l (i - 1)).f0 < (at_ l i).f0
          · rw [if_neg (by omega)]
            simp [h3, h4]
          · rw [if_pos (by omega)]
            simp [h3, h4]) (by
      intro k
      simp only [impl_ArePassages.l0]
      rw [if_neg (by omega)])
  refine ⟨K, fun k hk => ?_⟩
  have := hK k hk
  simp only [impl_ArePassages.f]
  rw [this]
  unfold okL
  cases allFrom (okP l) 0 l.length <;> simp
theorem good_ev (l : List PP) (hb : l.length ≤ 140737488351232) : Ev (fun k => spec_l12Good.f k l) (okL l) := by
  obtain ⟨K, hK⟩ := all_ev (okP l) l.length hb (fun k i => spec_l12Good.l0 k l i) (some true) (by
      intro k i hi
      simp only [spec_l12Good.l0]
      have e1 : rd_T30 l (i : Int) = at_ l i := rfl
      rw [if_pos (by omega), if_pos (by omega), one_eq, Option.bind_some]
      show (if okAt (at_ l i) = true then _ else _) = _
      unfold okP
      cases h1 : okAt (at_ l i)
      · simp
      · by_cases h3 : i = 0
        · subst h3
          simp
        · rw [if_pos rfl, if_pos (by omega), w64 (x := (i : Int) - 1) (by omega) (by omega), if_pos (by omega), if_pos (by omega), prev l i (by omega), e1]
          by_cases h4 : (at_ l (i - 1)).f0 < (at_ l i).f0
          · rw [if_neg (by omega)]
            simp [h3, h4]
          · rw [if_pos (by omega)]
            simp [h3, h4]) (by
      intro k
      simp only [spec_l12Good.l0]
      rw [if_neg (by omega)])
  refine ⟨K, fun k hk => ?_⟩
  have := hK k hk
  simp only [spec_l12Good.f]
  rw [this]
  unfold okL
  cases allFrom (okP l) 0 l.length <;> simp
theorem to_ev (l : List LP) (hb : l.length ≤ 140737488351232 / 40) : Ev (fun k => laws_toPassageS.f k l) (l.map cv) := by
  unfold laws_toPassageS.f
  refine Ev.pos (by omega) ?_
  refine Ev.pos (by omega) ?_
  exact copy_all laws_toPassageS.l0 cv z29 _ (fun k x0 x3 x4 => by simp only [laws_toPassageS.l0, laws_toPassage.f, Option.bind_some]; rfl) l (by omega)
theorem same_ev (l : List PP) (hb : l.length ≤ 140737488351232) : Ev (fun k => laws_eqPassageS.f k l l) true := by
  unfold laws_eqPassageS.f
  refine Ev.pos rfl ?_
  exact eq_all laws_eqPassageS.l0 (fun k x0 x4 h0 => by
    simp only [laws_eqPassageS.l0, laws_eqPassage.f, if_true, Option.bind_some]
    by_cases h : x4 < (x0.length : Int)
    · rw [if_pos h, if_pos h0, if_pos h, if_pos h]
    · rw [if_neg h, if_neg h]) l hb
theorem sz_ev (l : List LP) (hb : l.length ≤ 140737488351232) : laws_szPassageS.f l 1048576 = some (if 1048576 - (l.length : Int) < 0 then -1 else 1048576 - (l.length : Int)) := by
  unfold laws_szPassageS.f
  rw [w64 (by omega) (by omega)]
  split <;> rfl
end Go.Proofs.Ytmnjgbhgppopfaa.Pas

/- The law FnExactWidestPassage, as a plain statement: the program's WidestPassage answers what the reference's answers. Conditions: those of the row's own reading. -/
namespace Go.Proofs.Ytmnjgbhgppopfaa.Pas
open Go.RowKit Go.Proofs.YtmnjgbhgppopfaaW.PrintWords Go.Proofs.Ytmnjgbhgppopfaa.Plain Go.Proofs.Ytmnjgbhgppopfaa.A
set_option linter.unusedVariables false
def area (x : PP) : Int := wrap64 (wrap64 (x.f1 + x.f2) * wrap64 (x.f3 + x.f4))
def widest (l : List PP) : Nat → Nat → PP → PP
  | _, 0, b => b
  | i, d + 1, b => if area (at_ l i) > area b then widest l (i + 1) d (at_ l i) else widest l (i + 1) d b
theorem widestImpl (l : List PP) (hb : l.length ≤ 140737488351232) : ∀ (d i : Nat) (b : PP), i + d = l.length → Ev (fun k => impl_WidestPassage.l0 k l (l.length : Int) (i : Int) b.f0 b.f1 b.f2 b.f3 b.f4) ((widest l i d b).f0, true) := by
  intro d
  induction d with
  | zero =>
    intro i b hi
    refine Ev.step (f := fun _ => some (b.f0, true)) (fun k => by simp only [impl_WidestPassage.l0]; rw [if_neg (by omega)]) ?_
    exact Ev.now _
  | succ d ih =>
    intro i b hi
    have e : wrap64 ((i : Int) + 1) = ((i + 1 : Nat) : Int) := by rw [w64 (by omega) (by omega)]; omega
    have e1 : rd_T30 l (i : Int) = at_ l i := rfl
    obtain ⟨K, hK⟩ := ih (i + 1) (at_ l i) (by omega)
    obtain ⟨K', hK'⟩ := ih (i + 1) b (by omega)
    refine ⟨max K K' + 1, fun k hk => ?_⟩
    obtain ⟨k, rfl⟩ : ∃ m, k = m + 1 := ⟨k - 1, by omega⟩
    simp only [impl_WidestPassage.l0, impl_Passage_area.f]
    rw [if_pos (by omega), if_pos (by omega), if_pos (by omega), Option.bind_some, Option.bind_some, e, e1]
    show (if area (at_ l i) > area b then _ else _) = _
    rw [widest]
    by_cases h : area (at_ l i) > area b
    · rw [if_pos h, if_pos h]
      exact hK k (by omega)
    · rw [if_neg h, if_neg h]
      exact hK' k (by omega)
theorem widestSpec (l : List PP) (hb : l.length ≤ 140737488351232) : ∀ (d i : Nat) (b : PP), i + d = l.length → Ev (fun k => spec_WidestPassage.l0 k l (i : Int) b.f0 b.f1 b.f2 b.f3 b.f4) ((widest l i d b).f0, true) := by
  intro d
  induction d with
  | zero =>
    intro i b hi
    refine Ev.step (f := fun _ => some (b.f0, true)) (fun k => by simp only [spec_WidestPassage.l0]; rw [if_neg (by omega)]) ?_
    exact Ev.now _
  | succ d ih =>
    intro i b hi
    have e : wrap64 ((i : Int) + 1) = ((i + 1 : Nat) : Int) := by rw [w64 (by omega) (by omega)]; omega
    have e1 : rd_T30 l (i : Int) = at_ l i := rfl
    obtain ⟨K, hK⟩ := ih (i + 1) (at_ l i) (by omega)
    obtain ⟨K', hK'⟩ := ih (i + 1) b (by omega)
    refine ⟨max K K' + 1, fun k hk => ?_⟩
    obtain ⟨k, rfl⟩ : ∃ m, k = m + 1 := ⟨k - 1, by omega⟩
    simp only [spec_WidestPassage.l0, spec_l12Area.f]
    rw [if_pos (by omega), if_pos (by omega), Option.bind_some, Option.bind_some, e, e1]
    show (if area (at_ l i) > area b then _ else _) = _
    rw [widest]
    by_cases h : area (at_ l i) > area b
    · rw [if_pos h, if_pos h]
      exact hK k (by omega)
    · rw [if_neg h, if_neg h]
      exact hK' k (by omega)
def wideOf (l : List PP) : Int × Bool := if okL l = true ∧ 0 < l.length then ((widest l 1 (l.length - 1) (at_ l 0)).f0, true) else (0, false)
theorem widest_first (l : List PP) (h : 0 < l.length) : widest l 0 l.length (at_ l 0) = widest l 1 (l.length - 1) (at_ l 0) := by
  obtain ⟨n, hn⟩ : ∃ n, l.length = n + 1 := ⟨l.length - 1, by omega⟩
  rw [hn, Nat.add_sub_cancel, widest, if_neg (by omega)]
theorem implWidest_ev (l : List PP) (hb : l.length ≤ 140737488351232) : Ev (fun k => impl_WidestPassage.f k l) (wideOf l) := by
  obtain ⟨K1, h1⟩ := are_ev l hb
  unfold wideOf
  cases e1 : okL l
  · refine ⟨K1 + 1, fun k hk => ?_⟩
    obtain ⟨k, rfl⟩ : ∃ m, k = m + 1 := ⟨k - 1, by omega⟩
    simp [impl_WidestPassage.f, impl_WidestPassage.j0, h1 (k + 1) (by omega), e1]
  · by_cases h0 : 0 < l.length
    · obtain ⟨K2, h2⟩ := widestImpl l hb l.length 0 (at_ l 0) (by omega)
      refine ⟨max K1 K2 + 1, fun k hk => ?_⟩
      obtain ⟨k, rfl⟩ : ∃ m, k = m + 1 := ⟨k - 1, by omega⟩
      have g2 := h2 k (by omega)
      rw [if_pos ⟨rfl, h0⟩, ← widest_first l h0]
      simp only [impl_WidestPassage.f, impl_WidestPassage.j0, h1 (k + 1) (by omega), e1, Option.bind_some, if_true]
      rw [if_neg (by rw [beq_iff_eq]; omega), if_pos (by omega)]
      exact g2
    · refine ⟨K1 + 1, fun k hk => ?_⟩
      obtain ⟨k, rfl⟩ : ∃ m, k = m + 1 := ⟨k - 1, by omega⟩
      rw [if_neg (by omega)]
      simp only [impl_WidestPassage.f, impl_WidestPassage.j0, h1 (k + 1) (by omega), e1, Option.bind_some, if_true]
      rw [if_pos (by rw [beq_iff_eq]; omega)]
theorem specWidest_ev (l : List PP) (hb : l.length ≤ 140737488351232) : Ev (fun k => spec_WidestPassage.f k l) (wideOf l) := by
  obtain ⟨K1, h1⟩ := good_ev l hb
  unfold wideOf
  cases e1 : okL l
  · refine ⟨K1 + 1, fun k hk => ?_⟩
    obtain ⟨k, rfl⟩ : ∃ m, k = m + 1 := ⟨k - 1, by omega⟩
    simp [spec_WidestPassage.f, spec_WidestPassage.j0, h1 (k + 1) (by omega), e1]
  · by_cases h0 : 0 < l.length
    · obtain ⟨K2, h2⟩ := widestSpec l hb (l.length - 1) 1 (at_ l 0) (by omega)
      refine ⟨max K1 K2 + 1, fun k hk => ?_⟩
      obtain ⟨k, rfl⟩ : ∃ m, k = m + 1 := ⟨k - 1, by omega⟩
      have g2 := h2 k (by omega)
      rw [if_pos ⟨rfl, h0⟩]
      simp only [spec_WidestPassage.f, spec_WidestPassage.j0, h1 (k + 1) (by omega), e1, Option.bind_some, if_true]
      rw [if_neg (by rw [beq_iff_eq]; omega), if_pos (by omega)]
      exact g2
    · refine ⟨K1 + 1, fun k hk => ?_⟩
      obtain ⟨k, rfl⟩ : ∃ m, k = m + 1 := ⟨k - 1, by omega⟩
      rw [if_neg (by omega)]
      simp only [spec_WidestPassage.f, spec_WidestPassage.j0, h1 (k + 1) (by omega), e1, Option.bind_some, if_true]
      rw [if_pos (by rw [beq_iff_eq]; omega)]
end Go.Proofs.Ytmnjgbhgppopfaa.Pas
namespace Go.Proofs.Ytmnjgbhgppopfaa.Pure
open Go.RowKit Go.Proofs.YtmnjgbhgppopfaaW.PrintWords Go.Proofs.Ytmnjgbhgppopfaa.Plain Go.Proofs.Ytmnjgbhgppopfaa.A Go.Proofs.Ytmnjgbhgppopfaa.Pas
theorem FnExactWidestPassage (l : List LP) (hb : l.length * 40 ≤ 140737488351232) (_ : ∀ x ∈ l, (Lit.int .i64 x.f0).wf = true ∧ (Lit.int .i64 x.f1).wf = true ∧ (Lit.int .i64 x.f2).wf = true ∧ (Lit.int .i64 x.f3).wf = true ∧ (Lit.int .i64 x.f4).wf = true) : ∃ k, laws_FnExactWidestPassage.f k l = some true := by
  obtain ⟨K1, h1⟩ := to_ev l (by omega)
  obtain ⟨K2, h2⟩ := implWidest_ev (l.map cv) (by simp; omega)
  obtain ⟨K3, h3⟩ := specWidest_ev (l.map cv) (by simp; omega)
  obtain ⟨K4, h4⟩ := same_ev (l.map cv) (by simp; omega)
  have hs := sz_ev l (by omega)
  obtain ⟨K, hK⟩ : ∃ K, K = max (max K1 K2) (max K3 K4) := ⟨_, rfl⟩
  refine ⟨K + 1, ?_⟩
  have g1 := h1 (K + 1) (by omega)
  have g1' := h1 K (by omega)
  have g2 := h2 (K + 1) (by omega)
  have g3 := h3 (K + 1) (by omega)
  have g4 := h4 K (by omega)
  simp only [laws_FnExactWidestPassage.f, hs, Option.bind_some, g1, g2, g3, bne_self_eq_false, if_true]
  simp only [laws_FnExactWidestPassage.j0, g1', g4, Option.bind_some]
  simp
end Go.Proofs.Ytmnjgbhgppopfaa.Pure

/- General laws by which a law's arguments are opened: a slice of structs whose fields are integers or bools, as a row of the print's kinds; a struct by value. No conditions. -/
namespace Go.Proofs.Ytmnjgbhgppopfaa.Opens
open Go.ChangeShapes Go.WideShapes Go.Deep Go.RowKit Go.Proofs.YtmnjgbhgppopfaaW.PrintWords

theorem list_of {α : Type} {P : Nat → α → Prop} : ∀ (n : Nat), (∀ i, i < n → ∃ x, P i x) → ∃ xs : List α, xs.length = n ∧ ∀ i x, xs[i]? = some x → P i x
  | 0, _ => ⟨[], rfl, fun i x h => by simp at h⟩
  | n + 1, h => by
    obtain ⟨xs, hl, hx⟩ := list_of n (fun i hi => h i (Nat.lt_succ_of_lt hi))
    obtain ⟨y, hy⟩ := h n (Nat.lt_succ_self n)
    refine ⟨xs ++ [y], by simp [hl], fun i x hi => ?_⟩
    by_cases hlt : i < xs.length
    · rw [List.getElem?_append_left hlt] at hi
      exact hx i x hi
    · rw [List.getElem?_append_right (by omega)] at hi
      have h0 : i - xs.length = 0 := by
        have := (List.getElem?_eq_some_iff.1 hi).1
        simp at this
        omega
      rw [h0] at hi
      simp at hi
      subst hi
      have : i = n := by omega
      subst this
      exact hy

section
variable {H : Type} {enc : TypeId × Value → H} {P : Program} {w : World} {base : Nat} {spare : Nat → Bool} {held : Bool}
/-- A slice of structs, opened: the list of what its elements are, each by the kind's own reading. -/
theorem open_row {α : Type} (d : Kd α) {Q : α → Prop} {t e : TypeId} {a : Option Addr} {len cap : Nat} {dd : DataW H} {ps : List MemPlace} (ht : P.underlying t = some (.slice e)) (hC : P.cellsOf e = d.sz)
    (hd : ∀ n cs y, DataW.trod enc P w base spare held n e cs = some y → ∃ x, d.K w x cs ∧ Q x)
    (h : DataW.Trod enc P w base spare held t (.slice a len cap) dd ps) : ∃ xs : List α, xs.length = len ∧ len ≤ cap ∧ d.C w a len xs ∧ ∀ x ∈ xs, Q x := by
  obtain ⟨fuel, hf⟩ := h
  rcases open_slice ht hf with ⟨hcs, _⟩ | ⟨x, l, c, m, n, D, Pl, hcs, _, hl, hm, hmm, _, hi⟩
  · simp [Value.cells] at hcs
    obtain ⟨rfl, rfl, rfl⟩ := hcs
    exact ⟨[], rfl, Nat.le_refl _, ⟨rfl, by omega, fun h => by omega⟩, fun x hx => by simp at hx⟩
  · simp [Value.cells] at hcs
    obtain ⟨rfl, rfl, rfl⟩ := hcs
    have hle : len ≤ m := by subst hmm; split <;> omega
    obtain ⟨xs, hxl, hx⟩ := list_of (P := fun i (z : α) => Q z ∧ ∃ cs, d.K w z cs ∧ w.cells? base (x.add (i * d.sz)) d.sz = some cs) len (fun i hil => by
      obtain ⟨cs, h1, h2⟩ := hi i (by omega)
      rw [hC] at h1
      obtain ⟨z, h3, h4⟩ := hd _ _ _ h2
      exact ⟨z, h4, cs, h3, h1⟩)
    refine ⟨xs, hxl, hl, ⟨hxl, by unfold maxLen at hm; omega, fun _ => ⟨x, rfl, fun j p hp => ?_⟩⟩, fun z hz => ?_⟩
    · obtain ⟨_, cs, h1, h2⟩ := hx j p hp
      obtain ⟨_, hlen, hat⟩ := World.cells?_some h2
      refine ⟨cs, hlen, h1, fun i u hu => ?_⟩
      have hil : i < d.sz := by have := (List.getElem?_eq_some_iff.1 hu).1; omega
      rw [← Go.Deep.add_add, hat i hil, hu]
    · obtain ⟨j, hj⟩ := List.getElem?_of_mem hz
      exact (hx j z hj).1

theorem sized_row {t e : TypeId} {a : Option Addr} {len cap : Nat} {d : DataW H} {ps : List MemPlace} {ts : List TypeId} {ds : List (DataW H)} {j : Nat}
    (hsz : (DataW.weightsEach P ts ds).all (· ≤ reachBytes) = true) (ht : ts[j]? = some t) (hd : ds[j]? = some d) (hu : P.underlying t = some (.slice e)) {B : Nat} (hB : P.bytesOf e = B)
    (h : DataW.Trod enc P w base spare held t (.slice a len cap) d ps) : len * B ≤ 140737488351232 := by
  obtain ⟨fuel, hf⟩ := h
  rcases open_slice hu hf with ⟨hcs, _⟩ | ⟨x, l, c, m, n, D, Pl, hcs, _, hl, hm, hmm, hx, hi⟩
  · simp [Value.cells] at hcs
    obtain ⟨rfl, rfl, rfl⟩ := hcs
    simp
  · simp [Value.cells] at hcs
    obtain ⟨rfl, rfl, rfl⟩ := hcs
    obtain ⟨hx, _⟩ := Prod.mk.inj hx
    subst hx
    have z := sized_slice hsz ht hd hu
    rw [hB] at z
    simp only [List.length_map, List.length_range] at z
    have hle : len ≤ m := by subst hmm; split <;> omega
    rw [show len + (m - len) = m by omega] at z
    exact Nat.le_trans (Nat.mul_le_mul_right _ hle) z

theorem one_field {f : Field} {cs : List Value} {o c : Nat} (ho : f.offset = o) (hc : P.cellsOf f.type = c) {n : Nat} {y : Option (DataW H × List MemPlace)} (h : DataW.trod enc P w base spare held n f.type ((cs.drop f.offset).take (P.cellsOf f.type)) = y) : DataW.trod enc P w base spare held n f.type ((cs.drop o).take c) = y := by rw [← ho, ← hc]; exact h
end
end Go.Proofs.Ytmnjgbhgppopfaa.Opens

namespace Go.Proofs.Ytmnjgbhgppopfaa.fnExactWidestPassage
open Go.ChangeShapes Go.WideShapes Go.ChangeAt Go.RowKit
open Go.ChangeMaps (open_string shut_string)
open Go.Proofs.Ytmnjgbhgppopfaa.A Go.Proofs.YtmnjgbhgppopfaaW.PrintWords Go.Proofs.Ytmnjgbhgppopfaa.Opens
set_option linter.unusedVariables false
theorem own : ownKnob Try.prog.godebug = none := by kernel_rfl
theorem laidOut : laidOutB Try.prog = true := by kernel_rfl
theorem open_29 {H : Type} {enc : TypeId × Value → H} {w : World} {base : Nat} {spare : Nat → Bool} {held : Bool} {n : Nat} {cs : List Value} {y : DataW H × List MemPlace} (h : DataW.trod enc Try.prog w base spare held n 29 cs = some y) : ∃ (x0 : Int) (x1 : Int) (x2 : Int) (x3 : Int) (x4 : Int), cs = [.int .i64 x0, .int .i64 x1, .int .i64 x2, .int .i64 x3, .int .i64 x4] ∧ (Lit.int .i64 x0).wf = true ∧ (Lit.int .i64 x1).wf = true ∧ (Lit.int .i64 x2).wf = true ∧ (Lit.int .i64 x3).wf = true ∧ (Lit.int .i64 x4).wf = true := by
  obtain ⟨ys, n', _, _, hlen, hys, hf⟩ := DataW.trod_struct Try.underlying29 h
  replace hlen : cs.length = 5 := hlen.trans (by kernel_rfl)
  replace hys : ys.length = 5 := hys
  match cs, hlen, ys, hys with
  | [c0, c1, c2, c3, c4], _, [y0, y1, y2, y3, y4], _ =>
    have h0 : DataW.trod enc Try.prog w base spare held n' 3 [c0] = some y0 := one_field (c := 1) (o := 0) rfl (by kernel_rfl) (hf 0 _ rfl)
    obtain ⟨x0, e0, _, w0⟩ := DataW.trod_int Try.underlying3 h0
    obtain rfl : c0 = _ := (List.cons.inj e0).1
    have h1 : DataW.trod enc Try.prog w base spare held n' 3 [c1] = some y1 := one_field (c := 1) (o := 1) rfl (by kernel_rfl) (hf 1 _ rfl)
    obtain ⟨x1, e1, _, w1⟩ := DataW.trod_int Try.underlying3 h1
    obtain rfl : c1 = _ := (List.cons.inj e1).1
    have h2 : DataW.trod enc Try.prog w base spare held n' 3 [c2] = some y2 := one_field (c := 1) (o := 2) rfl (by kernel_rfl) (hf 2 _ rfl)
    obtain ⟨x2, e2, _, w2⟩ := DataW.trod_int Try.underlying3 h2
    obtain rfl : c2 = _ := (List.cons.inj e2).1
    have h3 : DataW.trod enc Try.prog w base spare held n' 3 [c3] = some y3 := one_field (c := 1) (o := 3) rfl (by kernel_rfl) (hf 3 _ rfl)
    obtain ⟨x3, e3, _, w3⟩ := DataW.trod_int Try.underlying3 h3
    obtain rfl : c3 = _ := (List.cons.inj e3).1
    have h4 : DataW.trod enc Try.prog w base spare held n' 3 [c4] = some y4 := one_field (c := 1) (o := 4) rfl (by kernel_rfl) (hf 4 _ rfl)
    obtain ⟨x4, e4, _, w4⟩ := DataW.trod_int Try.underlying3 h4
    obtain rfl : c4 = _ := (List.cons.inj e4).1
    exact ⟨x0, x1, x2, x3, x4, rfl, w0, w1, w2, w3, w4⟩
set_option maxRecDepth 100000 in
theorem lifted (os : Os) (started : os.Started) (H : Type) (enc : TypeId × Value → H) :
    ReturnsInHanded {} Try.checked os 8 .any (Rows.fnExactWidestPassageSpec.pre6 enc Try.prog Try.f8 Rows.fnExactWidestPassageRow.domain false) (Rows.fnExactWidestPassageSpec.post enc Try.prog Try.f8 false true false false) := by
  refine returnsInHanded_of_change_sized (C := Try.checked) own started (by kernel_rfl) Try.func8
    (ChangeSpec.witness6 (enc := enc) (C := Try.checked) false ⟨#[], #[.slice none 0 0], []⟩ 8 (by kernel_rfl) (by kernel_rfl) (by kernel_rfl) (by kernel_rfl)) ?_
  intro W base args ds gs before hval0 hW hcnd hsz0 _
  have hsz : (DataW.weightsEach Try.prog (Try.f8.params.toList ++ Rows.fnExactWidestPassageSpec.plain.varTypes Try.prog) (ds ++ gs)).all (· ≤ reachBytes) = true := hsz0
  have hval : ∀ (j : Nat) t v, Try.f8.params[j]? = some t → args[j]? = some v → Value.okWide Try.prog W .any base t v := hval0
  have hW' := hW
  obtain ⟨p, q, hA0, hV, rfl, hfz, hnd⟩ := hW
  have hA : DataW.TrodAll enc Try.prog W 0 (fun _ => true) true Try.f8.params.toList args.toList ds p := hA0
  rw [Try.params8] at hA hval hsz
  obtain ⟨v0, vs0, d0, ds0, p0, q0, hargs, rfl, rfl, h0, r0⟩ := trodAll_cons hA
  obtain ⟨rfl, rfl, rfl⟩ := trodAll_nil r0
  obtain rfl : args = #[v0] := by cases args; simp_all
  obtain ⟨rfl, rfl⟩ := trodVars_none hV
  have k0 := h0
  have lt0 : ∀ x ∈ p0, x.block < W.heap.size := by obtain ⟨m, hm⟩ := k0; exact DataW.trod_lt m _ _ _ hm
  obtain ⟨a0, len0, cap0, rfl⟩ := okWide_slice Try.underlying48 (hval 0 48 v0 rfl rfl)
  obtain ⟨l0, hl0, hc0, hr0, hw0⟩ := open_row k29 (Q := fun x => (Lit.int .i64 x.f0).wf = true ∧ (Lit.int .i64 x.f1).wf = true ∧ (Lit.int .i64 x.f2).wf = true ∧ (Lit.int .i64 x.f3).wf = true ∧ (Lit.int .i64 x.f4).wf = true) (e := 29) Try.underlying48 (by kernel_rfl) (fun _ _ _ h => by obtain ⟨x0, x1, x2, x3, x4, rfl, hw⟩ := open_29 h; exact ⟨⟨x0, x1, x2, x3, x4⟩, k29_mk _ _, hw⟩) h0
  have y0 : len0 * 40 ≤ 140737488351232 := sized_row hsz (j := 0) (t := 48) rfl rfl Try.underlying48 (by kernel_rfl) h0
  subst hl0
  clear hA0 hval0 hsz0 hsz
  obtain ⟨k, hk⟩ := Pure.FnExactWidestPassage l0 y0 hw0
  refine (laws_FnExactWidestPassage.calls k _ _ l0 true W hr0 hc0 hk).mono fun e W' ⟨he, hb⟩ => ?_
  have bel : Below W.heap.size W W' := hb
  subst he
  exact ⟨_, rfl, _, _, _, [], _, [], hW', trodAll_mk1 (shut_bool Try.underlying4 _), (trodAll_cons_mk (Below.trod laidOut (by kernel_rfl) (of_decide_eq_true (by kernel_rfl)) k0 bel lt0) trodAll_mk0), rfl, bel.frame _, fun h => by cases h⟩
theorem over : Rows.fnExactWidestPassageRow.holds Try.pinned (OpenSpec.ofChange Rows.fnExactWidestPassageSpec) :=
  OpenClaim.holds_of_wide 8 Try.f8 rfl rfl rfl rfl rfl rfl rfl ⟨rfl, rfl, rfl, rfl, rfl⟩ rfl rfl rfl rfl rfl (by kernel_rfl) Try.func8 (by kernel_rfl)
    (of_decide_eq_true (by kernel_rfl)) (by unfold Func.isWrapper; first | (rw [if_pos (by decide +kernel)]; kernel_rfl) | (rw [if_neg (by decide +kernel)]; exact ⟨rfl, rfl⟩))
    (fun os started H enc _ => lifted os started H enc)
theorem proved : Rows.FnExactWidestPassageSaid := over
#print axioms proved
end Go.Proofs.Ytmnjgbhgppopfaa.fnExactWidestPassage
namespace Go.Proofs.Ytmnjgbhgppopfaa
/-- The row, under a short name, for the claim. -/
theorem fnExactWidestPassage_holds : Rows.FnExactWidestPassageSaid := fnExactWidestPassage.proved
end Go.Proofs.Ytmnjgbhgppopfaa
