/- A fixed leg, in plain: the reference's FixLeg. -/
import Derived.Test.YtiooiefjcbooeaaDoorKFnExactFixLegVMore
import Derived.Test.YtiooiefjcbooeaaDoorKFnExactFixLeg0
import Derived.Test.YtiooiefjcbooeaaDoorKFnExactFixLeg1
import Derived.Test.YtiooiefjcbooeaaDoorKFnExactFixLeg2
import Derived.Test.YtiooiefjcbooeaaDoorKFnExactFixLeg3
import Derived.Test.YtiooiefjcbooeaaDoorKFnExactFixLegU1
/- Plain lemmas on integers that wrap at 64 bits, on answers that come after enough rounds, on tests over all indexes of a list. No program stands here. -/
namespace Go.Proofs.YtiooiefjcbooeaaDoor.Plain
open Go.RowKit Go.Proofs.YtiooiefjcbooeaaDoorW.PrintWords

theorem w64 {x : Int} (h1 : -9223372036854775808 ≤ x) (h2 : x ≤ 9223372036854775807) : wrap64 x = x := by
  unfold wrap64
  omega

/-- The product of two numbers that are bounded. -/
theorem mul_bound {x y : Int} (A B : Int) (h1 : -A ≤ x) (h2 : x ≤ A) (h3 : -B ≤ y) (h4 : y ≤ B) : -(A * B) ≤ x * y ∧ x * y ≤ A * B := by
  have e1 : 0 ≤ (A - x) * (B - y) := Int.mul_nonneg (by omega) (by omega)
  have e2 : 0 ≤ (A + x) * (B + y) := Int.mul_nonneg (by omega) (by omega)
  have e3 : 0 ≤ (A - x) * (B + y) := Int.mul_nonneg (by omega) (by omega)
  have e4 : 0 ≤ (A + x) * (B - y) := Int.mul_nonneg (by omega) (by omega)
  simp only [Int.sub_mul, Int.mul_sub, Int.add_mul, Int.mul_add] at e1 e2 e3 e4
  omega

/-! ### Answers after enough rounds -/
theorem Ev.some {α : Type} {g : Nat → Option α} {r : α} (h : ∀ k, g k = some r) : Ev g r := ⟨0, fun k _ => h k⟩
theorem Ev.ite {α : Type} {c : Prop} [Decidable c] {g f : Nat → Option α} {r q : α} (h : c → Ev g r) (k : ¬ c → Ev f q) : Ev (fun n => if c then g n else f n) (if c then r else q) := by
  by_cases hc : c
  · obtain ⟨K, hK⟩ := h hc
    exact ⟨K, fun n hn => by simp only [if_pos hc]; exact hK n hn⟩
  · obtain ⟨K, hK⟩ := k hc
    exact ⟨K, fun n hn => by simp only [if_neg hc]; exact hK n hn⟩
theorem Ev.pos {α : Type} {c : Prop} [Decidable c] {g f : Nat → Option α} {r : α} (hc : c) (h : Ev g r) : Ev (fun n => if c then g n else f n) r := by
  obtain ⟨K, hK⟩ := h
  exact ⟨K, fun n hn => by simp only [if_pos hc]; exact hK n hn⟩
theorem Ev.neg {α : Type} {c : Prop} [Decidable c] {g f : Nat → Option α} {r : α} (hc : ¬ c) (h : Ev f r) : Ev (fun n => if c then g n else f n) r := by
  obtain ⟨K, hK⟩ := h
  exact ⟨K, fun n hn => by simp only [if_neg hc]; exact hK n hn⟩
theorem Ev.bindc {α β : Type} {o : Option α} {f : Nat → α → Option β} {a : α} {r : β} (h : o = Option.some a) (k : Ev (fun n => f n a) r) : Ev (fun n => o.bind (f n)) r := by
  obtain ⟨K, hK⟩ := k
  exact ⟨K, fun n hn => by rw [h]; exact hK n hn⟩
theorem Ev.uniq {α : Type} {g : Nat → Option α} {r q : α} (h : Ev g r) (k : Ev g q) : r = q := by
  obtain ⟨K, h⟩ := h
  obtain ⟨K', k⟩ := k
  have h1 := h (max K K') (by omega)
  have h2 := k (max K K') (by omega)
  rw [h1] at h2
  exact Option.some.inj h2

/-! ### A test of all indexes from one on -/
def allFrom (P : Nat → Bool) : Nat → Nat → Bool
  | _, 0 => true
  | i, d + 1 => P i && allFrom P (i + 1) d
theorem allFrom_iff (P : Nat → Bool) : ∀ (d i : Nat), allFrom P i d = true ↔ ∀ j, i ≤ j → j < i + d → P j = true
  | 0, i => ⟨fun _ j h1 h2 => by omega, fun _ => rfl⟩
  | d + 1, i => by
    rw [allFrom, Bool.and_eq_true, allFrom_iff P d (i + 1)]
    constructor
    · rintro ⟨h0, h1⟩ j hj hj2
      by_cases e : j = i
      · subst e
        exact h0
      · exact h1 j (by omega) (by omega)
    · intro h
      exact ⟨h i (by omega) (by omega), fun j hj hj2 => h j (by omega) (by omega)⟩
theorem allFrom_all {α : Type} (l : List α) (d : α) (p : α → Bool) : allFrom (fun i => p (l.getD i d)) 0 l.length = l.all p := by
  rw [Bool.eq_iff_iff, allFrom_iff, List.all_eq_true]
  constructor
  · intro h x hx
    obtain ⟨j, hj, rfl⟩ := List.getElem_of_mem hx
    have := h j (by omega) (by omega)
    simpa [List.getD, hj] using this
  · intro h j _ hj
    have hj' : j < l.length := by omega
    have := h l[j] (List.getElem_mem hj')
    simpa [List.getD, hj'] using this

/-! ### Loops that copy a list, or compare two -/
theorem copy_loop {α β : Type} (L : Nat → List α → List β → Int → Option (List β)) (cv : α → β) (z : α)
    (hL : ∀ k x0 x3 x4, L (k + 1) x0 x3 x4 = if x4 < (x0.length : Int) then (if 0 ≤ x4 then (if x4 < (x3.length : Int) then L k x0 (x3.set x4.toNat (cv (x0.getD x4.toNat z))) (wrap64 (x4 + 1)) else none) else none) else some x3)
    (x0 : List α) (hb : x0.length ≤ 140737488351232) : ∀ (d k i : Nat) (x3 : List β), x3.length = x0.length → i + d = x0.length → d < k → L k x0 x3 (i : Int) = some (x3.take i ++ (x0.drop i).map cv)
  | 0, k, i, x3, h3, hi, hk => by
    obtain ⟨k, rfl⟩ : ∃ m, k = m + 1 := ⟨k - 1, by omega⟩
    rw [hL, if_neg (by omega), List.drop_of_length_le (by omega), List.take_of_length_le (by omega)]
    simp
  | d + 1, k, i, x3, h3, hi, hk => by
    obtain ⟨k, rfl⟩ : ∃ m, k = m + 1 := ⟨k - 1, by omega⟩
    have hil : i < x0.length := by omega
    rw [hL, if_pos (by omega), if_pos (by omega), if_pos (by omega), w64 (by omega) (by omega)]
    have e := copy_loop L cv z hL x0 hb d k (i + 1) (x3.set i (cv (x0.getD i z))) (by simpa using h3) (by omega) (by omega)
    rw [Int.toNat_natCast, show ((i : Int) + 1) = ((i + 1 : Nat) : Int) by omega, e]
    congr 1
    rw [List.drop_eq_getElem_cons hil, List.map_cons]
    have hx3 : i < x3.length := by omega
    rw [List.take_succ_eq_append_getElem (by simpa using hx3), List.take_set_of_le (by omega)]
    simp [List.getD, hil]

theorem copy_all {α β : Type} (L : Nat → List α → List β → Int → Option (List β)) (cv : α → β) (z : α) (z' : β)
    (hL : ∀ k x0 x3 x4, L (k + 1) x0 x3 x4 = if x4 < (x0.length : Int) then (if 0 ≤ x4 then (if x4 < (x3.length : Int) then L k x0 (x3.set x4.toNat (cv (x0.getD x4.toNat z))) (wrap64 (x4 + 1)) else none) else none) else some x3)
    (x0 : List α) (hb : x0.length ≤ 140737488351232) : Ev (fun k => L k x0 (List.replicate ((x0.length : Int) : Int).toNat z') 0) (x0.map cv) :=
  ⟨x0.length + 1, fun k hk => by
    have := copy_loop L cv z hL x0 hb x0.length k 0 (List.replicate x0.length z') (by simp) (by omega) (by omega)
    simpa using this⟩

theorem eq_loop {α : Type} (L : Nat → List α → List α → Int → Option Bool) 
    (hL : ∀ k x0 x4, 0 ≤ x4 → L (k + 1) x0 x0 x4 = if x4 < (x0.length : Int) then L k x0 x0 (wrap64 (x4 + 1)) else some true)
    (x0 : List α) (hb : x0.length ≤ 140737488351232) : ∀ (d k i : Nat), i + d = x0.length → d < k → L k x0 x0 (i : Int) = some true
  | 0, k, i, hi, hk => by
    obtain ⟨k, rfl⟩ : ∃ m, k = m + 1 := ⟨k - 1, by omega⟩
    rw [hL _ _ _ (by omega), if_neg (by omega)]
  | d + 1, k, i, hi, hk => by
    obtain ⟨k, rfl⟩ : ∃ m, k = m + 1 := ⟨k - 1, by omega⟩
    rw [hL _ _ _ (by omega), if_pos (by omega), w64 (by omega) (by omega), show ((i : Int) + 1) = ((i + 1 : Nat) : Int) by omega]
    exact eq_loop L hL x0 hb d k (i + 1) (by omega) (by omega)

theorem eq_all {α : Type} (L : Nat → List α → List α → Int → Option Bool) 
    (hL : ∀ k x0 x4, 0 ≤ x4 → L (k + 1) x0 x0 x4 = if x4 < (x0.length : Int) then L k x0 x0 (wrap64 (x4 + 1)) else some true)
    (x0 : List α) (hb : x0.length ≤ 140737488351232) : Ev (fun k => L k x0 x0 0) true :=
  ⟨x0.length + 1, fun k hk => eq_loop L hL x0 hb x0.length k 0 (by omega) (by omega)⟩

/-- A loop that asks a test of each index, and says no at the first that fails. -/
theorem all_loop (P : Nat → Bool) (n : Nat) (hn : n ≤ 140737488351232) (L : Nat → Int → Option Bool) (fin : Option Bool)
    (hL : ∀ k i, i < n → L (k + 1) (i : Int) = if P i = true then L k (wrap64 (i + 1)) else some false) (hend : ∀ k, L (k + 1) (n : Int) = fin) :
    ∀ (d k i : Nat), i + d = n → d < k → L k (i : Int) = if allFrom P i d = true then fin else some false
  | 0, k, i, hi, hk => by
    obtain ⟨k, rfl⟩ : ∃ m, k = m + 1 := ⟨k - 1, by omega⟩
    obtain rfl : i = n := by omega
    rw [hend, allFrom, if_pos rfl]
  | d + 1, k, i, hi, hk => by
    obtain ⟨k, rfl⟩ : ∃ m, k = m + 1 := ⟨k - 1, by omega⟩
    rw [hL _ _ (by omega), w64 (by omega) (by omega), show ((i : Int) + 1) = ((i + 1 : Nat) : Int) by omega, all_loop P n hn L fin hL hend d k (i + 1) (by omega) (by omega), allFrom]
    cases P i <;> simp

theorem all_ev (P : Nat → Bool) (n : Nat) (hn : n ≤ 140737488351232) (L : Nat → Int → Option Bool) (fin : Option Bool)
    (hL : ∀ k i, i < n → L (k + 1) (i : Int) = if P i = true then L k (wrap64 (i + 1)) else some false) (hend : ∀ k, L (k + 1) (n : Int) = fin) :
    ∃ K, ∀ k, K ≤ k → L k 0 = if allFrom P 0 n = true then fin else some false :=
  ⟨n + 1, fun k hk => all_loop P n hn L fin hL hend n k 0 (by omega) (by omega)⟩

/-! ### Marks: a law writes numbers into what came out, and looks whether they are still there -/
def marks {α : Type} (mk : Int → α) (s : Int) : Int → Nat → List α
  | _, 0 => []
  | a, n + 1 => mk a :: marks mk s (a + s) n
theorem marks_length {α : Type} (mk : Int → α) (s : Int) : ∀ (n : Nat) (a : Int), (marks mk s a n).length = n
  | 0, _ => rfl
  | n + 1, a => by rw [marks, List.length_cons, marks_length mk s n]
theorem marks_snoc {α : Type} (mk : Int → α) (s : Int) : ∀ (n : Nat) (a : Int), marks mk s a (n + 1) = marks mk s a n ++ [mk (a + s * n)]
  | 0, a => by simp [marks]
  | n + 1, a => by
    rw [marks, marks_snoc mk s n (a + s), marks]
    have e : a + s + s * (n : Int) = a + s * ((n + 1 : Nat) : Int) := by rw [Int.natCast_add, Int.mul_add]; omega
    rw [e]
    rfl
theorem marks_get {α : Type} (mk : Int → α) (s : Int) (z : α) : ∀ (n : Nat) (a : Int) (i : Nat), i < n → (marks mk s a n).getD i z = mk (a + s * i)
  | 0, _, _, h => by omega
  | n + 1, a, 0, _ => by simp [marks]
  | n + 1, a, i + 1, h => by
    rw [marks, List.getD_cons_succ, marks_get mk s z n (a + s) i (by omega)]
    have e : a + s + s * (i : Int) = a + s * ((i + 1 : Nat) : Int) := by rw [Int.natCast_add, Int.mul_add]; omega
    rw [e]
theorem mark_bound {a s : Int} {i n : Nat} (h0 : 0 ≤ a) (h1 : a ≤ 1000000000000) (hs : 0 ≤ s) (hs' : s ≤ 100) (hi : i ≤ n) (hn : n ≤ 140737488351232) : 0 ≤ a + s * i ∧ a + s * i ≤ 20000000000000000 := by
  have e1 : 0 ≤ s * (i : Int) := Int.mul_nonneg hs (by omega)
  have e2 : s * (i : Int) ≤ 100 * (i : Int) := Int.mul_le_mul_of_nonneg_right hs' (by omega)
  omega
theorem mark_all {α : Type} (L : Nat → List α → Int → Int → Option (Int × List α)) (mk : Int → α) (s : Int) (hs : 0 ≤ s) (hs' : s ≤ 100)
    (hL : ∀ (k : Nat) (x : List α) (a : Int) (i : Nat), i < x.length → x.length ≤ 140737488351232 → 0 ≤ a → a ≤ 20000000000000000 → L (k + 1) x a (i : Int) = L k (x.set i (mk a)) (a + s) ((i + 1 : Nat) : Int)) (hend : ∀ k x a, L (k + 1) x a (x.length : Int) = some (a, x))
    (l : List α) (a : Int) (hb : l.length ≤ 140737488351232) (h0 : 0 ≤ a) (h1 : a ≤ 1000000000000) : Ev (fun k => L k l a 0) (a + s * l.length, marks mk s a l.length) := by
  have key : ∀ (d i : Nat) (x : List α), x.length = l.length → i + d = l.length → x.take i = marks mk s a i → Ev (fun k => L k x (a + s * i) (i : Int)) (a + s * l.length, marks mk s a l.length) := by
    intro d
    induction d with
    | zero =>
      intro i x hx hi ht
      obtain rfl : i = x.length := by omega
      refine Ev.step (f := fun _ => some (a + s * (x.length : Int), x)) (fun k => hend k x _) ?_
      rw [List.take_of_length_le (Nat.le_refl _)] at ht
      rw [← hx, ← ht]
      exact Ev.now _
    | succ d ih =>
      intro i x hx hi ht
      have hil : i < x.length := by omega
      have hbd := mark_bound h0 h1 hs hs' (show i ≤ l.length by omega) hb
      have e : a + s * (i : Int) + s = a + s * ((i + 1 : Nat) : Int) := by rw [Int.natCast_add, Int.mul_add]; omega
      refine Ev.step (f := fun k => L k (x.set i (mk (a + s * i))) (a + s * ((i + 1 : Nat) : Int)) ((i + 1 : Nat) : Int)) (fun k => by rw [hL k x _ i hil (by omega) hbd.1 hbd.2, e]) ?_
      refine ih (i + 1) _ (by simpa using hx) (by omega) ?_
      rw [List.take_succ_eq_append_getElem (by simpa using hil), List.take_set_of_le (by omega), ht, marks_snoc]
      simp
  have := key l.length 0 l rfl (by omega) rfl
  simpa using this
theorem held_all {α : Type} (H : Nat → List α → Int → Int → Option Int) (mk : Int → α) (z : α) (s : Int) (hs : 0 ≤ s) (hs' : s ≤ 100)
    (hH : ∀ (k : Nat) (x : List α) (a : Int) (i : Nat), i < x.length → x.length ≤ 140737488351232 → 0 ≤ a → a ≤ 20000000000000000 → x.getD i z = mk a → H (k + 1) x a (i : Int) = H k x (a + s) ((i + 1 : Nat) : Int)) (hend : ∀ k x a, H (k + 1) x a (x.length : Int) = some a)
    (n : Nat) (a : Int) (hb : n ≤ 140737488351232) (h0 : 0 ≤ a) (h1 : a ≤ 1000000000000) : Ev (fun k => H k (marks mk s a n) a 0) (a + s * n) := by
  have key : ∀ (d i : Nat), i + d = n → Ev (fun k => H k (marks mk s a n) (a + s * i) (i : Int)) (a + s * n) := by
    intro d
    induction d with
    | zero =>
      intro i hi
      obtain rfl : i = n := by omega
      refine Ev.step (f := fun _ => some (a + s * (i : Int))) (fun k => ?_) (Ev.now _)
      have := hend k (marks mk s a i) (a + s * i)
      rwa [marks_length] at this
    | succ d ih =>
      intro i hi
      have hbd := mark_bound h0 h1 hs hs' (show i ≤ n by omega) hb
      have e : a + s * (i : Int) + s = a + s * ((i + 1 : Nat) : Int) := by rw [Int.natCast_add, Int.mul_add]; omega
      exact Ev.step (fun k => by rw [hH k _ _ i (by rw [marks_length]; omega) (by rw [marks_length]; omega) hbd.1 hbd.2 (marks_get mk s z n a i (by omega)), e]) (ih (i + 1) (by omega))
  have := key n 0 (by omega)
  simpa using this

end Go.Proofs.YtiooiefjcbooeaaDoor.Plain

/- The reference's network, in plain: membership, putting into an ascending list, the shift of a leg, the placing. Conditions: valid legs. -/
namespace Go.Proofs.YtiooiefjcbooeaaDoor.Net
open Go.RowKit Go.Proofs.YtiooiefjcbooeaaDoorW.PrintWords Go.Proofs.YtiooiefjcbooeaaDoorW.PrintLast Go.Proofs.YtiooiefjcbooeaaDoorW.PrintMore Go.Proofs.YtiooiefjcbooeaaDoor.A Go.Proofs.YtiooiefjcbooeaaDoor.Plain
open Go.Proofs.YtiooiefjcbooeaaDoor.Tree (verts legs)
open Go.Proofs.YtiooiefjcbooeaaDoor.Grow (Q sweep grow)
set_option linter.unusedVariables false
set_option linter.unusedSimpArgs false
theorem Ev.step_ge {α : Type} {g f : Nat → Option α} {r : α} (N : Nat) (h : ∀ k, N ≤ k → g (k + 1) = f k) (k : Ev f r) : Ev g r := by
  obtain ⟨K, hK⟩ := k
  refine ⟨max N K + 1, fun m hm => ?_⟩
  obtain ⟨m, rfl⟩ : ∃ x, m = x + 1 := ⟨m - 1, by omega⟩
  rw [h m (by omega)]
  exact hK m (by omega)
theorem has_loop (l : List Int) (n : Int) (hl : l.length ≤ 1000000) : ∀ (d i k : Nat), i + d = l.length → d < k → spec_l1Has.l0 k l n (i : Int) = some (decide (n ∈ l.drop i)) := by
  intro d
  induction d with
  | zero =>
    intro i k hi hk
    obtain ⟨k, rfl⟩ : ∃ m, k = m + 1 := ⟨k - 1, by omega⟩
    simp only [spec_l1Has.l0]
    rw [if_neg (by omega), List.drop_eq_nil_of_le (by omega)]
    simp
  | succ d ih =>
    intro i k hi hk
    obtain ⟨k, rfl⟩ : ∃ m, k = m + 1 := ⟨k - 1, by omega⟩
    have hlt : i < l.length := by omega
    have er : rd l (i : Int) = l[i] := by
      unfold rd
      rw [Int.toNat_natCast, List.getD_eq_getElem?_getD, List.getElem?_eq_getElem hlt]
      rfl
    have e : wrap64 ((i : Int) + 1) = ((i + 1 : Nat) : Int) := by rw [w64 (by omega) (by omega)]; omega
    rw [List.drop_eq_getElem_cons hlt]
    simp only [spec_l1Has.l0]
    by_cases hc : l[i] = n
    · rw [if_pos (by omega), if_pos (by omega), er, if_pos hc, hc]
      simp
    · have hd : decide (n ∈ l[i] :: l.drop (i + 1)) = decide (n ∈ l.drop (i + 1)) := by rw [decide_eq_decide, List.mem_cons]; exact ⟨fun h => h.resolve_left (fun e => hc e.symm), Or.inr⟩
      rw [if_pos (by omega), if_pos (by omega), er, if_neg hc, e, hd]
      exact ih (i + 1) k (by omega) (by omega)
theorem has_at (l : List Int) (n : Int) (hl : l.length ≤ 1000000) (k : Nat) (hk : l.length < k) : spec_l1Has.f k l n = some (decide (n ∈ l)) := has_loop l n hl l.length 0 k (by omega) hk
theorem has_ev (l : List Int) (n : Int) (hl : l.length ≤ 1000000) : Ev (fun k => spec_l1Has.f k l n) (decide (n ∈ l)) := ⟨l.length + 1, fun k hk => has_at l n hl k hk⟩
theorem put_split (n : Int) : ∀ (p s : List Int), (∀ x ∈ p, x < n) → (∀ y ∈ s.head?, n < y) → Sort.put (p ++ s) n = p ++ n :: s
  | [], [], _, _ => rfl
  | [], y :: s, _, h => by
    have := h y rfl
    simp only [List.nil_append, Sort.put]
    rw [if_neg (by omega), if_neg (by omega)]
  | x :: p, s, h, hs => by
    have := h x List.mem_cons_self
    simp only [List.cons_append, Sort.put]
    rw [if_pos this, put_split n p s (fun x hx => h x (List.mem_cons_of_mem _ hx)) hs]
theorem put_loop (l : List Int) (n : Int) (hl : l.length ≤ 1000000) (ha : Sort.Asc l) (hn : n ∉ l) : ∀ (d i k : Nat), i + d = l.length → d < k → (∀ x ∈ l.take i, x < n) → spec_l1Put.l0 k l n (i : Int) = some (Sort.put l n) := by
  intro d
  induction d with
  | zero =>
    intro i k hi hk h
    obtain ⟨k, rfl⟩ : ∃ m, k = m + 1 := ⟨k - 1, by omega⟩
    have e1 : Sort.put l n = l.take i ++ n :: l.drop i := by
      have := put_split n (l.take i) (l.drop i) h (by rw [List.drop_eq_nil_of_le (by omega)]; simp)
      rwa [List.take_append_drop] at this
    simp only [spec_l1Put.l0]
    rw [if_neg (by omega)]
    simp only [Option.bind_some, Int.toNat_natCast]
    rw [if_pos (by omega), if_pos (by omega), if_pos (by simp; omega), if_pos (by simp; omega), if_pos (by simp; omega), e1]
    simp
  | succ d ih =>
    intro i k hi hk h
    obtain ⟨k, rfl⟩ : ∃ m, k = m + 1 := ⟨k - 1, by omega⟩
    have hlt : i < l.length := by omega
    have er : rd l (i : Int) = l[i] := by
      unfold rd
      rw [Int.toNat_natCast, List.getD_eq_getElem?_getD, List.getElem?_eq_getElem hlt]
      rfl
    have e : wrap64 ((i : Int) + 1) = ((i + 1 : Nat) : Int) := by rw [w64 (by omega) (by omega)]; omega
    have hne : l[i] ≠ n := fun e => hn (e ▸ List.getElem_mem hlt)
    by_cases hc : l[i] < n
    · simp only [spec_l1Put.l0]
      rw [if_pos (by omega), if_pos (by omega), er, if_pos hc, e]
      refine ih (i + 1) k (by omega) (by omega) (fun x hx => ?_)
      · rw [List.take_succ_eq_append_getElem hlt, List.mem_append, List.mem_singleton] at hx
        rcases hx with hx | rfl
        · exact h x hx
        · exact hc
    · have e1 : Sort.put l n = l.take i ++ n :: l.drop i := by
        have := put_split n (l.take i) (l.drop i) h (by
          rw [List.drop_eq_getElem_cons hlt]
          intro y hy
          simp only [List.head?_cons, Option.mem_def, Option.some.injEq] at hy
          omega)
        rwa [List.take_append_drop] at this
      simp only [spec_l1Put.l0]
      rw [if_pos (by omega), if_pos (by omega), er, if_neg hc, if_neg hne]
      simp only [Option.bind_some, Int.toNat_natCast]
      rw [if_pos (by omega), if_pos (by simp; omega), if_pos (by simp; omega), if_pos (by simp; omega), e1]
      simp
theorem put_at (l : List Int) (n : Int) (hl : l.length ≤ 1000000) (ha : Sort.Asc l) (hn : n ∉ l) (k : Nat) (hk : l.length < k) : spec_l1Put.f k l n = some (Sort.put l n) := put_loop l n hl ha hn l.length 0 k (by omega) hk (by simp)
/-! ### The shift -/
theorem div_eq (a : Int) (h0 : -1000000000 ≤ a) (h1 : a ≤ 1000000000) : spec_l2Div.f a 1000 = some (rnd a) := by
  unfold spec_l2Div.f rnd
  have e2 : wrap64 (2 * 1000) = 2000 := by unfold wrap64; omega
  by_cases h : a < 0
  · have e1 : wrap64 ((-2) * a) = 2 * (-a) := by unfold wrap64; omega
    have e3 : wrap64 (2 * (-a) + 1000) = 2 * (-a) + 1000 := by unfold wrap64; omega
    have e4 : Int.tdiv (2 * (-a) + 1000) 2000 = (2 * (-a) + 1000) / 2000 := Int.tdiv_eq_ediv_of_nonneg (by omega)
    have e5 : wrap64 ((2 * (-a) + 1000) / 2000) = (2 * (-a) + 1000) / 2000 := by unfold wrap64; omega
    have e6 : wrap64 (-((2 * (-a) + 1000) / 2000)) = -((2 * (-a) + 1000) / 2000) := by unfold wrap64; omega
    rw [if_pos h, e2, if_neg (by decide), e1, e3, e4, e5, e6, if_pos h]
  · have e1 : wrap64 (2 * a) = 2 * a := by unfold wrap64; omega
    have e3 : wrap64 (2 * a + 1000) = 2 * a + 1000 := by unfold wrap64; omega
    have e4 : Int.tdiv (2 * a + 1000) 2000 = (2 * a + 1000) / 2000 := Int.tdiv_eq_ediv_of_nonneg (by omega)
    have e5 : wrap64 ((2 * a + 1000) / 2000) = (2 * a + 1000) / 2000 := by unfold wrap64; omega
    rw [if_neg h, e2, if_neg (by decide), e1, e3, e4, e5, if_neg h]
theorem table_eq : spec_l2Table.f = some Sine.tab := rfl
theorem sine_eq (a : Int) (h0 : -1000000 ≤ a) (h1 : a ≤ 1000000) : spec_l2Sine.f a = some (Sine.f a) := by
  have hm : Int.tmod (wrap64 (Int.tmod a 360 + 360)) 360 = a % 360 := by
    have e0 : Int.tmod a 360 = a % 360 ∨ Int.tmod a 360 = a % 360 - 360 := by
      rw [Int.tmod_eq_emod]
      split
      · left; omega
      · right; simp
    have e1 : wrap64 (Int.tmod a 360 + 360) = Int.tmod a 360 + 360 := by unfold wrap64; omega
    rw [e1, Int.tmod_eq_emod_of_nonneg (by omega)]
    omega
  unfold spec_l2Sine.f Sine.f
  simp only [hm]
  have g0 : 0 ≤ a % 360 := by omega
  have g1 : a % 360 < 360 := by omega
  generalize a % 360 = d at *
  have hlen : (Sine.tab.length : Int) = 91 := rfl
  have w1 : wrap64 (180 - d) = 180 - d := by unfold wrap64; omega
  have w2 : wrap64 (d - 180) = d - 180 := by unfold wrap64; omega
  have w3 : wrap64 (360 - d) = 360 - d := by unfold wrap64; omega
  have hb : ∀ i : Nat, wrap64 (-(Sine.tab.getD i 0)) = -(Sine.tab.getD i 0) := fun i => by have := Sine.getD_bound i; unfold wrap64; omega
  by_cases c1 : d ≤ 90
  · rw [if_pos c1, table_eq, Option.bind_some, if_pos g0, if_pos (by omega), if_pos (by omega)]
    unfold Sine.s rd
    rw [if_pos c1]
  · rw [if_neg c1]
    by_cases c2 : d ≤ 180
    · rw [if_pos c2, table_eq, Option.bind_some, w1, if_pos (by omega), if_pos (by omega), if_pos c2]
      unfold Sine.s rd
      rw [if_neg c1]
    · rw [if_neg c2, if_neg c2]
      by_cases c3 : d ≤ 270
      · rw [if_pos c3, table_eq, Option.bind_some, w2, if_pos (by omega), if_pos (by omega)]
        unfold Sine.s rd
        rw [if_pos (by omega), hb]
      · rw [if_neg c3, table_eq, Option.bind_some, w3, if_pos (by omega), if_pos (by omega)]
        unfold Sine.s rd
        rw [if_neg (by omega), hb, show 180 - (d - 180) = 360 - d by omega]
theorem cosine_eq (a : Int) (h0 : -100000 ≤ a) (h1 : a ≤ 100000) : spec_l2Cosine.f a = some (Sine.f (a + 90)) := by
  unfold spec_l2Cosine.f
  rw [w64 (by omega) (by omega), sine_eq _ (by omega) (by omega)]
  rfl
theorem shift_eq (x : S56) (h : Good x) : spec_l4Shift.f x.f0 x.f1 x.f2 x.f3 x.f4 = some ((shift x).f0, (shift x).f1, (shift x).f2) := by
  obtain ⟨_, _, _, h2, h3, h4⟩ := h
  have a := part_bound x.f2 x.f4 500 (by omega) (by omega)
  have p1 := prod_bound x.f2 (x.f4 + 90) (by omega) (by omega)
  have p2 := prod_bound x.f2 x.f4 (by omega) (by omega)
  have p3 := prod_bound (part x.f2 x.f4).1 (x.f3 + 90) (by omega) (by omega)
  have p4 := prod_bound (part x.f2 x.f4).1 x.f3 (by omega) (by omega)
  have ep : rnd (x.f2 * Sine.f (x.f4 + 90)) = (part x.f2 x.f4).1 := rfl
  unfold spec_l4Shift.f
  rw [cosine_eq _ (by omega) (by omega), Option.bind_some, w64 (by omega) (by omega), div_eq _ (by omega) (by omega), Option.bind_some, ep, sine_eq _ (by omega) (by omega), Option.bind_some, w64 (by omega) (by omega), div_eq _ (by omega) (by omega), Option.bind_some,
    cosine_eq _ (by omega) (by omega), Option.bind_some, w64 (by omega) (by omega), div_eq _ (by omega) (by omega), Option.bind_some, sine_eq _ (by omega) (by omega), Option.bind_some, w64 (by omega) (by omega), div_eq _ (by omega) (by omega), Option.bind_some]
  rfl
/-! ### The placing -/
def plL : Q → List Int
  | [] => [0]
  | (_, _, s) :: q => Sort.put (plL q) s
def trL : Q → List Int
  | [] => []
  | (i, _, _) :: q => Sort.put (trL q) i
def XL (ls : L) (q : Q) : List S34 := (List.range 8).map (Xq ls q)
theorem mem_plL (q : Q) (s : Int) : s ∈ plL q ↔ s ∈ verts 0 q := by
  induction q with
  | nil => simp [plL, verts]
  | cons x q ih =>
    obtain ⟨i, u, t⟩ := x
    simp only [plL, Sort.mem_put, ih, verts, List.map_cons, List.mem_cons]
    constructor
    · rintro (h | h | h)
      · exact Or.inr (Or.inl h)
      · exact Or.inl h
      · exact Or.inr (Or.inr h)
    · rintro (h | h | h)
      · exact Or.inr (Or.inl h)
      · exact Or.inl h
      · exact Or.inr (Or.inr h)
theorem mem_trL (q : Q) (i : Int) : i ∈ trL q ↔ i ∈ legs q := by
  induction q with
  | nil => simp [trL, legs]
  | cons x q ih =>
    obtain ⟨j, u, t⟩ := x
    simp only [trL, Sort.mem_put, ih, legs, List.map_cons, List.mem_cons]
theorem put_len_le (l : List Int) (n : Int) : (Sort.put l n).length ≤ l.length + 1 := by
  induction l with
  | nil => simp [Sort.put]
  | cons x l ih =>
    simp only [Sort.put]
    split
    · simp; omega
    · split <;> simp
theorem asc_plL (q : Q) : Sort.Asc (plL q) := by
  induction q with
  | nil => simp [plL, Sort.Asc]
  | cons x q ih => exact Sort.asc_put ih _
theorem asc_trL (q : Q) : Sort.Asc (trL q) := by
  induction q with
  | nil => simp [trL, Sort.Asc]
  | cons x q ih => exact Sort.asc_put ih _
theorem plL_len (q : Q) : (plL q).length ≤ q.length + 1 := by
  induction q with
  | nil => simp [plL]
  | cons x q ih =>
    obtain ⟨i, u, s⟩ := x
    have := put_len_le (plL q) s
    simp only [plL, List.length_cons]
    omega
theorem trL_len (q : Q) : (trL q).length ≤ q.length := by
  induction q with
  | nil => simp [trL]
  | cons x q ih =>
    obtain ⟨i, u, s⟩ := x
    have := put_len_le (trL q) i
    simp only [trL, List.length_cons]
    omega
theorem XL_len (ls : L) (q : Q) : (XL ls q).length = 8 := by simp [XL]
theorem XL_at (ls : L) (q : Q) (a : Nat) (h : a < 8) : rd_T34 (XL ls q) (a : Int) = Xq ls q a := by
  unfold rd_T34 XL
  rw [Int.toNat_natCast, List.getD_eq_getElem?_getD, List.getElem?_map, List.getElem?_range h]
  rfl
theorem XL_set (ls : L) (q q' : Q) (d : Nat) (v : S34) (h : ∀ i, i < 8 → Xq ls q' i = if i = d then v else Xq ls q i) : (XL ls q).set d v = XL ls q' := by
  apply List.ext_getElem
  · simp [XL]
  · intro i h1 h2
    rw [List.getElem_set]
    simp only [XL, List.getElem_map, List.getElem_range]
    have hi : i < 8 := by simpa [XL] using h2
    rw [h i hi]
    by_cases e : i = d
    · subst e; simp
    · rw [if_neg e, if_neg (fun e' => e e'.symm)]
theorem leg_good {ls : L} (hg : ∀ x ∈ ls, Good x) (i : Nat) (hi : i < ls.length) : Good (leg ls (i : Int)) := hg _ (by
  unfold leg rd_T56
  rw [Int.toNat_natCast, List.getD_eq_getElem?_getD, List.getElem?_eq_getElem hi]
  exact List.getElem_mem _)
/-- One leg. -/
theorem one_leg (ls : L) (hn : ls.length ≤ 12) (hg : ∀ x ∈ ls, Good x) (q : Q) (ok : Grow.Ok (ends ls) ls.length q) (i : Nat) (hi : i < ls.length) (b : Bool) (hb : q.length ≤ 7) (r : List S34 × List Int × List Int)
    (h : ∀ b', b' = (b || decide (q.length < (Grow.step (ends ls) q i).length)) → Ev (fun k => spec_l6Place.l1 k ls (XL ls (Grow.step (ends ls) q i)) (plL (Grow.step (ends ls) q i)) (trL (Grow.step (ends ls) q i)) b' ((i + 1 : Nat) : Int)) r) :
    Ev (fun k => spec_l6Place.l1 k ls (XL ls q) (plL q) (trL q) b (i : Int)) r := by
  have b1 : (i : Int) < (ls.length : Int) := Int.ofNat_lt.mpr hi
  have b0 : (0 : Int) ≤ (i : Int) := Int.natCast_nonneg i
  have e : wrap64 ((i : Int) + 1) = ((i + 1 : Nat) : Int) := by rw [w64 (by omega) (by omega)]; omega
  have hgood := leg_good hg i hi
  have hE : ends ls i = ((leg ls i).f0, (leg ls i).f1) := rfl
  have hrd : rd_T56 ls (i : Int) = leg ls i := rfl
  have hsh := shift_eq _ hgood
  generalize hx : leg ls (i : Int) = x at hgood hE hrd hsh
  obtain ⟨⟨a0, a8⟩, ⟨d0, d8⟩, had, _⟩ := hgood
  obtain ⟨a, ha⟩ := Int.eq_ofNat_of_zero_le a0
  obtain ⟨d, hd⟩ := Int.eq_ofNat_of_zero_le d0
  rw [ha, hd] at had hE
  have ka0 : (0 : Int) ≤ (a : Int) := Int.natCast_nonneg a
  have kd0 : (0 : Int) ≤ (d : Int) := Int.natCast_nonneg d
  rw [ha] at a8
  rw [hd] at d8
  have na8 : a < 8 := Int.ofNat_lt.mp a8
  have nd8 : d < 8 := Int.ofNat_lt.mp d8
  have hlen : ((XL ls q).length : Int) = 8 := by rw [XL_len]; rfl
  have ka1 : (a : Int) < ((XL ls q).length : Int) := by rw [hlen]; exact Int.ofNat_lt.mpr na8
  have kd1 : (d : Int) < ((XL ls q).length : Int) := by rw [hlen]; exact Int.ofNat_lt.mpr nd8
  have l1 : (plL q).length ≤ 8 := Nat.le_trans (plL_len q) (Nat.succ_le_succ hb)
  have l2 : (trL q).length ≤ 7 := Nat.le_trans (trL_len q) hb
  have l1m : (plL q).length ≤ 1000000 := Nat.le_trans l1 (by decide)
  have l2m : (trL q).length ≤ 1000000 := Nat.le_trans l2 (by decide)
  have l1k : ∀ {k : Nat}, 20 ≤ k → (plL q).length < k := fun hk => Nat.lt_of_le_of_lt l1 (Nat.lt_of_lt_of_le (by decide : 8 < 20) hk)
  have l2k : ∀ {k : Nat}, 20 ≤ k → (trL q).length < k := fun hk => Nat.lt_of_le_of_lt l2 (Nat.lt_of_lt_of_le (by decide : 7 < 20) hk)
  have A1 := fun k (hk : 20 ≤ k) => has_at (plL q) (a : Int) l1m k (l1k hk)
  have D1 := fun k (hk : 20 ≤ k) => has_at (plL q) (d : Int) l1m k (l1k hk)
  simp only [mem_plL] at A1 D1
  have hitr : ¬ ((a : Int) ∈ verts 0 q ∧ (d : Int) ∈ verts 0 q) → (i : Int) ∉ trL q := by
    intro c h
    rw [mem_trL] at h
    have := ok.legs_ends _ h
    rw [hE] at this
    exact c ⟨this.1, this.2.1⟩
  have na : ∀ {c : Nat}, (c : Int) ∉ verts 0 q → (c : Int) ∉ plL q := fun h h' => h ((mem_plL q _).mp h')
  by_cases pa : (a : Int) ∈ verts 0 q
  · by_cases pd : (d : Int) ∈ verts 0 q
    · have hs : Grow.step (ends ls) q i = q := by
        unfold Grow.step
        rw [hE, if_neg (fun c => c.2 pd), if_neg (fun c => c.2 pa)]
      rw [hs] at h
      refine Ev.step_ge 20 (f := fun k => spec_l6Place.j2 k ls (XL ls q) (plL q) (trL q) b (i : Int) (a : Int) (d : Int) false) (fun k hk => ?_) ?_
      · simp only [spec_l6Place.l1]
        rw [if_pos b1, if_pos b0, hrd, ha, hd, A1 k hk, Option.bind_some, decide_eq_true pa, if_pos rfl, D1 k hk, Option.bind_some, decide_eq_true pd]
        rfl
      refine Ev.step_ge 20 (f := fun k => spec_l6Place.j3 k ls (XL ls q) (plL q) (trL q) b (i : Int) (a : Int) (d : Int) false) (fun k hk => ?_) ?_
      · simp only [spec_l6Place.j2]
        rw [if_neg (by decide), D1 k hk, Option.bind_some, decide_eq_true pd, if_pos rfl, A1 k hk, Option.bind_some, decide_eq_true pa]
        rfl
      refine Ev.step_ge 20 (fun k hk => ?_) (h b (by simp))
      simp only [spec_l6Place.j3]
      rw [if_neg (by decide), e]
    · have hs : Grow.step (ends ls) q i = ((i : Int), (a : Int), (d : Int)) :: q := by
        unfold Grow.step
        rw [hE, if_pos ⟨pa, pd⟩]
      rw [hs] at h
      refine Ev.step_ge 20 (f := fun k => spec_l6Place.j2 k ls (XL ls q) (plL q) (trL q) b (i : Int) (a : Int) (d : Int) true) (fun k hk => ?_) ?_
      · simp only [spec_l6Place.l1]
        rw [if_pos b1, if_pos b0, hrd, ha, hd, A1 k hk, Option.bind_some, decide_eq_true pa, if_pos rfl, D1 k hk, Option.bind_some, decide_eq_false pd]
        rfl
      refine Ev.step_ge 20 (fun k hk => ?_) (h true (by simp))
      simp only [spec_l6Place.j2]
      rw [if_pos trivial, if_pos ka0, if_pos ka1, if_pos b0, if_pos b1, hrd, hsh, Option.bind_some]
      simp only [spec_l4Plus.f, Option.bind_some]
      rw [if_pos kd0, if_pos kd1, put_at _ _ l1m (asc_plL q) (na pd) k (l1k hk), Option.bind_some, put_at _ _ l2m (asc_trL q) (hitr (fun c => pd c.2)) k (l2k hk), Option.bind_some, e, XL_at _ _ _ na8, Int.toNat_natCast]
      rw [← XL_set ls q (((i : Int), (a : Int), (d : Int)) :: q) d (plus (Xq ls q a) (shift x) 1) (fun s _ => Xq_fore hE hx s)]
      rfl
  · by_cases pd : (d : Int) ∈ verts 0 q
    · have hs : Grow.step (ends ls) q i = ((i : Int), (d : Int), (a : Int)) :: q := by
        unfold Grow.step
        rw [hE, if_neg (fun c => pa c.1), if_pos ⟨pd, pa⟩]
      rw [hs] at h
      refine Ev.step_ge 20 (f := fun k => spec_l6Place.j2 k ls (XL ls q) (plL q) (trL q) b (i : Int) (a : Int) (d : Int) false) (fun k hk => ?_) ?_
      · simp only [spec_l6Place.l1]
        rw [if_pos b1, if_pos b0, hrd, ha, hd, A1 k hk, Option.bind_some, decide_eq_false pa, if_neg (by decide)]
      refine Ev.step_ge 20 (f := fun k => spec_l6Place.j3 k ls (XL ls q) (plL q) (trL q) b (i : Int) (a : Int) (d : Int) true) (fun k hk => ?_) ?_
      · simp only [spec_l6Place.j2]
        rw [if_neg (by decide), D1 k hk, Option.bind_some, decide_eq_true pd, if_pos rfl, A1 k hk, Option.bind_some, decide_eq_false pa]
        rfl
      refine Ev.step_ge 20 (fun k hk => ?_) (h true (by simp))
      simp only [spec_l6Place.j3]
      rw [if_pos trivial, if_pos kd0, if_pos kd1, if_pos b0, if_pos b1, hrd, hsh, Option.bind_some]
      simp only [spec_l4Plus.f, Option.bind_some]
      rw [if_pos ka0, if_pos ka1, put_at _ _ l1m (asc_plL q) (na pa) k (l1k hk), Option.bind_some, put_at _ _ l2m (asc_trL q) (hitr (fun c => pa c.1)) k (l2k hk), Option.bind_some, e, XL_at _ _ _ nd8, Int.toNat_natCast]
      rw [← XL_set ls q (((i : Int), (d : Int), (a : Int)) :: q) a (plus (Xq ls q d) (shift x) (-1)) (fun s _ => Xq_back hE had hx s)]
      rfl
    · have hs : Grow.step (ends ls) q i = q := by
        unfold Grow.step
        rw [hE, if_neg (fun c => pa c.1), if_neg (fun c => pd c.1)]
      rw [hs] at h
      refine Ev.step_ge 20 (f := fun k => spec_l6Place.j2 k ls (XL ls q) (plL q) (trL q) b (i : Int) (a : Int) (d : Int) false) (fun k hk => ?_) ?_
      · simp only [spec_l6Place.l1]
        rw [if_pos b1, if_pos b0, hrd, ha, hd, A1 k hk, Option.bind_some, decide_eq_false pa, if_neg (by decide)]
      refine Ev.step_ge 20 (f := fun k => spec_l6Place.j3 k ls (XL ls q) (plL q) (trL q) b (i : Int) (a : Int) (d : Int) false) (fun k hk => ?_) ?_
      · simp only [spec_l6Place.j2]
        rw [if_neg (by decide), D1 k hk, Option.bind_some, decide_eq_false pd, if_neg (by decide)]
      refine Ev.step_ge 20 (fun k hk => ?_) (h b (by simp))
      simp only [spec_l6Place.j3]
      rw [if_neg (by decide), e]
theorem Good.range {ls : L} (hg : ∀ x ∈ ls, Good x) : ∀ i : Int, 0 ≤ i → i < ls.length → 0 ≤ (ends ls i).1 ∧ (ends ls i).1 < 8 ∧ 0 ≤ (ends ls i).2 ∧ (ends ls i).2 < 8 := by
  intro i h0 h1
  obtain ⟨k, rfl⟩ := Int.eq_ofNat_of_zero_le h0
  have h := leg_good hg k (Int.ofNat_lt.mp h1)
  exact ⟨h.1.1, h.1.2, h.2.1.1, h.2.1.2⟩
/-- One round from leg i on. -/
theorem round_ev (ls : L) (hn : ls.length ≤ 12) (hg : ∀ x ∈ ls, Good x) (r : List S34 × List Int × List Int) (q0 : Q) : ∀ (d i : Nat) (q : Q), i + d = ls.length → Grow.Ok (ends ls) ls.length q → q0.length ≤ q.length →
    (Ev (fun k => spec_l6Place.l0 k ls (XL ls (sweep (ends ls) d i q)) (plL (sweep (ends ls) d i q)) (trL (sweep (ends ls) d i q)) (decide (q0.length < (sweep (ends ls) d i q).length))) r) →
    Ev (fun k => spec_l6Place.l1 k ls (XL ls q) (plL q) (trL q) (decide (q0.length < q.length)) (i : Int)) r := by
  intro d
  induction d with
  | zero =>
    intro i q hi ok hq h
    refine Ev.step (fun k => ?_) h
    simp only [spec_l6Place.l1]
    rw [if_neg (fun c => by have := Int.ofNat_lt.mp c; omega)]
    rfl
  | succ d ih =>
    intro i q hi ok hq h
    refine one_leg ls hn hg q ok i (by omega) _ (ok.len _ (Good.range hg)) r (fun b' hb' => ?_)
    have hl := Grow.step_len (ends ls) q i
    have hb2 : b' = decide (q0.length < (Grow.step (ends ls) q i).length) := by
      rw [hb', ← Bool.decide_or, decide_eq_decide]
      omega
    rw [hb2]
    exact ih (i + 1) _ (by omega) (ok.step _ (by omega) (by omega)) (by omega) h
theorem rounds_ev (ls : L) (hn : ls.length ≤ 12) (hg : ∀ x ∈ ls, Good x) (R : Q) : ∀ (f : Nat) (q : Q), Grow.Ok (ends ls) ls.length q → 8 ≤ f + q.length → grow (ends ls) ls.length f q = R → Ev (fun k => spec_l6Place.l0 k ls (XL ls q) (plL q) (trL q) true) (XL ls R, plL R, trL R) := by
  intro f
  induction f with
  | zero =>
    intro q ok h8 hR
    have := ok.len _ (Good.range hg)
    omega
  | succ f ih =>
    intro q ok h8 hR
    refine Ev.step (f := fun k => spec_l6Place.l1 k ls (XL ls q) (plL q) (trL q) (decide (q.length < q.length)) ((0 : Nat) : Int)) (fun k => ?_) ?_
    · simp only [spec_l6Place.l0]
      rw [if_pos trivial, decide_eq_false (Nat.lt_irrefl _)]
      rfl
    · refine round_ev ls hn hg _ q ls.length 0 q (by omega) ok (Nat.le_refl _) ?_
      rw [grow] at hR
      have hl := Grow.sweep_len (ends ls) ls.length 0 q
      by_cases c : (sweep (ends ls) ls.length 0 q).length = q.length
      · rw [if_pos c] at hR
        have hs := (Grow.sweep_same (ends ls) c).1
        have e0 : sweep (ends ls) ls.length ((0 : Nat) : Int) q = q := hs
        rw [e0, decide_eq_false (Nat.lt_irrefl _), hR]
        refine Ev.step (f := fun _ => some (XL ls R, plL R, trL R)) (fun k => ?_) (Ev.now _)
        simp only [spec_l6Place.l0]
        rw [if_neg (by decide)]
      · rw [if_neg c] at hR
        have e1 : decide (q.length < (sweep (ends ls) ls.length ((0 : Nat) : Int) q).length) = true := decide_eq_true (by
          show q.length < (sweep (ends ls) ls.length 0 q).length
          omega)
        rw [e1]
        exact ih _ (ok.sweep _ (by omega) (by omega)) (by show 8 ≤ f + (sweep (ends ls) ls.length 0 q).length; omega) hR
/-- THE PLACING OF THE REFERENCE. -/
theorem place_ev (ls : L) (hn : ls.length ≤ 12) (hg : ∀ x ∈ ls, Good x) (R : Q) (hR : grow (ends ls) ls.length 8 [] = R) : Ev (fun k => spec_l6Place.f k ls) (XL ls R, plL R, trL R) := by
  refine Ev.congr (f := fun k => spec_l6Place.l0 k ls (XL ls []) (plL []) (trL []) true) (fun k => ?_) (rounds_ev ls hn hg R 8 [] (Grow.Ok.nil _ _) (by simp) hR)
  unfold spec_l6Place.f
  rw [if_pos (by decide)]
  rfl
end Go.Proofs.YtiooiefjcbooeaaDoor.Net

/- Valid legs, the closing legs, in plain. Conditions: the lists' lengths. -/
namespace Go.Proofs.YtiooiefjcbooeaaDoor.Net
open Go.RowKit Go.Proofs.YtiooiefjcbooeaaDoorW.PrintWords Go.Proofs.YtiooiefjcbooeaaDoorW.PrintLast Go.Proofs.YtiooiefjcbooeaaDoorW.PrintMore Go.Proofs.YtiooiefjcbooeaaDoor.A Go.Proofs.YtiooiefjcbooeaaDoor.Plain
open Go.Proofs.YtiooiefjcbooeaaDoor.Tree (verts legs)
open Go.Proofs.YtiooiefjcbooeaaDoor.Grow (Q sweep grow)
set_option linter.unusedVariables false
set_option linter.unusedSimpArgs false
instance : DecidablePred Good := fun x => by unfold Good; infer_instance
theorem within_eq (x a b : Int) : impl_within.f x a b = some (decide (a ≤ x ∧ x ≤ b)) := by
  unfold impl_within.f
  by_cases h : x ≥ a
  · rw [if_pos h]; congr 1; rw [decide_eq_decide]; omega
  · rw [if_neg h, decide_eq_false (by omega)]
theorem IsLeg_eq (x : S56) : impl_IsLeg.f x.f0 x.f1 x.f2 x.f3 x.f4 = some (decide (Good x)) := by
  unfold impl_IsLeg.f impl_isStation.f impl_isBearing.f
  simp only [within_eq, Option.bind_some]
  by_cases h0 : 0 ≤ x.f0 ∧ x.f0 ≤ 7
  · rw [decide_eq_true h0, if_pos rfl]
    by_cases h1 : 0 ≤ x.f1 ∧ x.f1 ≤ 7
    · rw [decide_eq_true h1, if_pos rfl]
      by_cases h2 : x.f0 = x.f1
      · rw [if_pos h2, decide_eq_false (fun c => c.2.2.1 h2)]
      · rw [if_neg h2]
        by_cases h3 : 1 ≤ x.f2 ∧ x.f2 ≤ 500
        · rw [decide_eq_true h3, if_pos rfl]
          by_cases h4 : 0 ≤ x.f3 ∧ x.f3 ≤ 359
          · rw [decide_eq_true h4, if_pos rfl]
            congr 1
            rw [decide_eq_decide]
            exact ⟨fun c => ⟨⟨h0.1, by omega⟩, ⟨h1.1, by omega⟩, h2, h3, h4, c⟩, fun c => c.2.2.2.2.2⟩
          · rw [decide_eq_false h4, if_neg (by decide), decide_eq_false (fun c => h4 c.2.2.2.2.1)]
        · rw [decide_eq_false h3, if_neg (by decide), decide_eq_false (fun c => h3 c.2.2.2.1)]
    · rw [decide_eq_false h1, if_neg (by decide), decide_eq_false (fun c => h1 ⟨c.2.1.1, by have := c.2.1.2; omega⟩)]
  · rw [decide_eq_false h0, if_neg (by decide), decide_eq_false (fun c => h0 ⟨c.1.1, by have := c.1.2; omega⟩)]
theorem l4Leg_eq (x : S56) : spec_l4Leg.f x.f0 x.f1 x.f2 x.f3 x.f4 = some (decide (Good x)) := IsLeg_eq x
def legsB (ls : L) : Bool := decide ((∀ x ∈ ls, Good x) ∧ ls.length ≤ 12)
theorem legsB_all (ls : L) : (if allFrom (fun i => decide (Good (ls.getD i z56))) 0 ls.length = true then some (decide ((ls.length : Int) ≤ 12)) else some false) = some (legsB ls) := by
  rw [allFrom_all ls z56 (fun x => decide (Good x))]
  unfold legsB
  by_cases h : ∀ x ∈ ls, Good x
  · rw [if_pos (by simpa using h)]
    congr 1
    rw [decide_eq_decide]
    exact ⟨fun c => ⟨h, by omega⟩, fun c => by have := c.2; omega⟩
  · rw [if_neg (by simpa using h), decide_eq_false (fun c => h c.1)]
theorem areLegs_ev (ls : L) (hb : ls.length ≤ 140737488351232) : Ev (fun k => impl_areLegs.f k ls) (legsB ls) := by
  obtain ⟨K, hK⟩ := all_ev (fun i => decide (Good (ls.getD i z56))) ls.length hb (fun k i => impl_areLegs.l0 k ls ls (ls.length : Int) i) (some (decide ((ls.length : Int) ≤ 12))) (by
      intro k i hi
      simp only [impl_areLegs.l0]
      rw [if_pos (by omega), if_pos (by omega), if_pos (by omega), IsLeg_eq, Option.bind_some]
      rfl) (by
      intro k
      simp only [impl_areLegs.l0]
      rw [if_neg (by omega)])
  refine ⟨K, fun k hk => ?_⟩
  have := hK k hk
  rw [legsB_all] at this
  exact this
theorem l4Legs_ev (ls : L) (hb : ls.length ≤ 140737488351232) : Ev (fun k => spec_l4Legs.f k ls) (legsB ls) := by
  obtain ⟨K, hK⟩ := all_ev (fun i => decide (Good (ls.getD i z56))) ls.length hb (fun k i => spec_l4Legs.l0 k ls i) (some (decide ((ls.length : Int) ≤ 12))) (by
      intro k i hi
      simp only [spec_l4Legs.l0]
      rw [if_pos (by omega), if_pos (by omega), l4Leg_eq, Option.bind_some]
      rfl) (by
      intro k
      simp only [spec_l4Legs.l0]
      rw [if_neg (by omega)])
  refine ⟨K, fun k hk => ?_⟩
  have := hK k hk
  rw [legsB_all] at this
  exact this
/-- The growth of the legs. -/
def RR (ls : L) : Q := grow (ends ls) ls.length 8 []
theorem RR_ok {ls : L} (hg : ∀ x ∈ ls, Good x) : Grow.Ok (ends ls) ls.length (RR ls) ∧ ∀ i : Int, 0 ≤ i → i < ls.length → ((ends ls i).1 ∈ verts 0 (RR ls) ↔ (ends ls i).2 ∈ verts 0 (RR ls)) := by
  have h := Grow.grow_end (ends ls) (Good.range hg) 8 [] (Grow.Ok.nil _ _) (by simp)
  exact ⟨h.1, h.2.2⟩
theorem RR_len {ls : L} (hg : ∀ x ∈ ls, Good x) : (RR ls).length ≤ 7 := (RR_ok hg).1.len _ (Good.range hg)
theorem plL_small {ls : L} (hg : ∀ x ∈ ls, Good x) : (plL (RR ls)).length ≤ 8 := Nat.le_trans (plL_len _) (Nat.succ_le_succ (RR_len hg))
theorem Pq_eq (q : Q) (a : Nat) : Pq q a = decide ((a : Int) ∈ plL q) := by
  unfold Pq; rw [decide_eq_decide, mem_plL]
def closeL (ls : L) : List Int := closeTo ls (RR ls) ls.length
theorem legsB_iff {ls : L} : legsB ls = true ↔ (∀ x ∈ ls, Good x) ∧ ls.length ≤ 12 := by
  unfold legsB; exact decide_eq_true_iff
/-! ### CountLoops -/
end Go.Proofs.YtiooiefjcbooeaaDoor.Net

/- The error of a leg whose ends are placed. -/
namespace Go.Proofs.YtiooiefjcbooeaaDoor.Net
open Go.RowKit Go.Proofs.YtiooiefjcbooeaaDoorW.PrintWords Go.Proofs.YtiooiefjcbooeaaDoorW.PrintLast Go.Proofs.YtiooiefjcbooeaaDoorW.PrintMore Go.Proofs.YtiooiefjcbooeaaDoor.A Go.Proofs.YtiooiefjcbooeaaDoor.Plain
set_option linter.unusedVariables false
set_option linter.unusedSimpArgs false
end Go.Proofs.YtiooiefjcbooeaaDoor.Net

/- The program's closingLeg, placedLeg, placedAt: the network, and whether it holds what is asked for. -/
namespace Go.Proofs.YtiooiefjcbooeaaDoor.Net
open Go.RowKit Go.Proofs.YtiooiefjcbooeaaDoorW.PrintWords Go.Proofs.YtiooiefjcbooeaaDoorW.PrintLast Go.Proofs.YtiooiefjcbooeaaDoorW.PrintMore Go.Proofs.YtiooiefjcbooeaaDoor.A Go.Proofs.YtiooiefjcbooeaaDoor.Plain
set_option linter.unusedVariables false
set_option linter.unusedSimpArgs false
theorem idx_loop (l : List Int) (n : Int) (hl : l.length ≤ 1000000) : ∀ (d i k : Nat), i + d = l.length → d < k → ∃ r, slices_Index_int_int.l0 k l n (l.length : Int) (i : Int) = some r ∧ (r ≥ 0 ↔ n ∈ l.drop i) := by
  intro d
  induction d with
  | zero =>
    intro i k hi hk
    obtain ⟨k, rfl⟩ : ∃ m, k = m + 1 := ⟨k - 1, by omega⟩
    refine ⟨-1, ?_, ?_⟩
    · simp only [slices_Index_int_int.l0]
      rw [if_neg (by omega)]
    · rw [List.drop_eq_nil_of_le (by omega)]
      simp
  | succ d ih =>
    intro i k hi hk
    obtain ⟨k, rfl⟩ : ∃ m, k = m + 1 := ⟨k - 1, by omega⟩
    have hlt : i < l.length := by omega
    have er : rd l (i : Int) = l[i] := by
      unfold rd
      rw [Int.toNat_natCast, List.getD_eq_getElem?_getD, List.getElem?_eq_getElem hlt]
      rfl
    have e : wrap64 ((i : Int) + 1) = ((i + 1 : Nat) : Int) := by rw [w64 (by omega) (by omega)]; omega
    rw [List.drop_eq_getElem_cons hlt]
    by_cases hc : n = l[i]
    · refine ⟨(i : Int), ?_, ?_⟩
      · simp only [slices_Index_int_int.l0]
        rw [if_pos (by omega), if_pos (by omega), if_pos (by omega), er, if_pos hc]
      · exact ⟨fun _ => by rw [hc]; exact List.mem_cons_self, fun _ => by omega⟩
    · obtain ⟨r, h1, h2⟩ := ih (i + 1) k (by omega) (by omega)
      refine ⟨r, ?_, ?_⟩
      · simp only [slices_Index_int_int.l0]
        rw [if_pos (by omega), if_pos (by omega), if_pos (by omega), er, if_neg hc, e, h1]
      · rw [h2, List.mem_cons]
        exact ⟨Or.inr, fun h => h.resolve_left hc⟩
theorem hasI_at (l : List Int) (n : Int) (hl : l.length ≤ 1000000) (k : Nat) (hk : l.length < k) : impl_has.f k l n = some (decide (n ∈ l)) := by
  obtain ⟨r, h1, h2⟩ := idx_loop l n hl l.length 0 k (by omega) hk
  have h1' : slices_Index_int_int.f k l n = some r := h1
  simp only [impl_has.f, slices_Contains_int_int.f, h1', Option.bind_some]
  congr 1
  rw [decide_eq_decide, h2, List.drop_zero]
/-- What such a function hands back for valid legs. -/
def Gate (ls : L) (b : Bool) (w : World) (e : Ending) (w' : World) : Prop := ∃ g T cA cC, e = .returned (.tuple #[.pointer (some ⟨g, 0, none⟩), .bool b]) ∧ St ls.length T g (Pq (RR ls)) (Xq ls (RR ls)) (Bq (RR ls)) (.slice cA (closeL ls).length cC) w' ∧ Kd.R (Kd.int .i64) 3 w' w.heap.size (fun k => k ≠ g ∧ k ≠ T) (.slice cA (closeL ls).length cC) (closeL ls) ∧ Below w.heap.size w w'
theorem closeL_len (ls : L) : (closeL ls).length ≤ ls.length := closeTo_len ls (RR ls) ls.length
set_option maxHeartbeats 1000000 in
theorem closingLeg (A : Option Addr) (c : Nat) (ls : L) (leg : Int) (w : World) (hL : Sine.Laid w) (hr0 : Kd.C k56 w A ls.length ls) (hc : ls.length ≤ c) (hv : legsB ls = true) :
    Calls Tryd.prog 62 #[.slice A ls.length c, .int .i64 leg] w (Gate ls (decide (leg ∈ closeL ls)) w) := by
  have hv' := legsB_iff.mp hv
  have hn := hv'.2
  obtain ⟨K, hK⟩ := areLegs_ev ls (by omega)
  have HA := Aside0.mk (hK K (Nat.le_refl _))
  rw [hv] at HA
  have hcl := closeL_len ls
  have HH := Aside0.mk (hasI_at (closeL ls) leg (by omega) 20 (by omega))
  have HG := Aside0.mk hv'.1
  have HR := Aside0.mk hr0
  have HL := Aside0.mk hL
  have HB := Aside0.mk (Below.refl w.heap.size w)
  clear hK hr0 hL hv hv'
  go_enter Tryd.func62, Tryd.ntmps62
  go_wp2_with (first
    | (go_at_call 52; (with_reducible refine (impl_areLegs.calls K _ _ ls true _ ?s1 ?s2 HA.out).mono ?_); (case s1 => exact Kd.C_below HR.out (by (repeat (first | exact HB.out | exact Below.refl _ _ | apply below_alloc | apply pw_below_drewN | apply below_drew1)); done)); (case s2 => exact hc); rintro e w' ⟨rfl, hw⟩; replace HB := Aside0.mk (below_step (show Below w.heap.size w _ from by (repeat (first | exact HB.out | exact Below.refl _ _ | apply below_alloc | apply pw_below_drewN | apply below_drew1)); done) hw); clear hw)
    | ((go_at_call 53; (with_reducible refine (place _ c ls _ ?s1 ?s2 hc hn HG.out (RR ls) rfl).mono ?_); (case s1 => exact HL.out.keep (by (repeat (first | exact HB.out | exact Below.refl _ _ | apply below_alloc | apply pw_below_drewN | apply below_drew1)); done)); (case s2 => exact Kd.C_below HR.out (by (repeat (first | exact HB.out | exact Below.refl _ _ | apply below_alloc | apply pw_below_drewN | apply below_drew1)); done)); rintro e w' ⟨g, T, cl, rfl, hst, ho, hw⟩; have HO : Aside0 (Kd.R (Kd.int .i64) 3 w' w.heap.size (fun k => k ≠ g ∧ k ≠ T) cl (closeL ls)) := ⟨Kd.R_lower ho (below_size (show Below w.heap.size w _ from by (repeat (first | exact HB.out | exact Below.refl _ _ | apply below_alloc | apply pw_below_drewN | apply below_drew1)); done))⟩; replace HB := Aside0.mk (below_step (show Below w.heap.size w _ from by (repeat (first | exact HB.out | exact Below.refl _ _ | apply below_alloc | apply pw_below_drewN | apply below_drew1)); done) hw); have HS := Aside0.mk hst; clear hst ho hw; obtain ⟨cA, cC, ecl⟩ := Kd.R_slice HO.out; subst ecl); have cc := HS.out.cc)
    | (go_at_call 87; (with_reducible refine (impl_has.calls 20 _ _ (closeL ls) leg _ _ ?s1 ?s2 HH.out).mono ?_); (case s1 => exact (Kd.R_reads' HO.out).2.2); (case s2 => exact (Kd.R_reads' HO.out).2.1); rintro e w' ⟨rfl, ⟨nd, rfl⟩⟩))
  go_ret2
  exact ⟨g, T, cA, cC, rfl, HS.out.keep (pw_below_drewN (Below.refl _ _) _), Kd.R_drewN HO.out _, pw_below_drewN HB.out _⟩
theorem isStation_eq (x : Int) : impl_isStation.f x = some (decide (0 ≤ x ∧ x ≤ 7)) := by
  unfold impl_isStation.f
  rw [within_eq]; rfl
set_option maxHeartbeats 1000000 in
set_option maxRecDepth 100000 in
theorem placedLeg (A : Option Addr) (c : Nat) (ls : L) (i : Int) (w : World) (hL : Sine.Laid w) (hr0 : Kd.C k56 w A ls.length ls) (hc : ls.length ≤ c) (hv : legsB ls = true) (h0 : 0 ≤ i) (h1 : i < ls.length) :
    Calls Tryd.prog 58 #[.slice A ls.length c, .int .i64 i] w (Gate ls (Pq (RR ls) (leg ls i).f0.toNat) w) := by
  have hv' := legsB_iff.mp hv
  have hn := hv'.2
  obtain ⟨K, hK⟩ := areLegs_ev ls (by omega)
  have HA := Aside0.mk (hK K (Nat.le_refl _))
  rw [hv] at HA
  have HW : Aside0 (impl_within.f i 0 ((ls.length : Int) - 1) = some true) := ⟨by rw [within_eq, decide_eq_true (by omega)]⟩
  obtain ⟨k, rfl⟩ := Int.eq_ofNat_of_zero_le h0
  have hg := leg_good hv'.1 k (by omega)
  obtain ⟨a, ha⟩ := Int.eq_ofNat_of_zero_le hg.1.1
  have ha8 : (a : Int) < 8 := by have := hg.1.2; omega
  rw [ha, Int.toNat_natCast]
  obtain ⟨_, e2, h2, _⟩ := at_T56 hr0 (k : Int) h0 h1
  cases e2
  rw [Int.toNat_natCast, show rd_T56 ls (k : Int) = leg ls k from rfl, ha] at h2
  have H2 := Aside0.mk h2
  have HG := Aside0.mk hv'.1
  have HR := Aside0.mk hr0
  have HL := Aside0.mk hL
  have HB := Aside0.mk (Below.refl w.heap.size w)
  clear hK hr0 hL hv hv' hg ha h2
  go_enter Tryd.func58, Tryd.ntmps58
  go_wp2_with (first
    | (go_at_call 52; (with_reducible refine (impl_areLegs.calls K _ _ ls true _ ?s1 ?s2 HA.out).mono ?_); (case s1 => exact Kd.C_below HR.out (by (repeat (first | exact HB.out | exact Below.refl _ _ | apply below_alloc | apply pw_below_drewN | apply below_drew1)); done)); (case s2 => exact hc); rintro e w' ⟨rfl, hw⟩; replace HB := Aside0.mk (below_step (show Below w.heap.size w _ from by (repeat (first | exact HB.out | exact Below.refl _ _ | apply below_alloc | apply pw_below_drewN | apply below_drew1)); done) hw); clear hw)
    | (go_at_call 68; (with_reducible refine (impl_within.calls _ _ _ _ _ HW.out).mono ?_); rintro e w' ⟨rfl, ⟨nd, rfl⟩⟩; replace HB := Aside0.mk (pw_below_drewN HB.out nd))
    | ((go_at_call 53; (with_reducible refine (place _ c ls _ ?s1 ?s2 hc hn HG.out (RR ls) rfl).mono ?_); (case s1 => exact HL.out.keep (by (repeat (first | exact HB.out | exact Below.refl _ _ | apply below_alloc | apply pw_below_drewN | apply below_drew1)); done)); (case s2 => exact Kd.C_below HR.out (by (repeat (first | exact HB.out | exact Below.refl _ _ | apply below_alloc | apply pw_below_drewN | apply below_drew1)); done)); rintro e w' ⟨g, T, cl, rfl, hst, ho, hw⟩; have HO : Aside0 (Kd.R (Kd.int .i64) 3 w' w.heap.size (fun k => k ≠ g ∧ k ≠ T) cl (closeL ls)) := ⟨Kd.R_lower ho (below_size (show Below w.heap.size w _ from by (repeat (first | exact HB.out | exact Below.refl _ _ | apply below_alloc | apply pw_below_drewN | apply below_drew1)); done))⟩; replace HB := Aside0.mk (below_step (show Below w.heap.size w _ from by (repeat (first | exact HB.out | exact Below.refl _ _ | apply below_alloc | apply pw_below_drewN | apply below_drew1)); done) hw); have HS := Aside0.mk hst; clear hst ho hw; obtain ⟨cA, cC, ecl⟩ := Kd.R_slice HO.out; subst ecl); have h2 := Sine.keepc H2.out HB.out; have pa := HS.out.pb a (by omega)))
  go_quiet (fail)
  go_wp2
  go_ret2
  exact ⟨g, T, cA, cC, rfl, HS.out.keep (pw_below_drewN (Below.refl _ _) _), Kd.R_drewN HO.out _, pw_below_drewN HB.out _⟩
set_option maxHeartbeats 1000000 in
theorem placedLeg_no (A : Option Addr) (c : Nat) (ls : L) (i : Int) (w : World) (hr0 : Kd.C k56 w A ls.length ls) (hc : ls.length ≤ c) (hb : ls.length ≤ 140737488351232) (hv : legsB ls = true → ¬ (0 ≤ i ∧ i < ls.length)) :
    Calls Tryd.prog 58 #[.slice A ls.length c, .int .i64 i] w fun e w' => e = .returned (.tuple #[.pointer none, .bool false]) ∧ Below w.heap.size w w' := by
  obtain ⟨K, hK⟩ := areLegs_ev ls hb
  have HA := Aside0.mk (hK K (Nat.le_refl _))
  have HR := Aside0.mk hr0
  have HB := Aside0.mk (Below.refl w.heap.size w)
  clear hK hr0
  cases hq : legsB ls
  · rw [hq] at HA
    clear hq hv
    go_enter Tryd.func58, Tryd.ntmps58
    go_wp2_with (go_at_call 52; (with_reducible refine (impl_areLegs.calls K _ _ ls false _ ?s1 ?s2 HA.out).mono ?_); (case s1 => exact Kd.C_below HR.out (by (repeat (first | exact HB.out | exact Below.refl _ _ | apply below_alloc | apply pw_below_drewN | apply below_drew1)); done)); (case s2 => exact hc); rintro e w' ⟨rfl, hw⟩; replace HB := Aside0.mk (below_step (show Below w.heap.size w _ from by (repeat (first | exact HB.out | exact Below.refl _ _ | apply below_alloc | apply pw_below_drewN | apply below_drew1)); done) hw); clear hw)
    go_ret2
    exact ⟨rfl, HB.out⟩
  · rw [hq] at HA
    have hv2 := hv hq
    have HW : Aside0 (impl_within.f i 0 ((ls.length : Int) - 1) = some false) := ⟨by rw [within_eq, decide_eq_false (by omega)]⟩
    clear hq hv
    go_enter Tryd.func58, Tryd.ntmps58
    go_wp2_with (first
      | (go_at_call 52; (with_reducible refine (impl_areLegs.calls K _ _ ls true _ ?s1 ?s2 HA.out).mono ?_); (case s1 => exact Kd.C_below HR.out (by (repeat (first | exact HB.out | exact Below.refl _ _ | apply below_alloc | apply pw_below_drewN | apply below_drew1)); done)); (case s2 => exact hc); rintro e w' ⟨rfl, hw⟩; replace HB := Aside0.mk (below_step (show Below w.heap.size w _ from by (repeat (first | exact HB.out | exact Below.refl _ _ | apply below_alloc | apply pw_below_drewN | apply below_drew1)); done) hw); clear hw)
      | (go_at_call 68; (with_reducible refine (impl_within.calls _ _ _ _ _ HW.out).mono ?_); rintro e w' ⟨rfl, ⟨nd, rfl⟩⟩; replace HB := Aside0.mk (pw_below_drewN HB.out nd)))
    go_ret2
    exact ⟨rfl, HB.out⟩
set_option maxHeartbeats 1000000 in
set_option maxRecDepth 100000 in
theorem placedAt (A : Option Addr) (c : Nat) (ls : L) (s : Int) (w : World) (hL : Sine.Laid w) (hr0 : Kd.C k56 w A ls.length ls) (hc : ls.length ≤ c) (hv : legsB ls = true) (h0 : 0 ≤ s) (h1 : s < 8) :
    Calls Tryd.prog 81 #[.slice A ls.length c, .int .i64 s] w (Gate ls (Pq (RR ls) s.toNat) w) := by
  have hv' := legsB_iff.mp hv
  have hn := hv'.2
  obtain ⟨K, hK⟩ := areLegs_ev ls (by omega)
  have HA := Aside0.mk (hK K (Nat.le_refl _))
  rw [hv] at HA
  have HW : Aside0 (impl_isStation.f s = some true) := ⟨by rw [isStation_eq, decide_eq_true (by omega)]⟩
  obtain ⟨a, rfl⟩ := Int.eq_ofNat_of_zero_le h0
  rw [Int.toNat_natCast]
  have HG := Aside0.mk hv'.1
  have HR := Aside0.mk hr0
  have HL := Aside0.mk hL
  have HB := Aside0.mk (Below.refl w.heap.size w)
  clear hK hr0 hL hv hv'
  go_enter Tryd.func81, Tryd.ntmps81
  go_wp2_with (first
    | (go_at_call 52; (with_reducible refine (impl_areLegs.calls K _ _ ls true _ ?s1 ?s2 HA.out).mono ?_); (case s1 => exact Kd.C_below HR.out (by (repeat (first | exact HB.out | exact Below.refl _ _ | apply below_alloc | apply pw_below_drewN | apply below_drew1)); done)); (case s2 => exact hc); rintro e w' ⟨rfl, hw⟩; replace HB := Aside0.mk (below_step (show Below w.heap.size w _ from by (repeat (first | exact HB.out | exact Below.refl _ _ | apply below_alloc | apply pw_below_drewN | apply below_drew1)); done) hw); clear hw)
    | (go_at_call 104; (with_reducible refine (impl_isStation.calls _ _ _ HW.out).mono ?_); rintro e w' ⟨rfl, ⟨nd, rfl⟩⟩; replace HB := Aside0.mk (pw_below_drewN HB.out nd))
    | ((go_at_call 53; (with_reducible refine (place _ c ls _ ?s1 ?s2 hc hn HG.out (RR ls) rfl).mono ?_); (case s1 => exact HL.out.keep (by (repeat (first | exact HB.out | exact Below.refl _ _ | apply below_alloc | apply pw_below_drewN | apply below_drew1)); done)); (case s2 => exact Kd.C_below HR.out (by (repeat (first | exact HB.out | exact Below.refl _ _ | apply below_alloc | apply pw_below_drewN | apply below_drew1)); done)); rintro e w' ⟨g, T, cl, rfl, hst, ho, hw⟩; have HO : Aside0 (Kd.R (Kd.int .i64) 3 w' w.heap.size (fun k => k ≠ g ∧ k ≠ T) cl (closeL ls)) := ⟨Kd.R_lower ho (below_size (show Below w.heap.size w _ from by (repeat (first | exact HB.out | exact Below.refl _ _ | apply below_alloc | apply pw_below_drewN | apply below_drew1)); done))⟩; replace HB := Aside0.mk (below_step (show Below w.heap.size w _ from by (repeat (first | exact HB.out | exact Below.refl _ _ | apply below_alloc | apply pw_below_drewN | apply below_drew1)); done) hw); have HS := Aside0.mk hst; clear hst ho hw; obtain ⟨cA, cC, ecl⟩ := Kd.R_slice HO.out; subst ecl); have pa := HS.out.pb a (by omega)))
  go_quiet (fail)
  go_wp2
  go_ret2
  exact ⟨g, T, cA, cC, rfl, HS.out.keep (pw_below_drewN (Below.refl _ _) _), Kd.R_drewN HO.out _, pw_below_drewN HB.out _⟩
end Go.Proofs.YtiooiefjcbooeaaDoor.Net

/- The walk of network.stations: the placed stations in ascending order. -/
namespace Go.Proofs.YtiooiefjcbooeaaDoor.Net
open Go Go.RowKit Go.Proofs.YtiooiefjcbooeaaDoorW.PrintWords Go.Proofs.YtiooiefjcbooeaaDoorW.PrintLast Go.Proofs.YtiooiefjcbooeaaDoorW.PrintMore Go.Proofs.YtiooiefjcbooeaaDoor.A Go.Proofs.YtiooiefjcbooeaaDoor.Plain
open Go.Proofs.YtiooiefjcbooeaaDoor.Tree (verts legs W)
open Go.Proofs.YtiooiefjcbooeaaDoor.Grow (Q)
set_option linter.unusedVariables false
set_option linter.unusedSimpArgs false
def selTo (p : Nat → Bool) : Nat → List Int
  | 0 => []
  | k + 1 => if p k = true then selTo p k ++ [(k : Int)] else selTo p k
theorem selTo_len (p : Nat → Bool) : ∀ k, (selTo p k).length ≤ k
  | 0 => by simp [selTo]
  | k + 1 => by
    have := selTo_len p k
    unfold selTo
    split
    · rw [List.length_append, List.length_singleton]; omega
    · omega
theorem mem_selTo (p : Nat → Bool) : ∀ (n : Nat) (i : Int), i ∈ selTo p n ↔ ∃ k : Nat, i = k ∧ k < n ∧ p k = true
  | 0, i => by simp [selTo]
  | n + 1, i => by
    have ih := mem_selTo p n i
    unfold selTo
    split
    · rename_i c
      rw [List.mem_append, ih, List.mem_singleton]
      constructor
      · rintro (⟨k, h1, h2, h3⟩ | rfl)
        · exact ⟨k, h1, by omega, h3⟩
        · exact ⟨n, rfl, by omega, c⟩
      · rintro ⟨k, h1, h2, h3⟩
        by_cases e : k = n
        · exact Or.inr (by rw [h1, e])
        · exact Or.inl ⟨k, h1, by omega, h3⟩
    · rename_i c
      rw [ih]
      constructor
      · rintro ⟨k, h1, h2, h3⟩
        exact ⟨k, h1, by omega, h3⟩
      · rintro ⟨k, h1, h2, h3⟩
        by_cases e : k = n
        · exact absurd (e ▸ h3) c
        · exact ⟨k, h1, by omega, h3⟩
end Go.Proofs.YtiooiefjcbooeaaDoor.Net

/- The walk of network.placedLegs: the legs with placed ends in ascending order. -/
namespace Go.Proofs.YtiooiefjcbooeaaDoor.Net
open Go Go.RowKit Go.Proofs.YtiooiefjcbooeaaDoorW.PrintWords Go.Proofs.YtiooiefjcbooeaaDoorW.PrintLast Go.Proofs.YtiooiefjcbooeaaDoorW.PrintMore Go.Proofs.YtiooiefjcbooeaaDoor.A Go.Proofs.YtiooiefjcbooeaaDoor.Plain
open Go.Proofs.YtiooiefjcbooeaaDoor.Tree (verts legs W)
open Go.Proofs.YtiooiefjcbooeaaDoor.Grow (Q)
set_option linter.unusedVariables false
set_option linter.unusedSimpArgs false
/-- The legs whose first end is placed, in ascending order. -/
def plcL (ls : L) (R : Q) (n : Nat) : List Int := selTo (fun k => Pq R (leg ls k).f0.toNat) n
end Go.Proofs.YtiooiefjcbooeaaDoor.Net

/- The loop of a closing leg, as the reference finds it: the way over the tree legs, and the leg. -/
namespace Go.Proofs.YtiooiefjcbooeaaDoor.Net
open Go.RowKit Go.Proofs.YtiooiefjcbooeaaDoorW.PrintWords Go.Proofs.YtiooiefjcbooeaaDoorW.PrintLast Go.Proofs.YtiooiefjcbooeaaDoorW.PrintMore Go.Proofs.YtiooiefjcbooeaaDoor.A Go.Proofs.YtiooiefjcbooeaaDoor.Plain
open Go.Proofs.YtiooiefjcbooeaaDoor.Tree (verts legs W)
open Go.Proofs.YtiooiefjcbooeaaDoor.Dfs (dfs try_)
open Go.Proofs.YtiooiefjcbooeaaDoor.Grow (Q sweep grow)
set_option linter.unusedVariables false
set_option linter.unusedSimpArgs false
section
variable (ls : L) (hg : ∀ x ∈ ls, Good x) (tree : List Int) (ht : ∀ i ∈ tree, 0 ≤ i ∧ i < (ls.length : Int)) (hl : tree.length ≤ 1000) (dst : Int)
include hg ht hl
end
/-! ### Places without wraps -/
end Go.Proofs.YtiooiefjcbooeaaDoor.Net

/- The misclosure of a loop is the error of its closing leg, in plain. -/
namespace Go.Proofs.YtiooiefjcbooeaaDoor.Net
open Go.RowKit Go.Proofs.YtiooiefjcbooeaaDoorW.PrintWords Go.Proofs.YtiooiefjcbooeaaDoorW.PrintLast Go.Proofs.YtiooiefjcbooeaaDoorW.PrintMore Go.Proofs.YtiooiefjcbooeaaDoor.A Go.Proofs.YtiooiefjcbooeaaDoor.Plain
open Go.Proofs.YtiooiefjcbooeaaDoor.Tree (verts legs W)
open Go.Proofs.YtiooiefjcbooeaaDoor.Grow (Q sweep grow)
set_option linter.unusedVariables false
set_option linter.unusedSimpArgs false
end Go.Proofs.YtiooiefjcbooeaaDoor.Net

/- The residual of a leg, walked; the search for a coordinate out of bounds. -/
namespace Go.Proofs.YtiooiefjcbooeaaDoor.Net
open Go Go.RowKit Go.Proofs.YtiooiefjcbooeaaDoorW.PrintWords Go.Proofs.YtiooiefjcbooeaaDoorW.PrintLast Go.Proofs.YtiooiefjcbooeaaDoorW.PrintMore Go.Proofs.YtiooiefjcbooeaaDoor.A Go.Proofs.YtiooiefjcbooeaaDoor.Plain
set_option linter.unusedVariables false
set_option linter.unusedSimpArgs false
/-! ### A coordinate of a shift -/
/-! ### The residual -/
/-! ### A coordinate out of bounds -/
end Go.Proofs.YtiooiefjcbooeaaDoor.Net

/- Balanced coordinates, in plain: the reference's answer. -/
namespace Go.Proofs.YtiooiefjcbooeaaDoor.Net
open Go.RowKit Go.Proofs.YtiooiefjcbooeaaDoorW.PrintWords Go.Proofs.YtiooiefjcbooeaaDoorW.PrintLast Go.Proofs.YtiooiefjcbooeaaDoorW.PrintMore Go.Proofs.YtiooiefjcbooeaaDoor.A Go.Proofs.YtiooiefjcbooeaaDoor.Plain
set_option linter.unusedVariables false
set_option linter.unusedSimpArgs false
theorem in_eq (x a b : Int) : spec_l1In.f x a b = some (decide (a ≤ x ∧ x ≤ b)) := by
  unfold spec_l1In.f
  by_cases h : a ≤ x
  · rw [if_pos h]; congr 1; rw [decide_eq_decide]; omega
  · rw [if_neg h, decide_eq_false (fun c => h c.1)]
theorem l9legs_loop (ls : L) (hn : ls.length ≤ 12) (hg : ∀ x ∈ ls, Good x) (q : Grow.Q) (h1 : (plL q).length ≤ 8) : ∀ (d i : Nat), i + d = ls.length → Ev (fun k => spec_l9Legs.l0 k ls (plL q) (plcL ls q i) (i : Int)) (plcL ls q ls.length) := by
  intro d
  induction d with
  | zero =>
    intro i hi
    obtain rfl : i = ls.length := by omega
    refine Ev.step (f := fun _ => some (plcL ls q ls.length)) (fun k => ?_) (Ev.now _)
    simp only [spec_l9Legs.l0]
    rw [if_neg (by omega)]
  | succ d ih =>
    intro i hi
    have h := ih (i + 1) (by omega)
    have hlen := selTo_len (fun k => Pq q (leg ls k).f0.toNat) i
    have hgood := leg_good hg i (by omega)
    have hc : plcL ls q (i + 1) = if decide ((leg ls i).f0 ∈ plL q) = true then plcL ls q i ++ [(i : Int)] else plcL ls q i := by
      show (if Pq q (leg ls i).f0.toNat = true then _ else _) = _
      rw [Pq_eq, Int.toNat_of_nonneg hgood.1.1]
      rfl
    rw [hc] at h
    refine Ev.step (f := fun k => (spec_l1Has.f k (plL q) (leg ls i).f0).bind fun t440 => (if t440 = true then (if (plcL ls q i).length < 17592186044416 then (spec_l9Legs.l0 k ls (plL q) (plcL ls q i ++ [(i : Int)]) ((i + 1 : Nat) : Int)) else (none)) else (spec_l9Legs.l0 k ls (plL q) (plcL ls q i) ((i + 1 : Nat) : Int)))) (fun k => ?_) ?_
    · simp only [spec_l9Legs.l0]
      rw [if_pos (by omega), if_pos (by omega), w64 (by omega) (by omega)]
      rfl
    · refine Ev.bind (has_ev _ _ (by omega)) ?_
      by_cases c : (leg ls i).f0 ∈ plL q
      · rw [if_pos (decide_eq_true c)] at h
        exact Ev.pos (decide_eq_true c) (Ev.pos (show (plcL ls q i).length < 17592186044416 from by unfold plcL; omega) h)
      · rw [if_neg (by rw [decide_eq_false c]; decide)] at h
        exact Ev.neg (by rw [decide_eq_false c]; decide) h
theorem l9Legs_ev {ls : L} (hn : ls.length ≤ 12) (hg : ∀ x ∈ ls, Good x) : Ev (fun k => spec_l9Legs.f k ls) (plcL ls (RR ls) ls.length) := by
  refine Ev.bind (place_ev ls hn hg (RR ls) rfl) ?_
  exact l9legs_loop ls hn hg (RR ls) (plL_small hg) ls.length 0 (by omega)
end Go.Proofs.YtiooiefjcbooeaaDoor.Net

namespace Go.Proofs.YtiooiefjcbooeaaDoor.Net
open Go.RowKit Go.Proofs.YtiooiefjcbooeaaDoorW.PrintWords Go.Proofs.YtiooiefjcbooeaaDoorW.PrintLast Go.Proofs.YtiooiefjcbooeaaDoorW.PrintMore Go.Proofs.YtiooiefjcbooeaaDoor.A Go.Proofs.YtiooiefjcbooeaaDoor.Plain
set_option linter.unusedVariables false
set_option linter.unusedSimpArgs false
/-- A leg with one of the four fixes. -/
def fixX (x : S56) (fix : Int) : S56 :=
  if fix = 1 then ⟨x.f0, x.f1, x.f2, Int.tmod (wrap64 (x.f3 + 180)) 360, x.f4⟩ else if fix = 2 then ⟨x.f0, x.f1, x.f2, x.f3, wrap64 (-x.f4)⟩ else if fix = 3 then ⟨x.f0, x.f1, wrap64 (x.f2 + 100), x.f3, x.f4⟩ else ⟨x.f0, x.f1, wrap64 (x.f2 - 100), x.f3, x.f4⟩
theorem fix_eq (ls : L) (i : Nat) (fix : Int) (hi : i < ls.length) (hb : ls.length ≤ 2000000) : spec_l10Fix.f ls (i : Int) fix = some (ls.set i (fixX (leg ls i) fix)) := by
  unfold spec_l10Fix.f
  rw [Option.bind_some, if_pos (by simp; omega), Option.bind_some, List.nil_append, if_pos (by omega), if_pos (by omega), Int.toNat_natCast]
  unfold fixX leg
  by_cases h1 : fix = 1
  · rw [if_pos h1, if_pos h1]
  · rw [if_neg h1, if_neg h1]
    by_cases h2 : fix = 2
    · rw [if_pos h2, if_pos h2]
    · rw [if_neg h2, if_neg h2]
      by_cases h3 : fix = 3
      · rw [if_pos h3, if_pos h3]
      · rw [if_neg h3, if_neg h3]
theorem legsB_set {ls : L} (hv : legsB ls = true) (i : Nat) (hi : i < ls.length) (x : S56) : legsB (ls.set i x) = decide (Good x) := by
  have hv' := legsB_iff.mp hv
  unfold legsB
  rw [decide_eq_decide, List.length_set]
  constructor
  · rintro ⟨h, _⟩
    exact h x (List.mem_iff_getElem.mpr ⟨i, by rw [List.length_set]; exact hi, by rw [List.getElem_set_self]⟩)
  · intro h
    refine ⟨fun y hy => ?_, hv'.2⟩
    rcases List.mem_or_eq_of_mem_set hy with hy | hy
    · exact hv'.1 y hy
    · rw [hy]; exact h
/-- The answer. -/
def fixM (ls : L) (i fix : Int) : L × Bool :=
  if legsB ls = true ∧ (0 ≤ i ∧ i < (ls.length : Int)) ∧ (leg ls i).f0 ∈ plL (RR ls) ∧ (1 ≤ fix ∧ fix ≤ 4) ∧ Good (fixX (leg ls i) fix) then (ls.set i.toNat (fixX (leg ls i) fix), true) else ([], false)
theorem mem_plcL {ls : L} (hg : ∀ x ∈ ls, Good x) (i : Int) : i ∈ plcL ls (RR ls) ls.length ↔ (0 ≤ i ∧ i < (ls.length : Int)) ∧ (leg ls i).f0 ∈ plL (RR ls) := by
  unfold plcL
  rw [mem_selTo]
  constructor
  · rintro ⟨k, rfl, hk, h⟩
    rw [Pq_eq, Int.toNat_of_nonneg (leg_good hg k hk).1.1] at h
    exact ⟨⟨by omega, by omega⟩, of_decide_eq_true h⟩
  · rintro ⟨⟨h0, h1⟩, h2⟩
    obtain ⟨k, rfl⟩ := Int.eq_ofNat_of_zero_le h0
    have hk : k < ls.length := by omega
    exact ⟨k, rfl, hk, by rw [Pq_eq, Int.toNat_of_nonneg (leg_good hg k hk).1.1]; exact decide_eq_true h2⟩
theorem can_ev (ls : L) (i fix : Int) (hb : ls.length ≤ 2000000) : Ev (fun k => spec_l10Can.f k ls i fix) (fixM ls i fix).2 := by
  unfold spec_l10Can.f fixM
  have hpl : Ev (fun k => spec_l10Placed.f k ls i) (legsB ls && decide (i ∈ plcL ls (RR ls) ls.length)) := by
    unfold spec_l10Placed.f
    refine Ev.bind (l4Legs_ev ls (by omega)) ?_
    cases h : legsB ls
    · exact Ev.neg (by decide) (Ev.now _)
    · have h' := legsB_iff.mp h
      have hl := selTo_len (fun k => Pq (RR ls) (leg ls k).f0.toNat) ls.length
      exact Ev.pos rfl (Ev.bind (l9Legs_ev h'.2 h'.1) (Ev.bind (has_ev _ _ (by unfold plcL; omega)) (Ev.now _)))
  refine Ev.bind hpl ?_
  by_cases h : legsB ls = true ∧ i ∈ plcL ls (RR ls) ls.length
  · have hv := legsB_iff.mp h.1
    have hm := (mem_plcL hv.1 i).mp h.2
    refine Ev.pos (by rw [h.1, decide_eq_true h.2]; rfl) (Ev.bindc (in_eq fix 1 4) ?_)
    by_cases hf : 1 ≤ fix ∧ fix ≤ 4
    · refine Ev.pos (decide_eq_true hf) ?_
      obtain ⟨k, rfl⟩ := Int.eq_ofNat_of_zero_le hm.1.1
      refine Ev.bindc (fix_eq ls k fix (by omega) hb) (Ev.bind (l4Legs_ev _ (by rw [List.length_set]; omega)) ?_)
      rw [legsB_set h.1 k (by omega)]
      by_cases hg : Good (fixX (leg ls k) fix)
      · rw [if_pos ⟨h.1, hm.1, hm.2, hf, hg⟩, decide_eq_true hg]
        exact Ev.now _
      · rw [if_neg (fun e => hg e.2.2.2.2), decide_eq_false hg]
        exact Ev.now _
    · rw [if_neg (fun e => hf e.2.2.2.1)]
      exact Ev.neg (by rw [decide_eq_false hf]; decide) (Ev.now _)
  · rw [if_neg (fun e => h ⟨e.1, (mem_plcL (legsB_iff.mp e.1).1 i).mpr ⟨e.2.1, e.2.2.1⟩⟩)]
    exact Ev.neg (by rw [Bool.and_eq_true, decide_eq_true_eq]; exact h) (Ev.now _)
theorem specFix_ev (ls : L) (i fix : Int) (hb : ls.length ≤ 2000000) : Ev (fun k => spec_FixLeg.f k ls i fix) (fixM ls i fix) := by
  unfold spec_FixLeg.f
  refine Ev.bind (can_ev ls i fix hb) ?_
  unfold fixM
  split
  · rename_i h
    obtain ⟨k, rfl⟩ := Int.eq_ofNat_of_zero_le h.2.1.1
    rw [Int.toNat_natCast]
    exact Ev.pos rfl (Ev.bindc (fix_eq ls k fix (by omega) hb) (Ev.now _))
  · exact Ev.neg (by decide) (Ev.now _)
end Go.Proofs.YtiooiefjcbooeaaDoor.Net
