/- The walk of the search for a way (over the function (*loop.example/g00933/impl.network).loop$1). -/
import Derived.Maps.OwnSet
import Derived.Test.YtcafgpincnkcdaaDoorKFnBridges6
import Derived.Test.YtcafgpincnkcdaaDoorKFnBridgesU1
set_option maxHeartbeats 4000000
set_option maxRecDepth 100000
set_option linter.unusedSimpArgs false
set_option linter.unusedVariables false
namespace Go.Proofs.YtcafgpincnkcdaaDoor.Plain
open Go.RowKit YtcafgpincnkcdaaDoorW.PrintWords
theorem w64 {x : Int} (h1 : -9223372036854775808 ≤ x) (h2 : x ≤ 9223372036854775807) : wrap64 x = x := by
  unfold wrap64; omega
theorem mul_bound {x y : Int} (A B : Int) (h1 : -A ≤ x) (h2 : x ≤ A) (h3 : -B ≤ y) (h4 : y ≤ B) : -(A * B) ≤ x * y ∧ x * y ≤ A * B := by
  have e1 : 0 ≤ (A - x) * (B - y) := Int.mul_nonneg (by omega) (by omega); have e2 : 0 ≤ (A + x) * (B + y) := Int.mul_nonneg (by omega) (by omega); have e3 : 0 ≤ (A - x) * (B + y) := Int.mul_nonneg (by omega) (by omega); have e4 : 0 ≤ (A + x) * (B - y) := Int.mul_nonneg (by omega) (by omega); simp only [Int.sub_mul, Int.mul_sub, Int.add_mul, Int.mul_add] at e1 e2 e3 e4; omega
theorem Ev.some {α : Type} {g : Nat → Option α} {r : α} (h : ∀ k, g k = some r) : Ev g r := ⟨0, fun k _ => h k⟩
theorem Ev.ite {α : Type} {c : Prop} [Decidable c] {g f : Nat → Option α} {r q : α} (h : c → Ev g r) (k : ¬ c → Ev f q) : Ev (fun n => if c then g n else f n) (if c then r else q) := by
  by_cases hc : c
  · obtain ⟨K, hK⟩ := h hc
    exact ⟨K, fun n hn => by simp only [if_pos hc]; exact hK n hn⟩
  · obtain ⟨K, hK⟩ := k hc
    exact ⟨K, fun n hn => by simp only [if_neg hc]; exact hK n hn⟩
theorem Ev.pos {α : Type} {c : Prop} [Decidable c] {g f : Nat → Option α} {r : α} (hc : c) (h : Ev g r) : Ev (fun n => if c then g n else f n) r := by
  obtain ⟨K, hK⟩ := h; exact ⟨K, fun n hn => by simp only [if_pos hc]; exact hK n hn⟩
theorem Ev.neg {α : Type} {c : Prop} [Decidable c] {g f : Nat → Option α} {r : α} (hc : ¬ c) (h : Ev f r) : Ev (fun n => if c then g n else f n) r := by
  obtain ⟨K, hK⟩ := h; exact ⟨K, fun n hn => by simp only [if_neg hc]; exact hK n hn⟩
theorem Ev.bindc {α β : Type} {o : Option α} {f : Nat → α → Option β} {a : α} {r : β} (h : o = Option.some a) (k : Ev (fun n => f n a) r) : Ev (fun n => o.bind (f n)) r := by
  obtain ⟨K, hK⟩ := k; exact ⟨K, fun n hn => by rw [h]; exact hK n hn⟩
theorem Ev.uniq {α : Type} {g : Nat → Option α} {r q : α} (h : Ev g r) (k : Ev g q) : r = q := by
  obtain ⟨K, h⟩ := h; obtain ⟨K', k⟩ := k; have h1 := h (max K K') (by omega); have h2 := k (max K K') (by omega); rw [h1] at h2; exact Option.some.inj h2
def allFrom (P : Nat → Bool) : Nat → Nat → Bool
  | _, 0 => true
  | i, d + 1 => P i && allFrom P (i + 1) d
theorem allFrom_iff (P : Nat → Bool) : ∀ (d i : Nat), allFrom P i d = true ↔ ∀ j, i ≤ j → j < i + d → P j = true
  | 0, i => ⟨fun _ j h1 h2 => by omega, fun _ => rfl⟩
  | d + 1, i => by
    rw [allFrom, Bool.and_eq_true, allFrom_iff P d (i + 1)]
    constructor
    · rintro ⟨h0, h1⟩ j hj hj2
      by_cases e : j = i
      · subst e
        exact h0
      · exact h1 j (by omega) (by omega)
    · intro h
      exact ⟨h i (by omega) (by omega), fun j hj hj2 => h j (by omega) (by omega)⟩
theorem allFrom_all {α : Type} (l : List α) (d : α) (p : α → Bool) : allFrom (fun i => p (l.getD i d)) 0 l.length = l.all p := by
  rw [Bool.eq_iff_iff, allFrom_iff, List.all_eq_true]
  constructor
  · intro h x hx
    obtain ⟨j, hj, rfl⟩ := List.getElem_of_mem hx; have := h j (by omega) (by omega); simpa [List.getD, hj] using this
  · intro h j _ hj
    have hj' : j < l.length := by omega
    have := h l[j] (List.getElem_mem hj'); simpa [List.getD, hj'] using this
theorem eq_loop {α : Type} (L : Nat → List α → List α → Int → Option Bool) 
    (hL : ∀ k x0 x4, 0 ≤ x4 → L (k + 1) x0 x0 x4 = if x4 < (x0.length : Int) then L k x0 x0 (wrap64 (x4 + 1)) else some true)
    (x0 : List α) (hb : x0.length ≤ 140737488351232) : ∀ (d k i : Nat), i + d = x0.length → d < k → L k x0 x0 (i : Int) = some true
  | 0, k, i, hi, hk => by
    obtain ⟨k, rfl⟩ : ∃ m, k = m + 1 := ⟨k - 1, by omega⟩
    rw [hL _ _ _ (by omega), if_neg (by omega)]
  | d + 1, k, i, hi, hk => by
    obtain ⟨k, rfl⟩ : ∃ m, k = m + 1 := ⟨k - 1, by omega⟩
    rw [hL _ _ _ (by omega), if_pos (by omega), w64 (by omega) (by omega), show ((i : Int) + 1) = ((i + 1 : Nat) : Int) by omega]; exact eq_loop L hL x0 hb d k (i + 1) (by omega) (by omega)
theorem eq_all {α : Type} (L : Nat → List α → List α → Int → Option Bool) 
    (hL : ∀ k x0 x4, 0 ≤ x4 → L (k + 1) x0 x0 x4 = if x4 < (x0.length : Int) then L k x0 x0 (wrap64 (x4 + 1)) else some true)
    (x0 : List α) (hb : x0.length ≤ 140737488351232) : Ev (fun k => L k x0 x0 0) true :=
  ⟨x0.length + 1, fun k hk => eq_loop L hL x0 hb x0.length k 0 (by omega) (by omega)⟩
theorem all_loop (P : Nat → Bool) (n : Nat) (hn : n ≤ 140737488351232) (L : Nat → Int → Option Bool) (fin : Option Bool)
    (hL : ∀ k i, i < n → L (k + 1) (i : Int) = if P i = true then L k (wrap64 (i + 1)) else some false) (hend : ∀ k, L (k + 1) (n : Int) = fin) :
    ∀ (d k i : Nat), i + d = n → d < k → L k (i : Int) = if allFrom P i d = true then fin else some false
  | 0, k, i, hi, hk => by
    obtain ⟨k, rfl⟩ : ∃ m, k = m + 1 := ⟨k - 1, by omega⟩
    obtain rfl : i = n := by omega
    rw [hend, allFrom, if_pos rfl]
  | d + 1, k, i, hi, hk => by
    obtain ⟨k, rfl⟩ : ∃ m, k = m + 1 := ⟨k - 1, by omega⟩
    rw [hL _ _ (by omega), w64 (by omega) (by omega), show ((i : Int) + 1) = ((i + 1 : Nat) : Int) by omega, all_loop P n hn L fin hL hend d k (i + 1) (by omega) (by omega), allFrom]; cases P i <;> simp
theorem all_ev (P : Nat → Bool) (n : Nat) (hn : n ≤ 140737488351232) (L : Nat → Int → Option Bool) (fin : Option Bool)
    (hL : ∀ k i, i < n → L (k + 1) (i : Int) = if P i = true then L k (wrap64 (i + 1)) else some false) (hend : ∀ k, L (k + 1) (n : Int) = fin) :
    ∃ K, ∀ k, K ≤ k → L k 0 = if allFrom P 0 n = true then fin else some false :=
  ⟨n + 1, fun k hk => all_loop P n hn L fin hL hend n k 0 (by omega) (by omega)⟩
end Go.Proofs.YtcafgpincnkcdaaDoor.Plain
namespace Go.Proofs.YtcafgpincnkcdaaDoor.Net
open Go.RowKit YtcafgpincnkcdaaDoorW.PrintWords YtcafgpincnkcdaaDoorW.PrintLast YtcafgpincnkcdaaDoorW.PrintMore A Plain
open Tree (verts legs)
open Grow (Q sweep grow)
theorem Ev.step_ge {α : Type} {g f : Nat → Option α} {r : α} (N : Nat) (h : ∀ k, N ≤ k → g (k + 1) = f k) (k : Ev f r) : Ev g r := by
  obtain ⟨K, hK⟩ := k; refine ⟨max N K + 1, fun m hm => ?_⟩; obtain ⟨m, rfl⟩ : ∃ x, m = x + 1 := ⟨m - 1, by omega⟩
  rw [h m (by omega)]; exact hK m (by omega)
theorem has_loop (l : List Int) (n : Int) (hl : l.length ≤ 1000000) : ∀ (d i k : Nat), i + d = l.length → d < k → spec_l1Has.l0 k l n (i : Int) = some (decide (n ∈ l.drop i)) := by
  intro d
  induction d with
  | zero =>
    intro i k hi hk; obtain ⟨k, rfl⟩ : ∃ m, k = m + 1 := ⟨k - 1, by omega⟩
    simp only [spec_l1Has.l0]; rw [if_neg (by omega), List.drop_eq_nil_of_le (by omega)]; simp
  | succ d ih =>
    intro i k hi hk; obtain ⟨k, rfl⟩ : ∃ m, k = m + 1 := ⟨k - 1, by omega⟩
    have hlt : i < l.length := by omega
    have er : rd l (i : Int) = l[i] := by
      unfold rd; rw [Int.toNat_natCast, List.getD_eq_getElem?_getD, List.getElem?_eq_getElem hlt]; rfl
    have e : wrap64 ((i : Int) + 1) = ((i + 1 : Nat) : Int) := by rw [w64 (by omega) (by omega)]; omega
    rw [List.drop_eq_getElem_cons hlt]; simp only [spec_l1Has.l0]; by_cases hc : l[i] = n
    · rw [if_pos (by omega), if_pos (by omega), er, if_pos hc, hc]
      simp
    · have hd : decide (n ∈ l[i] :: l.drop (i + 1)) = decide (n ∈ l.drop (i + 1)) := by rw [decide_eq_decide, List.mem_cons]; exact ⟨fun h => h.resolve_left (fun e => hc e.symm), Or.inr⟩
      rw [if_pos (by omega), if_pos (by omega), er, if_neg hc, e, hd]; exact ih (i + 1) k (by omega) (by omega)
theorem has_at (l : List Int) (n : Int) (hl : l.length ≤ 1000000) (k : Nat) (hk : l.length < k) : spec_l1Has.f k l n = some (decide (n ∈ l)) := has_loop l n hl l.length 0 k (by omega) hk
theorem has_ev (l : List Int) (n : Int) (hl : l.length ≤ 1000000) : Ev (fun k => spec_l1Has.f k l n) (decide (n ∈ l)) := ⟨l.length + 1, fun k hk => has_at l n hl k hk⟩
theorem put_split (n : Int) : ∀ (p s : List Int), (∀ x ∈ p, x < n) → (∀ y ∈ s.head?, n < y) → Sort.put (p ++ s) n = p ++ n :: s
  | [], [], _, _ => rfl
  | [], y :: s, _, h => by
    have := h y rfl; simp only [List.nil_append, Sort.put]; rw [if_neg (by omega), if_neg (by omega)]
  | x :: p, s, h, hs => by
    have := h x List.mem_cons_self; simp only [List.cons_append, Sort.put]; rw [if_pos this, put_split n p s (fun x hx => h x (List.mem_cons_of_mem _ hx)) hs]
theorem put_loop (l : List Int) (n : Int) (hl : l.length ≤ 1000000) (ha : Sort.Asc l) (hn : n ∉ l) : ∀ (d i k : Nat), i + d = l.length → d < k → (∀ x ∈ l.take i, x < n) → spec_l1Put.l0 k l n (i : Int) = some (Sort.put l n) := by
  intro d
  induction d with
  | zero =>
    intro i k hi hk h; obtain ⟨k, rfl⟩ : ∃ m, k = m + 1 := ⟨k - 1, by omega⟩
    have e1 : Sort.put l n = l.take i ++ n :: l.drop i := by
      have := put_split n (l.take i) (l.drop i) h (by rw [List.drop_eq_nil_of_le (by omega)]; simp)
      rwa [List.take_append_drop] at this
    simp only [spec_l1Put.l0]; rw [if_neg (by omega)]; simp only [Option.bind_some, Int.toNat_natCast]; rw [if_pos (by omega), if_pos (by omega), if_pos qz108, if_pos qz108, if_pos qz108, e1]; simp
  | succ d ih =>
    intro i k hi hk h; obtain ⟨k, rfl⟩ : ∃ m, k = m + 1 := ⟨k - 1, by omega⟩
    have hlt : i < l.length := by omega
    have er : rd l (i : Int) = l[i] := by
      unfold rd; rw [Int.toNat_natCast, List.getD_eq_getElem?_getD, List.getElem?_eq_getElem hlt]; rfl
    have e : wrap64 ((i : Int) + 1) = ((i + 1 : Nat) : Int) := by rw [w64 (by omega) (by omega)]; omega
    have hne : l[i] ≠ n := fun e => hn (e ▸ List.getElem_mem hlt)
    by_cases hc : l[i] < n
    · simp only [spec_l1Put.l0]
      rw [if_pos (by omega), if_pos (by omega), er, if_pos hc, e]; refine ih (i + 1) k (by omega) (by omega) (fun x hx => ?_)
      · rw [List.take_succ_eq_append_getElem hlt, List.mem_append, List.mem_singleton] at hx
        rcases hx with hx | rfl
        · exact h x hx
        · exact hc
    · have e1 : Sort.put l n = l.take i ++ n :: l.drop i := by
        have := put_split n (l.take i) (l.drop i) h (by
          rw [List.drop_eq_getElem_cons hlt]; intro y hy; simp only [List.head?_cons, Option.mem_def, Option.some.injEq] at hy
          omega)
        rwa [List.take_append_drop] at this
      simp only [spec_l1Put.l0]; rw [if_pos (by omega), if_pos (by omega), er, if_neg hc, if_neg hne]; simp only [Option.bind_some, Int.toNat_natCast]; rw [if_pos (by omega), if_pos qz108, if_pos qz108, if_pos qz108, e1]; simp
theorem put_at (l : List Int) (n : Int) (hl : l.length ≤ 1000000) (ha : Sort.Asc l) (hn : n ∉ l) (k : Nat) (hk : l.length < k) : spec_l1Put.f k l n = some (Sort.put l n) := put_loop l n hl ha hn l.length 0 k (by omega) hk (by simp)
theorem div_eq (a : Int) (h0 : -1000000000 ≤ a) (h1 : a ≤ 1000000000) : spec_l2Div.f a 1000 = some (rnd a) := by
  unfold spec_l2Div.f rnd; have e2 : wrap64 (2 * 1000) = 2000 := by unfold wrap64; omega
  by_cases h : a < 0
  · have e1 : wrap64 ((-2) * a) = 2 * (-a) := by unfold wrap64; omega
    have e3 : wrap64 (2 * (-a) + 1000) = 2 * (-a) + 1000 := by unfold wrap64; omega
    have e4 : Int.tdiv (2 * (-a) + 1000) 2000 = (2 * (-a) + 1000) / 2000 := Int.tdiv_eq_ediv_of_nonneg (by omega); have e5 : wrap64 ((2 * (-a) + 1000) / 2000) = (2 * (-a) + 1000) / 2000 := by unfold wrap64; omega
    have e6 : wrap64 (-((2 * (-a) + 1000) / 2000)) = -((2 * (-a) + 1000) / 2000) := by unfold wrap64; omega
    rw [if_pos h, e2, if_neg (by decide), e1, e3, e4, e5, e6, if_pos h]
  · have e1 : wrap64 (2 * a) = 2 * a := by unfold wrap64; omega
    have e3 : wrap64 (2 * a + 1000) = 2 * a + 1000 := by unfold wrap64; omega
    have e4 : Int.tdiv (2 * a + 1000) 2000 = (2 * a + 1000) / 2000 := Int.tdiv_eq_ediv_of_nonneg (by omega); have e5 : wrap64 ((2 * a + 1000) / 2000) = (2 * a + 1000) / 2000 := by unfold wrap64; omega
    rw [if_neg h, e2, if_neg (by decide), e1, e3, e4, e5, if_neg h]
theorem table_eq : spec_l2Table.f = some Sine.tab := rfl
theorem sine_eq (a : Int) (h0 : -1000000 ≤ a) (h1 : a ≤ 1000000) : spec_l2Sine.f a = some (Sine.f a) := by
  have hm : Int.tmod (wrap64 (Int.tmod a 360 + 360)) 360 = a % 360 := by
    have e0 : Int.tmod a 360 = a % 360 ∨ Int.tmod a 360 = a % 360 - 360 := by
      rw [Int.tmod_eq_emod]; split
      · left; omega
      · right; simp
    have e1 : wrap64 (Int.tmod a 360 + 360) = Int.tmod a 360 + 360 := by unfold wrap64; omega
    rw [e1, Int.tmod_eq_emod_of_nonneg (by omega)]; omega
  unfold spec_l2Sine.f Sine.f; simp only [hm]; have g0 : 0 ≤ a % 360 := by omega
  have g1 : a % 360 < 360 := by omega
  generalize a % 360 = d at *; have hlen : (Sine.tab.length : Int) = 91 := rfl; have w1 : wrap64 (180 - d) = 180 - d := by unfold wrap64; omega
  have w2 : wrap64 (d - 180) = d - 180 := by unfold wrap64; omega
  have w3 : wrap64 (360 - d) = 360 - d := by unfold wrap64; omega
  have hb : ∀ i : Nat, wrap64 (-(Sine.tab.getD i 0)) = -(Sine.tab.getD i 0) := fun i => by have := Sine.getD_bound i; unfold wrap64; omega
  by_cases c1 : d ≤ 90
  · rw [if_pos c1, table_eq, Option.bind_some, if_pos g0, if_pos (by omega), if_pos (by omega)]
    unfold Sine.s rd; rw [if_pos c1]
  · rw [if_neg c1]
    by_cases c2 : d ≤ 180
    · rw [if_pos c2, table_eq, Option.bind_some, w1, if_pos (by omega), if_pos (by omega), if_pos c2]
      unfold Sine.s rd; rw [if_neg c1]
    · rw [if_neg c2, if_neg c2]
      by_cases c3 : d ≤ 270
      · rw [if_pos c3, table_eq, Option.bind_some, w2, if_pos (by omega), if_pos (by omega)]
        unfold Sine.s rd; rw [if_pos (by omega), hb]
      · rw [if_neg c3, table_eq, Option.bind_some, w3, if_pos (by omega), if_pos (by omega)]
        unfold Sine.s rd; rw [if_neg (by omega), hb, show 180 - (d - 180) = 360 - d by omega]
theorem cosine_eq (a : Int) (h0 : -100000 ≤ a) (h1 : a ≤ 100000) : spec_l2Cosine.f a = some (Sine.f (a + 90)) := by
  unfold spec_l2Cosine.f; rw [w64 (by omega) (by omega), sine_eq _ (by omega) (by omega)]; rfl
theorem shift_eq (x : S49) (h : Good x) : spec_l4Shift.f x.f0 x.f1 x.f2 x.f3 x.f4 = some ((shift x).f0, (shift x).f1, (shift x).f2) := by
  obtain ⟨_, _, _, h2, h3, h4⟩ := h; have a := part_bound x.f2 x.f4 500 (by omega) (by omega); have p1 := prod_bound x.f2 (x.f4 + 90) (by omega) (by omega); have p2 := prod_bound x.f2 x.f4 (by omega) (by omega); have p3 := prod_bound (part x.f2 x.f4).1 (x.f3 + 90) (by omega) (by omega); have p4 := prod_bound (part x.f2 x.f4).1 x.f3 (by omega) (by omega); have ep : rnd (x.f2 * Sine.f (x.f4 + 90)) = (part x.f2 x.f4).1 := rfl; unfold spec_l4Shift.f
  rw [cosine_eq _ (by omega) (by omega), Option.bind_some, w64 (by omega) (by omega), div_eq _ (by omega) (by omega), Option.bind_some, ep, sine_eq _ (by omega) (by omega), Option.bind_some, w64 (by omega) (by omega), div_eq _ (by omega) (by omega), Option.bind_some,
    cosine_eq _ (by omega) (by omega), Option.bind_some, w64 (by omega) (by omega), div_eq _ (by omega) (by omega), Option.bind_some, sine_eq _ (by omega) (by omega), Option.bind_some, w64 (by omega) (by omega), div_eq _ (by omega) (by omega), Option.bind_some]
  rfl
def plL : Q → List Int
  | [] => [0]
  | (_, _, s) :: q => Sort.put (plL q) s
def trL : Q → List Int
  | [] => []
  | (i, _, _) :: q => Sort.put (trL q) i
def XL (ls : L) (q : Q) : List S31 := (List.range 8).map (Xq ls q)
theorem mem_plL (q : Q) (s : Int) : s ∈ plL q ↔ s ∈ verts 0 q := by
  induction q with
  | nil => simp [plL, verts]
  | cons x q ih =>
    obtain ⟨i, u, t⟩ := x; simp only [plL, Sort.mem_put, ih, verts, List.map_cons, List.mem_cons]
    constructor
    · rintro (h | h | h)
      · exact Or.inr (Or.inl h)
      · exact Or.inl h
      · exact Or.inr (Or.inr h)
    · rintro (h | h | h)
      · exact Or.inr (Or.inl h)
      · exact Or.inl h
      · exact Or.inr (Or.inr h)
theorem mem_trL (q : Q) (i : Int) : i ∈ trL q ↔ i ∈ legs q := by
  induction q with
  | nil => simp [trL, legs]
  | cons x q ih =>
    obtain ⟨j, u, t⟩ := x; simp only [trL, Sort.mem_put, ih, legs, List.map_cons, List.mem_cons]
theorem put_len_le (l : List Int) (n : Int) : (Sort.put l n).length ≤ l.length + 1 := by
  induction l with
  | nil => simp [Sort.put]
  | cons x l ih =>
    simp only [Sort.put]; split
    · simp; omega
    · split <;> simp
theorem asc_plL (q : Q) : Sort.Asc (plL q) := by
  induction q with
  | nil => simp [plL, Sort.Asc]
  | cons x q ih => exact Sort.asc_put ih _
theorem asc_trL (q : Q) : Sort.Asc (trL q) := by
  induction q with
  | nil => simp [trL, Sort.Asc]
  | cons x q ih => exact Sort.asc_put ih _
theorem plL_len (q : Q) : (plL q).length ≤ q.length + 1 := by
  induction q with
  | nil => simp [plL]
  | cons x q ih =>
    obtain ⟨i, u, s⟩ := x; have := put_len_le (plL q) s; simp only [plL, List.length_cons]; omega
theorem trL_len (q : Q) : (trL q).length ≤ q.length := by
  induction q with
  | nil => simp [trL]
  | cons x q ih =>
    obtain ⟨i, u, s⟩ := x; have := put_len_le (trL q) i; simp only [trL, List.length_cons]; omega
theorem XL_len (ls : L) (q : Q) : (XL ls q).length = 8 := by simp [XL]
theorem XL_at (ls : L) (q : Q) (a : Nat) (h : a < 8) : rd_T31 (XL ls q) (a : Int) = Xq ls q a := by
  unfold rd_T31 XL; rw [Int.toNat_natCast, List.getD_eq_getElem?_getD, List.getElem?_map, List.getElem?_range h]; rfl
theorem XL_set (ls : L) (q q' : Q) (d : Nat) (v : S31) (h : ∀ i, i < 8 → Xq ls q' i = if i = d then v else Xq ls q i) : (XL ls q).set d v = XL ls q' := by
  apply List.ext_getElem
  · simp [XL]
  · intro i h1 h2
    rw [List.getElem_set]; simp only [XL, List.getElem_map, List.getElem_range]; have hi : i < 8 := by simpa [XL] using h2
    rw [h i hi]; by_cases e : i = d
    · subst e; simp
    · rw [if_neg e, if_neg (fun e' => e e'.symm)]
theorem leg_good {ls : L} (hg : ∀ x ∈ ls, Good x) (i : Nat) (hi : i < ls.length) : Good (leg ls (i : Int)) := hg _ (by
  unfold leg rd_T49; rw [Int.toNat_natCast, List.getD_eq_getElem?_getD, List.getElem?_eq_getElem hi]
  exact List.getElem_mem _)
theorem one_leg (ls : L) (hn : ls.length ≤ 12) (hg : ∀ x ∈ ls, Good x) (q : Q) (ok : Grow.Ok (ends ls) ls.length q) (i : Nat) (hi : i < ls.length) (b : Bool) (hb : q.length ≤ 7) (r : List S31 × List Int × List Int)
    (h : ∀ b', b' = (b || decide (q.length < (Grow.step (ends ls) q i).length)) → Ev (fun k => spec_l6Place.l1 k ls (XL ls (Grow.step (ends ls) q i)) (plL (Grow.step (ends ls) q i)) (trL (Grow.step (ends ls) q i)) b' ((i + 1 : Nat) : Int)) r) :
    Ev (fun k => spec_l6Place.l1 k ls (XL ls q) (plL q) (trL q) b (i : Int)) r := by
  have b1 : (i : Int) < (ls.length : Int) := Int.ofNat_lt.mpr hi; have b0 : (0 : Int) ≤ (i : Int) := Int.natCast_nonneg i; have e : wrap64 ((i : Int) + 1) = ((i + 1 : Nat) : Int) := by rw [w64 (by omega) (by omega)]; omega
  have hgood := leg_good hg i hi; have hE : ends ls i = ((leg ls i).f0, (leg ls i).f1) := rfl; have hrd : rd_T49 ls (i : Int) = leg ls i := rfl; have hsh := shift_eq _ hgood; generalize hx : leg ls (i : Int) = x at hgood hE hrd hsh; obtain ⟨⟨a0, a8⟩, ⟨d0, d8⟩, had, _⟩ := hgood; obtain ⟨a, ha⟩ := Int.eq_ofNat_of_zero_le a0; obtain ⟨d, hd⟩ := Int.eq_ofNat_of_zero_le d0; rw [ha, hd] at had hE; have ka0 : (0 : Int) ≤ (a : Int) := Int.natCast_nonneg a; have kd0 : (0 : Int) ≤ (d : Int) := Int.natCast_nonneg d; rw [ha] at a8; rw [hd] at d8; have na8 : a < 8 := Int.ofNat_lt.mp a8; have nd8 : d < 8 := Int.ofNat_lt.mp d8; have hlen : ((XL ls q).length : Int) = 8 := by rw [XL_len]; rfl
  have ka1 : (a : Int) < ((XL ls q).length : Int) := by rw [hlen]; exact Int.ofNat_lt.mpr na8
  have kd1 : (d : Int) < ((XL ls q).length : Int) := by rw [hlen]; exact Int.ofNat_lt.mpr nd8
  have l1 : (plL q).length ≤ 8 := Nat.le_trans (plL_len q) (Nat.succ_le_succ hb); have l2 : (trL q).length ≤ 7 := Nat.le_trans (trL_len q) hb; have l1m : (plL q).length ≤ 1000000 := Nat.le_trans l1 (by decide); have l2m : (trL q).length ≤ 1000000 := Nat.le_trans l2 (by decide); have l1k : ∀ {k : Nat}, 20 ≤ k → (plL q).length < k := fun hk => Nat.lt_of_le_of_lt l1 (Nat.lt_of_lt_of_le (by decide : 8 < 20) hk)
  have l2k : ∀ {k : Nat}, 20 ≤ k → (trL q).length < k := fun hk => Nat.lt_of_le_of_lt l2 (Nat.lt_of_lt_of_le (by decide : 7 < 20) hk)
  have A1 := fun k (hk : 20 ≤ k) => has_at (plL q) (a : Int) l1m k (l1k hk)
  have D1 := fun k (hk : 20 ≤ k) => has_at (plL q) (d : Int) l1m k (l1k hk)
  simp only [mem_plL] at A1 D1
  have hitr : ¬ ((a : Int) ∈ verts 0 q ∧ (d : Int) ∈ verts 0 q) → (i : Int) ∉ trL q := by
    intro c h; rw [mem_trL] at h; have := ok.legs_ends _ h; rw [hE] at this; exact c ⟨this.1, this.2.1⟩
  have na : ∀ {c : Nat}, (c : Int) ∉ verts 0 q → (c : Int) ∉ plL q := fun h h' => h ((mem_plL q _).mp h')
  by_cases pa : (a : Int) ∈ verts 0 q
  · by_cases pd : (d : Int) ∈ verts 0 q
    · have hs : Grow.step (ends ls) q i = q := by
        unfold Grow.step; rw [hE, if_neg (fun c => c.2 pd), if_neg (fun c => c.2 pa)]
      rw [hs] at h; refine Ev.step_ge 20 (f := fun k => spec_l6Place.j2 k ls (XL ls q) (plL q) (trL q) b (i : Int) (a : Int) (d : Int) false) (fun k hk => ?_) ?_
      · simp only [spec_l6Place.l1]
        rw [if_pos b1, if_pos b0, hrd, ha, hd, A1 k hk, Option.bind_some, decide_eq_true pa, if_pos rfl, D1 k hk, Option.bind_some, decide_eq_true pd]; rfl
      refine Ev.step_ge 20 (f := fun k => spec_l6Place.j3 k ls (XL ls q) (plL q) (trL q) b (i : Int) (a : Int) (d : Int) false) (fun k hk => ?_) ?_
      · simp only [spec_l6Place.j2]
        rw [if_neg (by decide), D1 k hk, Option.bind_some, decide_eq_true pd, if_pos rfl, A1 k hk, Option.bind_some, decide_eq_true pa]; rfl
      refine Ev.step_ge 20 (fun k hk => ?_) (h b (by simp)); simp only [spec_l6Place.j3]; rw [if_neg (by decide), e]
    · have hs : Grow.step (ends ls) q i = ((i : Int), (a : Int), (d : Int)) :: q := by
        unfold Grow.step; rw [hE, if_pos ⟨pa, pd⟩]
      rw [hs] at h; refine Ev.step_ge 20 (f := fun k => spec_l6Place.j2 k ls (XL ls q) (plL q) (trL q) b (i : Int) (a : Int) (d : Int) true) (fun k hk => ?_) ?_
      · simp only [spec_l6Place.l1]
        rw [if_pos b1, if_pos b0, hrd, ha, hd, A1 k hk, Option.bind_some, decide_eq_true pa, if_pos rfl, D1 k hk, Option.bind_some, decide_eq_false pd]; rfl
      refine Ev.step_ge 20 (fun k hk => ?_) (h true (by simp)); simp only [spec_l6Place.j2]; rw [if_pos trivial, if_pos ka0, if_pos ka1, if_pos b0, if_pos b1, hrd, hsh, Option.bind_some]; simp only [spec_l4Plus.f, Option.bind_some]; rw [if_pos kd0, if_pos kd1, put_at _ _ l1m (asc_plL q) (na pd) k (l1k hk), Option.bind_some, put_at _ _ l2m (asc_trL q) (hitr (fun c => pd c.2)) k (l2k hk), Option.bind_some, e, XL_at _ _ _ na8, Int.toNat_natCast]; rw [← XL_set ls q (((i : Int), (a : Int), (d : Int)) :: q) d (plus (Xq ls q a) (shift x) 1) (fun s _ => Xq_fore hE hx s)]; rfl
  · by_cases pd : (d : Int) ∈ verts 0 q
    · have hs : Grow.step (ends ls) q i = ((i : Int), (d : Int), (a : Int)) :: q := by
        unfold Grow.step; rw [hE, if_neg (fun c => pa c.1), if_pos ⟨pd, pa⟩]
      rw [hs] at h; refine Ev.step_ge 20 (f := fun k => spec_l6Place.j2 k ls (XL ls q) (plL q) (trL q) b (i : Int) (a : Int) (d : Int) false) (fun k hk => ?_) ?_
      · simp only [spec_l6Place.l1]
        rw [if_pos b1, if_pos b0, hrd, ha, hd, A1 k hk, Option.bind_some, decide_eq_false pa, if_neg (by decide)]
      refine Ev.step_ge 20 (f := fun k => spec_l6Place.j3 k ls (XL ls q) (plL q) (trL q) b (i : Int) (a : Int) (d : Int) true) (fun k hk => ?_) ?_
      · simp only [spec_l6Place.j2]
        rw [if_neg (by decide), D1 k hk, Option.bind_some, decide_eq_true pd, if_pos rfl, A1 k hk, Option.bind_some, decide_eq_false pa]; rfl
      refine Ev.step_ge 20 (fun k hk => ?_) (h true (by simp)); simp only [spec_l6Place.j3]; rw [if_pos trivial, if_pos kd0, if_pos kd1, if_pos b0, if_pos b1, hrd, hsh, Option.bind_some]; simp only [spec_l4Plus.f, Option.bind_some]; rw [if_pos ka0, if_pos ka1, put_at _ _ l1m (asc_plL q) (na pa) k (l1k hk), Option.bind_some, put_at _ _ l2m (asc_trL q) (hitr (fun c => pa c.1)) k (l2k hk), Option.bind_some, e, XL_at _ _ _ nd8, Int.toNat_natCast]; rw [← XL_set ls q (((i : Int), (d : Int), (a : Int)) :: q) a (plus (Xq ls q d) (shift x) (-1)) (fun s _ => Xq_back hE had hx s)]; rfl
    · have hs : Grow.step (ends ls) q i = q := by
        unfold Grow.step; rw [hE, if_neg (fun c => pa c.1), if_neg (fun c => pd c.1)]
      rw [hs] at h; refine Ev.step_ge 20 (f := fun k => spec_l6Place.j2 k ls (XL ls q) (plL q) (trL q) b (i : Int) (a : Int) (d : Int) false) (fun k hk => ?_) ?_
      · simp only [spec_l6Place.l1]
        rw [if_pos b1, if_pos b0, hrd, ha, hd, A1 k hk, Option.bind_some, decide_eq_false pa, if_neg (by decide)]
      refine Ev.step_ge 20 (f := fun k => spec_l6Place.j3 k ls (XL ls q) (plL q) (trL q) b (i : Int) (a : Int) (d : Int) false) (fun k hk => ?_) ?_
      · simp only [spec_l6Place.j2]
        rw [if_neg (by decide), D1 k hk, Option.bind_some, decide_eq_false pd, if_neg (by decide)]
      refine Ev.step_ge 20 (fun k hk => ?_) (h b (by simp)); simp only [spec_l6Place.j3]; rw [if_neg (by decide), e]
theorem Good.range {ls : L} (hg : ∀ x ∈ ls, Good x) : ∀ i : Int, 0 ≤ i → i < ls.length → 0 ≤ (ends ls i).1 ∧ (ends ls i).1 < 8 ∧ 0 ≤ (ends ls i).2 ∧ (ends ls i).2 < 8 := by
  intro i h0 h1; obtain ⟨k, rfl⟩ := Int.eq_ofNat_of_zero_le h0; have h := leg_good hg k (Int.ofNat_lt.mp h1); exact ⟨h.1.1, h.1.2, h.2.1.1, h.2.1.2⟩
theorem round_ev (ls : L) (hn : ls.length ≤ 12) (hg : ∀ x ∈ ls, Good x) (r : List S31 × List Int × List Int) (q0 : Q) : ∀ (d i : Nat) (q : Q), i + d = ls.length → Grow.Ok (ends ls) ls.length q → q0.length ≤ q.length →
    (Ev (fun k => spec_l6Place.l0 k ls (XL ls (sweep (ends ls) d i q)) (plL (sweep (ends ls) d i q)) (trL (sweep (ends ls) d i q)) (decide (q0.length < (sweep (ends ls) d i q).length))) r) →
    Ev (fun k => spec_l6Place.l1 k ls (XL ls q) (plL q) (trL q) (decide (q0.length < q.length)) (i : Int)) r := by
  intro d
  induction d with
  | zero =>
    intro i q hi ok hq h; refine Ev.step (fun k => ?_) h; simp only [spec_l6Place.l1]; rw [if_neg (fun c => by have := Int.ofNat_lt.mp c; omega)]; rfl
  | succ d ih =>
    intro i q hi ok hq h; refine one_leg ls hn hg q ok i (by omega) _ (ok.len _ (Good.range hg)) r (fun b' hb' => ?_); have hl := Grow.step_len (ends ls) q i
    have hb2 : b' = decide (q0.length < (Grow.step (ends ls) q i).length) := by
      rw [hb', ← Bool.decide_or, decide_eq_decide]; omega
    rw [hb2]; exact ih (i + 1) _ (by omega) (ok.step _ (by omega) (by omega)) (by omega) h
theorem rounds_ev (ls : L) (hn : ls.length ≤ 12) (hg : ∀ x ∈ ls, Good x) (R : Q) : ∀ (f : Nat) (q : Q), Grow.Ok (ends ls) ls.length q → 8 ≤ f + q.length → grow (ends ls) ls.length f q = R → Ev (fun k => spec_l6Place.l0 k ls (XL ls q) (plL q) (trL q) true) (XL ls R, plL R, trL R) := by
  intro f
  induction f with
  | zero =>
    intro q ok h8 hR; have := ok.len _ (Good.range hg); omega
  | succ f ih =>
    intro q ok h8 hR; refine Ev.step (f := fun k => spec_l6Place.l1 k ls (XL ls q) (plL q) (trL q) (decide (q.length < q.length)) ((0 : Nat) : Int)) (fun k => ?_) ?_
    · simp only [spec_l6Place.l0]
      rw [if_pos trivial, decide_eq_false (Nat.lt_irrefl _)]; rfl
    · refine round_ev ls hn hg _ q ls.length 0 q (by omega) ok (Nat.le_refl _) ?_
      rw [grow] at hR; have hl := Grow.sweep_len (ends ls) ls.length 0 q; by_cases c : (sweep (ends ls) ls.length 0 q).length = q.length
      · rw [if_pos c] at hR
        have hs := (Grow.sweep_same (ends ls) c).1; have e0 : sweep (ends ls) ls.length ((0 : Nat) : Int) q = q := hs; rw [e0, decide_eq_false (Nat.lt_irrefl _), hR]; refine Ev.step (f := fun _ => some (XL ls R, plL R, trL R)) (fun k => ?_) (Ev.now _); simp only [spec_l6Place.l0]; rw [if_neg (by decide)]
      · rw [if_neg c] at hR
        have e1 : decide (q.length < (sweep (ends ls) ls.length ((0 : Nat) : Int) q).length) = true := decide_eq_true (by
          show q.length < (sweep (ends ls) ls.length 0 q).length
          omega)
        rw [e1]; exact ih _ (ok.sweep _ (by omega) (by omega)) (by show 8 ≤ f + (sweep (ends ls) ls.length 0 q).length; omega) hR
theorem place_ev (ls : L) (hn : ls.length ≤ 12) (hg : ∀ x ∈ ls, Good x) (R : Q) (hR : grow (ends ls) ls.length 8 [] = R) : Ev (fun k => spec_l6Place.f k ls) (XL ls R, plL R, trL R) := by
  refine Ev.congr (f := fun k => spec_l6Place.l0 k ls (XL ls []) (plL []) (trL []) true) (fun k => ?_) (rounds_ev ls hn hg R 8 [] (Grow.Ok.nil _ _) (by simp) hR); unfold spec_l6Place.f; rw [if_pos (by decide)]; rfl
instance : DecidablePred Good := fun x => by unfold Good; infer_instance
theorem within_eq (x a b : Int) : impl_within.f x a b = some (decide (a ≤ x ∧ x ≤ b)) := by
  unfold impl_within.f; by_cases h : x ≥ a
  · rw [if_pos h]; congr 1; rw [decide_eq_decide]; omega
  · rw [if_neg h, decide_eq_false (by omega)]
theorem IsLeg_eq (x : S49) : impl_IsLeg.f x.f0 x.f1 x.f2 x.f3 x.f4 = some (decide (Good x)) := by
  unfold impl_IsLeg.f impl_isStation.f impl_isBearing.f; simp only [within_eq, Option.bind_some]; by_cases h0 : 0 ≤ x.f0 ∧ x.f0 ≤ 7
  · rw [decide_eq_true h0, if_pos rfl]
    by_cases h1 : 0 ≤ x.f1 ∧ x.f1 ≤ 7
    · rw [decide_eq_true h1, if_pos rfl]
      by_cases h2 : x.f0 = x.f1
      · rw [if_pos h2, decide_eq_false (fun c => c.2.2.1 h2)]
      · rw [if_neg h2]
        by_cases h3 : 1 ≤ x.f2 ∧ x.f2 ≤ 500
        · rw [decide_eq_true h3, if_pos rfl]
          by_cases h4 : 0 ≤ x.f3 ∧ x.f3 ≤ 359
          · rw [decide_eq_true h4, if_pos rfl]
            congr 1
            rw [decide_eq_decide]; exact ⟨fun c => ⟨⟨h0.1, by omega⟩, ⟨h1.1, by omega⟩, h2, h3, h4, c⟩, fun c => c.2.2.2.2.2⟩
          · rw [decide_eq_false h4, if_neg (by decide), decide_eq_false (fun c => h4 c.2.2.2.2.1)]
        · rw [decide_eq_false h3, if_neg (by decide), decide_eq_false (fun c => h3 c.2.2.2.1)]
    · rw [decide_eq_false h1, if_neg (by decide), decide_eq_false (fun c => h1 ⟨c.2.1.1, (by have := c.2.1.2; omega)⟩)]
  · rw [decide_eq_false h0, if_neg (by decide), decide_eq_false (fun c => h0 ⟨c.1.1, (by have := c.1.2; omega)⟩)]
theorem l4Leg_eq (x : S49) : spec_l4Leg.f x.f0 x.f1 x.f2 x.f3 x.f4 = some (decide (Good x)) := IsLeg_eq x
def legsB (ls : L) : Bool := decide ((∀ x ∈ ls, Good x) ∧ ls.length ≤ 12)
theorem legsB_all (ls : L) : (if allFrom (fun i => decide (Good (ls.getD i z49))) 0 ls.length = true then some (decide ((ls.length : Int) ≤ 12)) else some false) = some (legsB ls) := by
  rw [allFrom_all ls z49 (fun x => decide (Good x))]; unfold legsB; by_cases h : ∀ x ∈ ls, Good x
  · rw [if_pos qz127]
    congr 1
    rw [decide_eq_decide]; exact ⟨fun c => ⟨h, by omega⟩, fun c => by have := c.2; omega⟩
  · rw [if_neg qz127, decide_eq_false (fun c => h c.1)]
theorem areLegs_ev (ls : L) (hb : ls.length ≤ 140737488351232) : Ev (fun k => impl_areLegs.f k ls) (legsB ls) := by
  obtain ⟨K, hK⟩ := all_ev (fun i => decide (Good (ls.getD i z49))) ls.length hb (fun k i => impl_areLegs.l0 k ls ls (ls.length : Int) i) (some (decide ((ls.length : Int) ≤ 12))) (by
      intro k i hi; simp only [impl_areLegs.l0]; rw [if_pos (by omega), if_pos (by omega), if_pos (by omega), IsLeg_eq, Option.bind_some]
      rfl) (by
      intro k; simp only [impl_areLegs.l0]
      rw [if_neg (by omega)])
  refine ⟨K, fun k hk => ?_⟩; have := hK k hk; rw [legsB_all] at this; exact this
theorem l4Legs_ev (ls : L) (hb : ls.length ≤ 140737488351232) : Ev (fun k => spec_l4Legs.f k ls) (legsB ls) := by
  obtain ⟨K, hK⟩ := all_ev (fun i => decide (Good (ls.getD i z49))) ls.length hb (fun k i => spec_l4Legs.l0 k ls i) (some (decide ((ls.length : Int) ≤ 12))) (by
      intro k i hi; simp only [spec_l4Legs.l0]; rw [if_pos (by omega), if_pos (by omega), l4Leg_eq, Option.bind_some]
      rfl) (by
      intro k; simp only [spec_l4Legs.l0]
      rw [if_neg (by omega)])
  refine ⟨K, fun k hk => ?_⟩; have := hK k hk; rw [legsB_all] at this; exact this
def RR (ls : L) : Q := grow (ends ls) ls.length 8 []
theorem RR_ok {ls : L} (hg : ∀ x ∈ ls, Good x) : Grow.Ok (ends ls) ls.length (RR ls) ∧ ∀ i : Int, 0 ≤ i → i < ls.length → ((ends ls i).1 ∈ verts 0 (RR ls) ↔ (ends ls i).2 ∈ verts 0 (RR ls)) := by
  have h := Grow.grow_end (ends ls) (Good.range hg) 8 [] (Grow.Ok.nil _ _) (by simp); exact ⟨h.1, h.2.2⟩
theorem RR_len {ls : L} (hg : ∀ x ∈ ls, Good x) : (RR ls).length ≤ 7 := (RR_ok hg).1.len _ (Good.range hg)
theorem plL_small {ls : L} (hg : ∀ x ∈ ls, Good x) : (plL (RR ls)).length ≤ 8 := Nat.le_trans (plL_len _) (Nat.succ_le_succ (RR_len hg))
theorem trL_small {ls : L} (hg : ∀ x ∈ ls, Good x) : (trL (RR ls)).length ≤ 7 := Nat.le_trans (trL_len _) (RR_len hg)
theorem Pq_eq (q : Q) (a : Nat) : Pq q a = decide ((a : Int) ∈ plL q) := by
  unfold Pq; rw [decide_eq_decide, mem_plL]
theorem Bq_eq (q : Q) (a : Nat) : Bq q a = decide ((a : Int) ∈ trL q) := by
  unfold Bq; rw [decide_eq_decide, mem_trL]
theorem closing_loop (ls : L) (hn : ls.length ≤ 12) (hg : ∀ x ∈ ls, Good x) (q : Q) (h1 : (plL q).length ≤ 8) (h2 : (trL q).length ≤ 7) : ∀ (d i : Nat), i + d = ls.length → Ev (fun k => spec_l6Closing.l0 k ls (closeTo ls q i) (plL q) (trL q) (i : Int)) (closeTo ls q ls.length) := by
  intro d
  induction d with
  | zero =>
    intro i hi; obtain rfl : i = ls.length := by omega
    refine Ev.step (f := fun _ => some (closeTo ls q ls.length)) (fun k => ?_) (Ev.now _); simp only [spec_l6Closing.l0]; rw [if_neg (by omega)]
  | succ d ih =>
    intro i hi; have e : wrap64 ((i : Int) + 1) = ((i + 1 : Nat) : Int) := by rw [w64 (by omega) (by omega)]; omega
    have b1 : (i : Int) < (ls.length : Int) := by omega
    have b0 : (0 : Int) ≤ (i : Int) := by omega
    have hlen := closeTo_len ls q i; have bl : (closeTo ls q i).length < 17592186044416 := by omega
    have hgood := leg_good hg i (by omega); have hrd : rd_T49 ls (i : Int) = leg ls i := rfl
    have hc : closeTo ls q (i + 1) = if Pq q (leg ls i).f0.toNat = true ∧ Bq q i = false then closeTo ls q i ++ [(i : Int)] else closeTo ls q i := rfl
    have h := ih (i + 1) (by omega); rw [hc] at h; generalize leg ls (i : Int) = x at hgood hrd h; obtain ⟨a, ha⟩ := Int.eq_ofNat_of_zero_le hgood.1.1; rw [ha, Int.toNat_natCast, Pq_eq, Bq_eq] at h; refine Ev.step_ge 20 (fun k hk => ?_) h; simp only [spec_l6Closing.l0]; rw [if_pos b1, if_pos b0, hrd, ha, has_at _ _ (Nat.le_trans h1 (by decide)) k (Nat.lt_of_le_of_lt h1 (Nat.lt_of_lt_of_le (by decide : 8 < 20) hk)), Option.bind_some]; by_cases c1 : (a : Int) ∈ plL q
    · rw [decide_eq_true c1, if_pos rfl, has_at _ _ (Nat.le_trans h2 (by decide)) k (Nat.lt_of_le_of_lt h2 (Nat.lt_of_lt_of_le (by decide : 7 < 20) hk)), Option.bind_some]
      by_cases c2 : (i : Int) ∈ trL q
      · rw [decide_eq_true c2, if_pos rfl, e, if_neg (fun h => by cases h.2)]
      · rw [decide_eq_false c2, if_neg (by decide), if_pos bl, e, if_pos ⟨rfl, rfl⟩]
    · rw [decide_eq_false c1, if_neg (by decide), e, if_neg (fun h => by cases h.1)]
def closeL (ls : L) : List Int := closeTo ls (RR ls) ls.length
theorem closing_ev (ls : L) (hn : ls.length ≤ 12) (hg : ∀ x ∈ ls, Good x) : Ev (fun k => spec_l6Closing.f k ls) (closeL ls) := by
  refine Ev.congr (f := fun k => (spec_l6Place.f k ls).bind fun bt193 => spec_l6Closing.l0 k ls [] bt193.2.1 bt193.2.2 0) (fun k => rfl) ?_; refine Ev.bind (place_ev ls hn hg (RR ls) rfl) ?_; exact closing_loop ls hn hg (RR ls) (plL_small hg) (trL_small hg) ls.length 0 (by omega)
theorem legsB_iff {ls : L} : legsB ls = true ↔ (∀ x ∈ ls, Good x) ∧ ls.length ≤ 12 := by
  unfold legsB; exact decide_eq_true_iff
def countM (ls : L) : Int × Bool := if legsB ls = true then ((closeL ls).length, true) else (0, false)
theorem count_ev (ls : L) (hb : ls.length ≤ 140737488351232) : Ev (fun k => spec_CountLoops.f k ls) (countM ls) := by
  refine Ev.bind (l4Legs_ev ls hb) ?_; unfold countM; by_cases h : legsB ls = true
  · have h' := legsB_iff.mp h
    rw [if_pos h]; exact Ev.pos h (Ev.bind (closing_ev ls h'.2 h'.1) (Ev.now _))
  · rw [if_neg h]
    exact Ev.neg h (Ev.now _)
end Go.Proofs.YtcafgpincnkcdaaDoor.Net
namespace Go.Proofs.YtcafgpincnkcdaaDoor.A
open Go.RowKit YtcafgpincnkcdaaDoorW.PrintWords YtcafgpincnkcdaaDoorW.PrintLast YtcafgpincnkcdaaDoorW.PrintMore
open Net (L Sine.Laid RR countM legsB closeL legsB_iff areLegs_ev)
def impl_CountLoops.f (l0 : List (S49)) : Option (Int × Bool) := if l0.length ≤ 140737488351232 then some (countM l0) else none
theorem impl_CountLoops.calls (A0 : Option Addr) (c0 : Nat) (l0 : List (S49)) (r1 : Int) (r2 : Bool) (w : World) (hr0 : Kd.C k49 w A0 l0.length l0) (hc0 : l0.length ≤ c0) (h : impl_CountLoops.f l0 = some (r1, r2)) (hL : Sine.Laid w) :
    Calls Tryd.prog 46 #[.slice A0 l0.length c0] w fun e w' => e = .returned (.tuple #[.int .i64 r1, .bool r2]) ∧ Below w.heap.size w w' := by
  unfold impl_CountLoops.f at h; by_cases hb : l0.length ≤ 140737488351232
  · rw [if_pos hb] at h
    obtain ⟨K, hK⟩ := areLegs_ev l0 hb; have HA := ak (hK K (Nat.le_refl _)); have HR := ak hr0; have HL := ak hL; have HB := ak (Below.refl w.heap.size w); clear hK hr0 hL hb; unfold countM at h; by_cases hv : legsB l0 = true
    · rw [if_pos hv] at h
      obtain ⟨rfl, rfl⟩ := Prod.mk.inj (Option.some.inj h); rw [hv] at HA; have hv' := legsB_iff.mp hv; have HG := ak hv'.1; have hn := hv'.2; clear h hv hv'; go_enter Tryd.func46, Tryd.ntmps46
      go_wp2_with (first
        | (go_at_call 62; (with_reducible refine (impl_areLegs.calls K _ _ l0 true _ ?s1 ?s2 HA.out).mono ?_); (case s1 => exact HR.out); (case s2 => exact hc0); rintro e w' ⟨rfl, hw⟩; replace HB := ak (below_step HB.out hw); clear hw)
        | (go_at_call 63; (with_reducible refine (Net.place A0 c0 l0 _ ?s1 ?s2 hc0 hn HG.out (RR l0) rfl).mono ?_); (case s1 => exact HL.out.keep HB.out); (case s2 => exact Kd.C_below HR.out HB.out); rintro e w' ⟨g, T, cl, rfl, hst, ho, hw⟩; replace HB := ak (below_step HB.out hw); obtain ⟨cA, cC, ecl⟩ := Kd.R_slice ho; subst ecl; have cc := hst.cc; clear ho hst hw))
      go_ret2
      exact ⟨rfl, HB.out⟩
    · rw [if_neg hv] at h
      obtain ⟨rfl, rfl⟩ := Prod.mk.inj (Option.some.inj h); rw [Bool.eq_false_iff.mpr hv] at HA; clear h hv; go_enter Tryd.func46, Tryd.ntmps46; go_wp2_with (go_at_call 62; (with_reducible refine (impl_areLegs.calls K _ _ l0 false _ ?s1 ?s2 HA.out).mono ?_); (case s1 => exact HR.out); (case s2 => exact hc0); rintro e w' ⟨rfl, hw⟩; replace HB := ak (below_step HB.out hw); clear hw)
      go_ret2
      exact ⟨rfl, HB.out⟩
  · rw [if_neg hb] at h
    cases h
end Go.Proofs.YtcafgpincnkcdaaDoor.A
namespace Go.Proofs.YtcafgpincnkcdaaDoor.Net
open Go.RowKit YtcafgpincnkcdaaDoorW.PrintWords YtcafgpincnkcdaaDoorW.PrintLast YtcafgpincnkcdaaDoorW.PrintMore A Plain
theorem idx_loop (l : List Int) (n : Int) (hl : l.length ≤ 1000000) : ∀ (d i k : Nat), i + d = l.length → d < k → ∃ r, slices_Index_int_int.l0 k l n (l.length : Int) (i : Int) = some r ∧ (r ≥ 0 ↔ n ∈ l.drop i) := by
  intro d
  induction d with
  | zero =>
    intro i k hi hk; obtain ⟨k, rfl⟩ : ∃ m, k = m + 1 := ⟨k - 1, by omega⟩
    refine ⟨-1, ?_, ?_⟩
    · simp only [slices_Index_int_int.l0]
      rw [if_neg (by omega)]
    · rw [List.drop_eq_nil_of_le (by omega)]
      simp
  | succ d ih =>
    intro i k hi hk; obtain ⟨k, rfl⟩ : ∃ m, k = m + 1 := ⟨k - 1, by omega⟩
    have hlt : i < l.length := by omega
    have er : rd l (i : Int) = l[i] := by
      unfold rd; rw [Int.toNat_natCast, List.getD_eq_getElem?_getD, List.getElem?_eq_getElem hlt]; rfl
    have e : wrap64 ((i : Int) + 1) = ((i + 1 : Nat) : Int) := by rw [w64 (by omega) (by omega)]; omega
    rw [List.drop_eq_getElem_cons hlt]; by_cases hc : n = l[i]
    · refine ⟨(i : Int), ?_, ?_⟩
      · simp only [slices_Index_int_int.l0]
        rw [if_pos (by omega), if_pos (by omega), if_pos (by omega), er, if_pos hc]
      · exact ⟨fun _ => by rw [hc]; exact List.mem_cons_self, fun _ => by omega⟩
    · obtain ⟨r, h1, h2⟩ := ih (i + 1) k (by omega) (by omega)
      refine ⟨r, ?_, ?_⟩
      · simp only [slices_Index_int_int.l0]
        rw [if_pos (by omega), if_pos (by omega), if_pos (by omega), er, if_neg hc, e, h1]
      · rw [h2, List.mem_cons]
        exact ⟨Or.inr, fun h => h.resolve_left hc⟩
theorem hasI_at (l : List Int) (n : Int) (hl : l.length ≤ 1000000) (k : Nat) (hk : l.length < k) : impl_has.f k l n = some (decide (n ∈ l)) := by
  obtain ⟨r, h1, h2⟩ := idx_loop l n hl l.length 0 k (by omega) hk; have h1' : slices_Index_int_int.f k l n = some r := h1; simp only [impl_has.f, slices_Contains_int_int.f, h1', Option.bind_some]
  congr 1
  rw [decide_eq_decide, h2, List.drop_zero]
def Gate (ls : L) (b : Bool) (w : World) (e : Ending) (w' : World) : Prop := ∃ g T cA cC, e = .returned (.tuple #[.pointer (some ⟨g, 0, none⟩), .bool b]) ∧ St ls.length T g (Pq (RR ls)) (Xq ls (RR ls)) (Bq (RR ls)) (.slice cA (closeL ls).length cC) w' ∧ Kd.R (Kd.int .i64) 3 w' w.heap.size (fun k => k ≠ g ∧ k ≠ T) (.slice cA (closeL ls).length cC) (closeL ls) ∧ Below w.heap.size w w'
theorem closeL_len (ls : L) : (closeL ls).length ≤ ls.length := closeTo_len ls (RR ls) ls.length
theorem closingLeg (A : Option Addr) (c : Nat) (ls : L) (leg : Int) (w : World) (hL : Sine.Laid w) (hr0 : Kd.C k49 w A ls.length ls) (hc : ls.length ≤ c) (hv : legsB ls = true) :
    Calls Tryd.prog 93 #[.slice A ls.length c, .int .i64 leg] w (Gate ls (decide (leg ∈ closeL ls)) w) := by
  have hv' := legsB_iff.mp hv; have hn := hv'.2; obtain ⟨K, hK⟩ := areLegs_ev ls (by omega); have HA := ak (hK K (Nat.le_refl _)); rw [hv] at HA; have hcl := closeL_len ls; have HH := ak (hasI_at (closeL ls) leg (by omega) 20 (by omega)); have HG := ak hv'.1; have HR := ak hr0; have HL := ak hL; have HB := ak (Below.refl w.heap.size w); clear hK hr0 hL hv hv'; go_enter Tryd.func93, Tryd.ntmps93
  go_wp2_with (first
    | (go_at_call 62; (with_reducible refine (impl_areLegs.calls K _ _ ls true _ ?s1 ?s2 HA.out).mono ?_); (case s1 => exact Kd.C_below HR.out qz11); (case s2 => exact hc); rintro e w' ⟨rfl, hw⟩; replace HB := ak (below_step (show Below w.heap.size w _ from by (repeat (first | exact HB.out | exact Below.refl _ _ | apply below_alloc | apply pw_below_drewN | apply below_drew1)); done) hw); clear hw)
    | ((go_at_call 63; (with_reducible refine (place _ c ls _ ?s1 ?s2 hc hn HG.out (RR ls) rfl).mono ?_); (case s1 => exact HL.out.keep qz11); (case s2 => exact Kd.C_below HR.out qz11); rintro e w' ⟨g, T, cl, rfl, hst, ho, hw⟩; have HO : Aside0 (Kd.R (Kd.int .i64) 3 w' w.heap.size (fun k => k ≠ g ∧ k ≠ T) cl (closeL ls)) := ⟨Kd.R_lower ho (below_size (show Below w.heap.size w _ from by (repeat (first | exact HB.out | exact Below.refl _ _ | apply below_alloc | apply pw_below_drewN | apply below_drew1)); done))⟩; replace HB := ak (below_step (show Below w.heap.size w _ from by (repeat (first | exact HB.out | exact Below.refl _ _ | apply below_alloc | apply pw_below_drewN | apply below_drew1)); done) hw); have HS := ak hst; clear hst ho hw; obtain ⟨cA, cC, ecl⟩ := Kd.R_slice HO.out; subst ecl); have cc := HS.out.cc)
    | (go_at_call 88; (with_reducible refine (impl_has.calls 20 _ _ (closeL ls) leg _ _ ?s1 ?s2 HH.out).mono ?_); (case s1 => exact (Kd.R_reads' HO.out).2.2); (case s2 => exact (Kd.R_reads' HO.out).2.1); rintro e w' ⟨rfl, ⟨nd, rfl⟩⟩))
  go_ret2
  exact ⟨g, T, cA, cC, rfl, HS.out.keep (pw_below_drewN (Below.refl _ _) _), Kd.R_drewN HO.out _, pw_below_drewN HB.out _⟩
theorem isStation_eq (x : Int) : impl_isStation.f x = some (decide (0 ≤ x ∧ x ≤ 7)) := by
  unfold impl_isStation.f; rw [within_eq]; rfl
theorem placedLeg (A : Option Addr) (c : Nat) (ls : L) (i : Int) (w : World) (hL : Sine.Laid w) (hr0 : Kd.C k49 w A ls.length ls) (hc : ls.length ≤ c) (hv : legsB ls = true) (h0 : 0 ≤ i) (h1 : i < ls.length) :
    Calls Tryd.prog 84 #[.slice A ls.length c, .int .i64 i] w (Gate ls (Pq (RR ls) (leg ls i).f0.toNat) w) := by
  have hv' := legsB_iff.mp hv; have hn := hv'.2; obtain ⟨K, hK⟩ := areLegs_ev ls (by omega); have HA := ak (hK K (Nat.le_refl _)); rw [hv] at HA; have HW : Aside0 (impl_within.f i 0 ((ls.length : Int) - 1) = some true) := ⟨(by rw [within_eq, decide_eq_true (by omega)])⟩; obtain ⟨k, rfl⟩ := Int.eq_ofNat_of_zero_le h0; have hg := leg_good hv'.1 k (by omega); obtain ⟨a, ha⟩ := Int.eq_ofNat_of_zero_le hg.1.1; have ha8 : (a : Int) < 8 := by have := hg.1.2; omega
  rw [ha, Int.toNat_natCast]; obtain ⟨_, e2, h2, _⟩ := at_T49 hr0 (k : Int) h0 h1; cases e2; rw [Int.toNat_natCast, show rd_T49 ls (k : Int) = leg ls k from rfl, ha] at h2; have H2 := ak h2; have HG := ak hv'.1; have HR := ak hr0; have HL := ak hL; have HB := ak (Below.refl w.heap.size w); clear hK hr0 hL hv hv' hg ha h2; go_enter Tryd.func84, Tryd.ntmps84
  go_wp2_with (first
    | (go_at_call 62; (with_reducible refine (impl_areLegs.calls K _ _ ls true _ ?s1 ?s2 HA.out).mono ?_); (case s1 => exact Kd.C_below HR.out qz11); (case s2 => exact hc); rintro e w' ⟨rfl, hw⟩; replace HB := ak (below_step (show Below w.heap.size w _ from by (repeat (first | exact HB.out | exact Below.refl _ _ | apply below_alloc | apply pw_below_drewN | apply below_drew1)); done) hw); clear hw)
    | (go_at_call 71; (with_reducible refine (impl_within.calls _ _ _ _ _ HW.out).mono ?_); rintro e w' ⟨rfl, ⟨nd, rfl⟩⟩; replace HB := ak (pw_below_drewN HB.out nd))
    | ((go_at_call 63; (with_reducible refine (place _ c ls _ ?s1 ?s2 hc hn HG.out (RR ls) rfl).mono ?_); (case s1 => exact HL.out.keep qz11); (case s2 => exact Kd.C_below HR.out qz11); rintro e w' ⟨g, T, cl, rfl, hst, ho, hw⟩; have HO : Aside0 (Kd.R (Kd.int .i64) 3 w' w.heap.size (fun k => k ≠ g ∧ k ≠ T) cl (closeL ls)) := ⟨Kd.R_lower ho (below_size (show Below w.heap.size w _ from by (repeat (first | exact HB.out | exact Below.refl _ _ | apply below_alloc | apply pw_below_drewN | apply below_drew1)); done))⟩; replace HB := ak (below_step (show Below w.heap.size w _ from by (repeat (first | exact HB.out | exact Below.refl _ _ | apply below_alloc | apply pw_below_drewN | apply below_drew1)); done) hw); have HS := ak hst; clear hst ho hw; obtain ⟨cA, cC, ecl⟩ := Kd.R_slice HO.out; subst ecl); have h2 := Sine.keepc H2.out HB.out; have pa := HS.out.pb a (by omega)))
  go_quiet (fail)
  go_wp2
  go_ret2
  exact ⟨g, T, cA, cC, rfl, HS.out.keep (pw_below_drewN (Below.refl _ _) _), Kd.R_drewN HO.out _, pw_below_drewN HB.out _⟩
theorem placedLeg_no (A : Option Addr) (c : Nat) (ls : L) (i : Int) (w : World) (hr0 : Kd.C k49 w A ls.length ls) (hc : ls.length ≤ c) (hb : ls.length ≤ 140737488351232) (hv : legsB ls = true → ¬ (0 ≤ i ∧ i < ls.length)) :
    Calls Tryd.prog 84 #[.slice A ls.length c, .int .i64 i] w fun e w' => e = .returned (.tuple #[.pointer none, .bool false]) ∧ Below w.heap.size w w' := by
  obtain ⟨K, hK⟩ := areLegs_ev ls hb; have HA := ak (hK K (Nat.le_refl _)); have HR := ak hr0; have HB := ak (Below.refl w.heap.size w); clear hK hr0; cases hq : legsB ls
  · rw [hq] at HA
    clear hq hv; go_enter Tryd.func84, Tryd.ntmps84; go_wp2_with (go_at_call 62; (with_reducible refine (impl_areLegs.calls K _ _ ls false _ ?s1 ?s2 HA.out).mono ?_); (case s1 => exact Kd.C_below HR.out qz11); (case s2 => exact hc); rintro e w' ⟨rfl, hw⟩; replace HB := ak (below_step (show Below w.heap.size w _ from by (repeat (first | exact HB.out | exact Below.refl _ _ | apply below_alloc | apply pw_below_drewN | apply below_drew1)); done) hw); clear hw)
    go_ret2
    exact ⟨rfl, HB.out⟩
  · rw [hq] at HA
    have hv2 := hv hq; have HW : Aside0 (impl_within.f i 0 ((ls.length : Int) - 1) = some false) := ⟨(by rw [within_eq, decide_eq_false (by omega)])⟩; clear hq hv; go_enter Tryd.func84, Tryd.ntmps84
    go_wp2_with (first
      | (go_at_call 62; (with_reducible refine (impl_areLegs.calls K _ _ ls true _ ?s1 ?s2 HA.out).mono ?_); (case s1 => exact Kd.C_below HR.out qz11); (case s2 => exact hc); rintro e w' ⟨rfl, hw⟩; replace HB := ak (below_step (show Below w.heap.size w _ from by (repeat (first | exact HB.out | exact Below.refl _ _ | apply below_alloc | apply pw_below_drewN | apply below_drew1)); done) hw); clear hw)
      | (go_at_call 71; (with_reducible refine (impl_within.calls _ _ _ _ _ HW.out).mono ?_); rintro e w' ⟨rfl, ⟨nd, rfl⟩⟩; replace HB := ak (pw_below_drewN HB.out nd)))
    go_ret2
    exact ⟨rfl, HB.out⟩
theorem placedAt (A : Option Addr) (c : Nat) (ls : L) (s : Int) (w : World) (hL : Sine.Laid w) (hr0 : Kd.C k49 w A ls.length ls) (hc : ls.length ≤ c) (hv : legsB ls = true) (h0 : 0 ≤ s) (h1 : s < 8) :
    Calls Tryd.prog 70 #[.slice A ls.length c, .int .i64 s] w (Gate ls (Pq (RR ls) s.toNat) w) := by
  have hv' := legsB_iff.mp hv; have hn := hv'.2; obtain ⟨K, hK⟩ := areLegs_ev ls (by omega); have HA := ak (hK K (Nat.le_refl _)); rw [hv] at HA; have HW : Aside0 (impl_isStation.f s = some true) := ⟨(by rw [isStation_eq, decide_eq_true (by omega)])⟩; obtain ⟨a, rfl⟩ := Int.eq_ofNat_of_zero_le h0; rw [Int.toNat_natCast]; have HG := ak hv'.1; have HR := ak hr0; have HL := ak hL; have HB := ak (Below.refl w.heap.size w); clear hK hr0 hL hv hv'; go_enter Tryd.func70, Tryd.ntmps70
  go_wp2_with (first
    | (go_at_call 62; (with_reducible refine (impl_areLegs.calls K _ _ ls true _ ?s1 ?s2 HA.out).mono ?_); (case s1 => exact Kd.C_below HR.out qz11); (case s2 => exact hc); rintro e w' ⟨rfl, hw⟩; replace HB := ak (below_step (show Below w.heap.size w _ from by (repeat (first | exact HB.out | exact Below.refl _ _ | apply below_alloc | apply pw_below_drewN | apply below_drew1)); done) hw); clear hw)
    | (go_at_call 107; (with_reducible refine (impl_isStation.calls _ _ _ HW.out).mono ?_); rintro e w' ⟨rfl, ⟨nd, rfl⟩⟩; replace HB := ak (pw_below_drewN HB.out nd))
    | ((go_at_call 63; (with_reducible refine (place _ c ls _ ?s1 ?s2 hc hn HG.out (RR ls) rfl).mono ?_); (case s1 => exact HL.out.keep qz11); (case s2 => exact Kd.C_below HR.out qz11); rintro e w' ⟨g, T, cl, rfl, hst, ho, hw⟩; have HO : Aside0 (Kd.R (Kd.int .i64) 3 w' w.heap.size (fun k => k ≠ g ∧ k ≠ T) cl (closeL ls)) := ⟨Kd.R_lower ho (below_size (show Below w.heap.size w _ from by (repeat (first | exact HB.out | exact Below.refl _ _ | apply below_alloc | apply pw_below_drewN | apply below_drew1)); done))⟩; replace HB := ak (below_step (show Below w.heap.size w _ from by (repeat (first | exact HB.out | exact Below.refl _ _ | apply below_alloc | apply pw_below_drewN | apply below_drew1)); done) hw); have HS := ak hst; clear hst ho hw; obtain ⟨cA, cC, ecl⟩ := Kd.R_slice HO.out; subst ecl); have pa := HS.out.pb a (by omega)))
  go_quiet (fail)
  go_wp2
  go_ret2
  exact ⟨g, T, cA, cC, rfl, HS.out.keep (pw_below_drewN (Below.refl _ _) _), Kd.R_drewN HO.out _, pw_below_drewN HB.out _⟩
end Go.Proofs.YtcafgpincnkcdaaDoor.Net
namespace Go.Proofs.YtcafgpincnkcdaaDoor.Net
open Go Go.Maps Go.WideElems Go.ChangeShapes Go.RowKit YtcafgpincnkcdaaDoorW.PrintWords YtcafgpincnkcdaaDoorW.PrintLast YtcafgpincnkcdaaDoorW.PrintMore A Plain
open Tree (verts legs W)
open Grow (Q)
theorem keyed3 : Maps.Keyed Tryd.prog 3 := Maps.int_keyed Tryd.underlying3
theorem zero3 (w : World) : (zeroValue 3).run Tryd.prog w = .ok (.int .i64 0) w := by kernel_rfl
def MapAt (w : World) (b : Nat) (n : Nat) (F : Int → Option Int) : Prop := ∃ D : DataW Unit, w.ownsMap Tryd.prog 3 (plainElem Tryd.prog 3) b n D ∧ ∀ x : Int, 0 ≤ x → x < 100 → Maps.has D (.int .i64 x) = (F x).isSome ∧ D.atKey (.int .i64 x) (.lit (.int .i64 0)) = .lit (.int .i64 ((F x).getD 0))
theorem wf_small {x : Int} (h0 : -100 ≤ x) (h1 : x < 1000) : (Lit.int .i64 x).wf = true := by
  simp only [Lit.wf, IntKind.min, IntKind.max, IntKind.signed, IntKind.bits, Bool.and_eq_true, decide_eq_true_eq, if_true]; omega
theorem MapAt.kept {w w' : World} {b n : Nat} {F : Int → Option Int} {row : Option Nat} (h : MapAt w b n F) (hg : w.grownBy w' row) (hne : some b ≠ row) : MapAt w' b n F := by
  obtain ⟨D, h1, h2⟩ := h; exact ⟨D, h1.kept hg hne, h2⟩
theorem MapAt.lt {w : World} {b n : Nat} {F : Int → Option Int} (h : MapAt w b n F) : b < w.heap.size := by
  obtain ⟨D, h1, h2⟩ := h; exact h1.lt
theorem MapAt.below {w w' : World} {b n : Nat} {F : Int → Option Int} (h : MapAt w b n F) (hb : Below w.heap.size w w') : MapAt w' b n F := by
  obtain ⟨D, h1, h2⟩ := h; have hlt := h1.lt; obtain ⟨es, clock, hh, F', hs, hD⟩ := h1; exact ⟨D, ⟨es, clock, (hb.block b hlt).trans hh, F', hs, hD⟩, h2⟩
theorem MapAt.look {w : World} {b n : Nat} {F : Int → Option Int} (h : MapAt w b n F) (x : Int) (h0 : 0 ≤ x) (h1 : x < 100) :
    (Instr.lookup 103 (.map (some b)) (.int .i64 x) true).run Tryd.prog w = .ok (.tuple #[.int .i64 ((F x).getD 0), .bool (F x).isSome]) w ∧
    (Instr.lookup 103 (.map (some b)) (.int .i64 x) false).run Tryd.prog w = .ok (.int .i64 ((F x).getD 0)) w := by
  obtain ⟨D, hown, hF⟩ := h; obtain ⟨hh, hat⟩ := hF x h0 h1; have hkey := keyOf_int_mk Tryd.underlying3 (wf_small (x := x) (by omega) (by omega)); have hz0 : (Lit.int .i64 0).wf = true := by decide
  obtain ⟨v, ps, hrun, hv⟩ := hown.look_ok keyed3 Tryd.underlying103 (zero3 w) (plainElem_int Tryd.underlying3 hz0) hkey; obtain ⟨c, rfl, hc, _⟩ := plainElem_int_inv Tryd.underlying3 hv; obtain ⟨c2, hrun2, hc2, _⟩ := hown.lookup_int keyed3 Tryd.underlying103 Tryd.underlying3 (zero3 w) hkey; rw [hat] at hc2 hc; have e1 : (F x).getD 0 = c := by simpa using congrArg Prod.fst hc
  have e2 : (F x).getD 0 = c2 := by simpa using hc2
  rw [hrun, hrun2, hh, ← e1, ← e2]; exact ⟨rfl, rfl⟩
theorem MapAt.store {w : World} {b n : Nat} {F : Int → Option Int} (h : MapAt w b n F) (hn : n < 1000) (x v : Int) (h0 : 0 ≤ x) (h1 : x < 100) (hv : -100 ≤ v) (hv1 : v < 1000) :
    ∃ w', (Instr.mapUpdate 103 (.map (some b)) (.int .i64 x) (.int .i64 v)).run Tryd.prog w = .ok () w' ∧ MapAt w' b (n + 1) (fun y => if y = x then some v else F y) ∧ w.grownBy w' (some b) := by
  obtain ⟨D, hown, hF⟩ := h; have hkey := keyOf_int_mk Tryd.underlying3 (wf_small (x := x) (by omega) (by omega)); obtain ⟨w', hrun, hown', hg⟩ := hown.update keyed3 Tryd.underlying103 (by unfold maxLen; omega) hkey (plainElem_int Tryd.underlying3 (wf_small hv hv1)); refine ⟨w', hrun, ⟨_, hown', fun y y0 y1 => ?_⟩, hg⟩; have hD := hown.isMap; have hk : ∀ z : Int, WideAt.IsKeyLit (.int .i64 z) := fun z => trivial
  obtain ⟨f1, f2⟩ := hF y y0 y1
  dsimp only
  by_cases e : y = x
  · subst e
    rw [if_pos rfl, Maps.has_put_same hD (hk y), Maps.atKey_put_same hD (hk y)]; exact ⟨rfl, rfl⟩
  · have hne : (Lit.int .i64 y : Lit) ≠ .int .i64 x := fun h => e (by injection h)
    rw [if_neg e, Maps.has_put_other hne, Maps.atKey_put_other hne]; exact ⟨f1, f2⟩
theorem MapAt.new (w : World) (r : Int) (h0 : 0 ≤ r) (h1 : r < 100) : ∃ w', (Instr.mapUpdate 103 (.map (some w.heap.size)) (.int .i64 r) (.int .i64 (-1))).run Tryd.prog (w.alloc (.map #[] 0)) = .ok () w' ∧ MapAt w' w.heap.size 1 (fun y => if y = r then some (-1) else none) ∧ Below w.heap.size w w' ∧ w.heap.size + 1 ≤ w'.heap.size := by
  have h : MapAt (w.alloc (.map #[] 0)) w.heap.size 0 (fun _ => none) := ⟨_, World.ownsMap_made w _ _ _, fun x _ _ => ⟨rfl, rfl⟩⟩; obtain ⟨w', hrun, hm, hg⟩ := h.store (by omega) r (-1) h0 h1 (by omega) (by omega); have hsz : (w.alloc (Obj.map #[] 0)).heap.size = w.heap.size + 1 := by simp
  refine ⟨w', hrun, hm, ?_, (by have := hg.size; omega)⟩; exact (below_alloc (Below.refl w.heap.size w) (Obj.map #[] 0)).grown hg (by omega) (fun k e => by injection e with e; omega)
theorem R_lits (xs : List Int) (W : World) (base : Nat) (ok : Nat → Prop) (hb : base ≤ W.heap.size) (hok : ok W.heap.size) (hl : xs.length ≤ 1000) :
    Kd.R (Kd.int .i64) 3 (W.alloc (Obj.cells (xs.map (Value.int .i64)).toArray 3)) base ok (.slice (some ⟨W.heap.size, 0, none⟩) xs.length xs.length) xs := by
  refine ⟨fun k hk => ?_, xs.map (Value.int .i64), ?_, Kd.reps_scalar xs⟩
  · have : W.heap.size = k := by simpa [Value.ownBlock] using hk
    subst this; exact hok
  · have h2 := World.ownsRow_lit (base := base) (e := 3) (size := 1) W (xs.map (Value.int .i64)).toArray xs.length hb (by simp [maxLen]; omega) (by simp)
    show World.ownsRow _ _ _ 1 _ _ _; simpa using h2
theorem R_blocks {w W : World} {base : Nat} {ok : Nat → Prop} {v : Value} {xs : List Int} (h : Kd.R (Kd.int .i64) 3 w base ok v xs) (hs : w.heap.size ≤ W.heap.size) (hb : ∀ b, ok b → b < w.heap.size → W.heap[b]? = w.heap[b]?) : Kd.R (Kd.int .i64) 3 W base ok v xs :=
  Kd.R_step h (fun k ho hl => hb k ho (by omega))
theorem R_own_ok {w : World} {base : Nat} {ok ok' : Nat → Prop} {v : Value} {xs : List Int} (h : Kd.R (Kd.int .i64) 3 w base ok v xs) (ho : ∀ b, v.ownBlock = some b → some b = v.ownBlock ∧ True → ok' b) : Kd.R (Kd.int .i64) 3 w base ok' v xs := by
  obtain ⟨h0, inner, hown, hr⟩ := h; exact ⟨fun k hk => ho k hk ⟨hk.symm, trivial⟩, inner, hown, hr.imp_ (fun _ _ hp => hp)⟩
def bef (r : Int) (q : Q) (x : Int) : Option Int := if x = r then some (-1) else (q.find? (fun t => t.2.2 == x)).map (·.1)
theorem bef_cons {r i u s : Int} {q : Q} (hs : s ≠ r) (x : Int) : bef r ((i, u, s) :: q) x = if x = s then some i else bef r q x := by
  unfold bef; by_cases h : x = r
  · rw [if_pos h, if_neg (fun e => hs (e.symm.trans h)), if_pos h]
  · rw [if_neg h, if_neg h, List.find?_cons]
    by_cases e : x = s
    · subst e; simp
    · have e' : (s == x) = false := by simpa using fun h => e h.symm
      simp only [e', if_neg e]
theorem bef_some {r : Int} {q : Q} (x : Int) : (bef r q x).isSome = decide (x ∈ verts r q) := by
  unfold bef; by_cases h : x = r
  · subst h; rw [if_pos rfl]; simp [verts]
  · rw [if_neg h]
    induction q with
    | nil => simp [verts, h]
    | cons t q ih =>
      rw [List.find?_cons]; by_cases e : t.2.2 = x
      · have e' : (t.2.2 == x) = true := by simpa using e
        simp only [e', Option.map_some, Option.isSome_some]; exact (decide_eq_true (by simp [verts, e])).symm
      · have e' : (t.2.2 == x) = false := by simpa using e
        simp only [e']; rw [ih, decide_eq_decide]; simp only [verts, List.map_cons, List.mem_cons]
        constructor
        · rintro (h1 | h1)
          · exact Or.inl h1
          · exact Or.inr (Or.inr h1)
        · rintro (h1 | h1 | h1)
          · exact Or.inl h1
          · exact absurd h1.symm e
          · exact Or.inr h1
theorem okRange {e : Int → Int × Int} {use : Int → Bool} {r : Int} {n : Nat} {q : Q} (h : Bfs.Ok e use r n q) (h0 : 0 ≤ r ∧ r < 8) (hr : ∀ i : Int, 0 ≤ i → i < n → 0 ≤ (e i).1 ∧ (e i).1 < 8 ∧ 0 ≤ (e i).2 ∧ (e i).2 < 8) : ∀ s ∈ verts r q, 0 ≤ s ∧ s < 8 := by
  intro s hs; simp only [verts, List.mem_cons, List.mem_map] at hs; rcases hs with rfl | ⟨x, hx, rfl⟩
  · exact h0
  · obtain ⟨he, ⟨h0, h1⟩, _⟩ := h.ends x hx
    have := hr _ h0 h1; rcases he with he | he <;> rw [he] at this <;> simp only at this <;> omega
def trail (e : Int → Int × Int) : Int → List Int → List Int
  | a, [] => [a]
  | a, i :: l => a :: trail e ((e i).1 + (e i).2 - a) l
theorem rdp_at (l : List Int) (i : Nat) (h : i < l.length) : Go.Proofs.YtcafgpincnkcdaaDoorW.PrintWords.rd l (i : Int) = l[i] := by
  unfold Go.Proofs.YtcafgpincnkcdaaDoorW.PrintWords.rd; rw [Int.toNat_natCast, List.getD_eq_getElem?_getD, List.getElem?_eq_getElem h]; rfl
theorem rev_loop (l : List Int) (hn : l.length ≤ 1000) : ∀ (d i : Nat) (x : List Int), x.length = l.length → (∀ m : Nat, m < l.length → x[m]? = if m < i ∨ l.length - i ≤ m then l[l.length - 1 - m]? else l[m]?) → l.length ≤ 2 * i + d → i ≤ l.length →
    Ev (fun k => slices_Reverse_int_int.l0 k x (i : Int) ((l.length : Int) - 1 - (i : Int))) l.reverse := by
  intro d
  induction d with
  | zero =>
    intro i x hx hm hd hi
    have : x = l.reverse := by
      apply List.ext_getElem?; intro m; by_cases h : m < l.length
      · rw [hm m h, if_pos (by omega), List.getElem?_reverse h]
      · rw [List.getElem?_eq_none (by omega), List.getElem?_eq_none qz108]
    rw [← this]; refine Ev.step (f := fun _ => some x) (fun k => ?_) (Ev.now _); simp only [slices_Reverse_int_int.l0]; rw [if_neg (by omega)]
  | succ d ih =>
    intro i x hx hm hd hi; by_cases c : (i : Int) < (l.length : Int) - 1 - (i : Int)
    · have e1 : wrap64 ((i : Int) + 1) = ((i + 1 : Nat) : Int) := by rw [w64 (by omega) (by omega)]; omega
      have e2 : wrap64 ((l.length : Int) - 1 - (i : Int) - 1) = (l.length : Int) - 1 - ((i + 1 : Nat) : Int) := by rw [w64 (by omega) (by omega)]; omega
      have ej : ((l.length : Int) - 1 - (i : Int)).toNat = l.length - 1 - i := by omega
      refine Ev.step (fun k => ?_) (ih (i + 1) ((x.set i (rd x ((l.length : Int) - 1 - (i : Int)))).set (l.length - 1 - i) (rd x (i : Int))) (by simp [hx]) ?_ (by omega) (by omega))
      · simp only [slices_Reverse_int_int.l0]
        rw [if_pos c, if_pos (by omega), if_pos (by omega), if_pos (by omega), if_pos (by omega), e1, e2, ej, Int.toNat_natCast]
      · have r1 : rd x (i : Int) = l[i]'(by omega) := by
          have := hm i (by omega); rw [if_neg (by omega), List.getElem?_eq_getElem (by omega : i < x.length), List.getElem?_eq_getElem (by omega : i < l.length)] at this; rw [rdp_at x i (by omega)]; exact Option.some.inj this
        have r2 : rd x ((l.length : Int) - 1 - (i : Int)) = l[l.length - 1 - i]'(by omega) := by
          have := hm (l.length - 1 - i) (by omega); rw [if_neg (by omega), List.getElem?_eq_getElem (by omega : l.length - 1 - i < x.length), List.getElem?_eq_getElem (by omega : l.length - 1 - i < l.length)] at this; rw [show (l.length : Int) - 1 - (i : Int) = ((l.length - 1 - i : Nat) : Int) by omega, rdp_at x _ (by omega)]; exact Option.some.inj this
        intro m hml; rw [r1, r2, List.getElem?_set, List.getElem?_set]; by_cases m1 : l.length - 1 - i = m
        · rw [if_pos m1, if_pos qz108, if_pos (by omega), ← m1, show l.length - 1 - (l.length - 1 - i) = i by omega, List.getElem?_eq_getElem (by omega : i < l.length)]
        · rw [if_neg m1]
          by_cases m2 : i = m
          · rw [if_pos m2, if_pos (by omega), if_pos (by omega), ← m2, List.getElem?_eq_getElem (by omega : l.length - 1 - i < l.length)]
          · rw [if_neg m2, hm m hml]
            by_cases m3 : m < i ∨ l.length - i ≤ m
            · rw [if_pos m3, if_pos (by omega)]
            · rw [if_neg m3, if_neg (by omega)]
    · have : x = l.reverse := by
        apply List.ext_getElem?; intro m; by_cases h : m < l.length
        · rw [hm m h, List.getElem?_reverse h]
          by_cases m3 : m < i ∨ l.length - i ≤ m
          · rw [if_pos m3]
          · rw [if_neg m3, show l.length - 1 - m = m by omega]
        · rw [List.getElem?_eq_none (by omega), List.getElem?_eq_none qz108]
      rw [← this]; refine Ev.step (f := fun _ => some x) (fun k => ?_) (Ev.now _); simp only [slices_Reverse_int_int.l0]; rw [if_neg c]
theorem rev_ev (l : List Int) (hn : l.length ≤ 1000) : Ev (fun k => slices_Reverse_int_int.f k l) l.reverse := by
  have h := rev_loop l hn l.length 0 l rfl (fun m hm => by rw [if_neg (by omega)]) (by omega) (by omega); refine Ev.congr (fun k => ?_) h; unfold slices_Reverse_int_int.f; rw [w64 (by omega) (by omega)]; simp
theorem back_step {e : Int → Int × Int} {use : Int → Bool} {r : Int} {n : Nat} {q : Q} (h : Bfs.Ok e use r n q) {cur : Int} (hc : cur ∈ verts r q) (hr : cur ≠ r) :
    ∃ i u, bef r q cur = some i ∧ Bfs.back q cur = i :: Bfs.back q u ∧ u ∈ verts r q ∧ (e i).1 + (e i).2 - cur = u ∧ 0 ≤ i ∧ i < n := by
  obtain ⟨t, hx⟩ := h
  induction t with
  | nil => simp [verts] at hc; exact absurd hc hr
  | cons t hu hs hi ih =>
    rename_i q i u s
    obtain ⟨he, hin, _⟩ := hx (i, u, s) List.mem_cons_self; have hsr : s ≠ r := fun e => hs qz132
    have mono : ∀ {y}, y ∈ verts r q → y ∈ verts r ((i, u, s) :: q) := fun h => by
      simp only [verts, List.map_cons, List.mem_cons] at h ⊢; rcases h with h | h
      · exact Or.inl h
      · exact Or.inr (Or.inr h)
    by_cases hcs : cur = s
    · subst hcs
      refine ⟨i, u, (by rw [bef_cons hsr, if_pos rfl]), ?_, mono hu, ?_, hin.1, hin.2⟩
      · have hus : u ≠ cur := fun e => hs (e ▸ hu)
        simp only [Bfs.back, if_pos, if_neg hus]
      · rcases he with he | he <;> rw [he] <;> simp only <;> omega
    · have hc' : cur ∈ verts r q := by
        simp only [verts, List.map_cons, List.mem_cons] at hc ⊢; rcases hc with h | h | h
        · exact Or.inl h
        · exact absurd h hcs
        · exact Or.inr h
      obtain ⟨j, v, h1, h2, h3, h4, h5⟩ := ih hc' (fun x hm => hx x (List.mem_cons_of_mem _ hm)); have hvs : v ≠ s := fun e => hs (e ▸ h3)
      refine ⟨j, v, (by rw [bef_cons hsr, if_neg hcs, h1]), ?_, mono h3, h4, h5⟩; simp only [Bfs.back, if_neg hcs, if_neg hvs]; exact h2
theorem back_root {e : Int → Int × Int} {use : Int → Bool} {r : Int} {n : Nat} {q : Q} (h : Bfs.Ok e use r n q) : Bfs.back q r = [] := by
  rw [Bfs.back_eq r h.tr (by simp [verts]), Tree.W_self]
theorem back_len {e : Int → Int × Int} {use : Int → Bool} {r : Int} {n : Nat} {q : Q} (h : Bfs.Ok e use r n q) {cur : Int} (hc : cur ∈ verts r q) : (Bfs.back q cur).length ≤ q.length := by
  rw [Bfs.back_eq r h.tr hc]; exact Tree.W_len q cur r
theorem trail_cons (e : Int → Int × Int) (a : Int) (l : List Int) : trail e a l = a :: (trail e a l).tail := by cases l <;> rfl
theorem trail_len (e : Int → Int × Int) : ∀ (l : List Int) (a : Int), (trail e a l).length = l.length + 1
  | [], a => rfl
  | i :: l, a => by simp [trail, trail_len e l]
def BackInv (e : Int → Int × Int) (r dst : Int) (R : Q) (cur : Int) (st lst : List Int) : Prop := cur ∈ verts r R ∧ lst ++ Bfs.back R cur = Bfs.back R dst ∧ st ++ (trail e cur (Bfs.back R cur)).tail = trail e dst (Bfs.back R dst)
theorem BackInv.start {e : Int → Int × Int} {r dst : Int} {R : Q} (h : dst ∈ verts r R) : BackInv e r dst R dst [dst] [] := ⟨h, rfl, (by rw [List.singleton_append, ← trail_cons])⟩
theorem BackInv.next {e : Int → Int × Int} {r dst : Int} {R : Q} {cur i u : Int} {st lst : List Int} (h : BackInv e r dst R cur st lst) (hb : Bfs.back R cur = i :: Bfs.back R u) (hu : u ∈ verts r R) (he : (e i).1 + (e i).2 - cur = u) : BackInv e r dst R u (st ++ [u]) (lst ++ [i]) := by
  obtain ⟨h1, h2, h3⟩ := h; refine ⟨hu, (by rw [← h2, hb]; simp), ?_⟩; rw [← h3, hb]; simp only [trail, he, List.tail_cons]; rw [List.append_assoc, List.singleton_append, ← trail_cons]
theorem BackInv.len {e : Int → Int × Int} {r dst : Int} {R : Q} {cur : Int} {st lst : List Int} (h : BackInv e r dst R cur st lst) {n : Nat} {use : Int → Bool} (ok : Bfs.Ok e use r n R) (hd : dst ∈ verts r R) : lst.length ≤ R.length ∧ st.length ≤ R.length + 1 := by
  obtain ⟨h1, h2, h3⟩ := h; have a := congrArg List.length h2; have b := congrArg List.length h3; have c := back_len ok hd; rw [List.length_append] at a b; rw [trail_len] at b; omega
def PathYes (e : Int → Int × Int) (r dst : Int) (R : Q) (w : World) (en : Ending) (w' : World) : Prop := ∃ v1 v2, en = .returned (.tuple #[v1, v2, .bool true]) ∧ Kd.R (Kd.int .i64) 3 w' w.heap.size (fun b => some b ≠ v2.ownBlock) v1 (trail e dst (Bfs.back R dst)).reverse ∧ Kd.R (Kd.int .i64) 3 w' w.heap.size (fun b => some b ≠ v1.ownBlock) v2 (Bfs.back R dst).reverse ∧ Below w.heap.size w w'
def PathPost (e : Int → Int × Int) (r dst : Int) (R : Q) (w : World) (en : Ending) (w' : World) : Prop := if dst ∈ verts r R then PathYes e r dst R w en w' else en = .returned (.tuple #[.slice none 0 0, .slice none 0 0, .bool false]) ∧ Below w.heap.size w w'
def OutInv (ls : L) (use : Int → Bool) (r : Int) (R : Q) (k : Nat) (q : Q) : Prop := Bfs.Ok (ends ls) use r ls.length q ∧ k ≤ q.length + 1 ∧ ∃ f, Bfs.run (ends ls) use r ls.length f k q = R ∧ 8 < f + k
def InInv (ls : L) (use : Int → Bool) (r : Int) (a : Int) (q : Q) (i : Nat) (p : Q) : Prop := Bfs.Ok (ends ls) use r ls.length p ∧ Bfs.Ext q p ∧ Bfs.scan (ends ls) use r a (ls.length - i) i p = Bfs.scan (ends ls) use r a ls.length 0 q
theorem InInv.next {ls : L} {use : Int → Bool} {r a : Int} {q p : Q} {i : Nat} (h : InInv ls use r a q i p) (hi : i < ls.length) (ha : a ∈ verts r q) : InInv ls use r a q (i + 1) (Bfs.look (ends ls) use r a p i) := by
  obtain ⟨h1, h2, h3⟩ := h; refine ⟨h1.look (ends ls) use r (h2.verts r ha) (by omega) (by omega), h2.trans (Bfs.look_ext (ends ls) use r a p i), ?_⟩; rw [← h3, show ls.length - i = (ls.length - (i + 1)) + 1 by omega]; rfl
theorem InInv.skip {ls : L} {use : Int → Bool} {r a : Int} {q p : Q} {i : Nat} (h : InInv ls use r a q i p) (hi : i < ls.length) (hs : ((ends ls i).1 ≠ a ∧ (ends ls i).2 ≠ a) ∨ use i = false) : InInv ls use r a q (i + 1) p := by
  obtain ⟨h1, h2, h3⟩ := h; refine ⟨h1, h2, ?_⟩; rw [← h3, show ls.length - i = (ls.length - (i + 1)) + 1 by omega]; have e : Bfs.look (ends ls) use r a p i = p := by unfold Bfs.look; rw [if_pos hs]
  show _ = Bfs.scan (ends ls) use r a _ ((i : Int) + 1) (Bfs.look (ends ls) use r a p i); rw [e]; rfl
theorem OutInv.next {ls : L} {use : Int → Bool} {r a : Int} {q p R : Q} {k : Nat} (h : OutInv ls use r R k q) (hp : InInv ls use r a q ls.length p) (hk : k < (Bfs.queue r q).length) (ha : a = (Bfs.queue r q).getD k 0) (h7 : q.length ≤ 7) : OutInv ls use r R (k + 1) p := by
  obtain ⟨h1, h2, f, h3, h4⟩ := h; obtain ⟨p1, ⟨t, ht⟩, p3⟩ := hp; have hql := Bfs.queue_len r q; rw [Nat.sub_self] at p3; obtain ⟨f, rfl⟩ : ∃ m, f = m + 1 := ⟨f - 1, by omega⟩
  refine ⟨p1, (by rw [ht, List.length_append]; omega), f, ?_, by omega⟩; rw [Bfs.run, if_pos hk, ← ha] at h3; have p3' : p = Bfs.scan (ends ls) use r a ls.length 0 q := p3; rw [p3']; exact h3
theorem OutInv.stop {ls : L} {use : Int → Bool} {r : Int} {q R : Q} {k : Nat} (h : OutInv ls use r R k q) (hk : ¬ k < (Bfs.queue r q).length) : R = q := by
  obtain ⟨h1, h2, f, h3, h4⟩ := h
  cases f with
  | zero => exact h3.symm
  | succ f => rw [Bfs.run, if_neg hk] at h3; exact h3.symm
theorem pathTree (A : Option Addr) (c : Nat) (ls : L) (p0 : Addr) (use : Int → Bool) (r dst : Int) (w : World) (hr0 : Kd.C k49 w A ls.length ls) (hc : ls.length ≤ c) (hn : ls.length ≤ 12) (hg : ∀ x ∈ ls, Good x) (hr : 0 ≤ r ∧ r < 8) (hd : 0 ≤ dst ∧ dst < 8)
    (HU : ∀ (i : Nat) (W : World), i < ls.length → Below w.heap.size w W → Calls Tryd.prog 119 #[.int .i64 (i : Int), .pointer (some p0)] W fun e W' => e = .returned (.bool (use i)) ∧ W' = W) (R : Q) (hR : Bfs.run (ends ls) use r ls.length 9 0 [] = R) :
    Calls Tryd.prog 117 #[.slice A ls.length c, .func (Fn.func 119) #[] #[.pointer (some p0)], .int .i64 r, .int .i64 dst] w (PathPost (ends ls) r dst R w) := by
  have HR := ak hr0; have HG := ak hg; have HU' := ak HU; have HB := ak (Below.refl w.heap.size w); obtain ⟨w1, hrun, hmap, hbel, hsz⟩ := MapAt.new w r hr.1 (by omega); have hmk := run_makeMap (P := Tryd.prog) 103 w; have HM := ak hmap; have HB1 := ak hbel; have HI := ak (show OutInv ls use r R 0 [] from ⟨Bfs.Ok.nil _ _ _ _, by simp, 9, hR, by omega⟩); clear hr0 hg HU hmap hbel hR; go_enter Tryd.func117, Tryd.ntmps117; go_wp2; have HO := ak (R_lits [r] w1 w.heap.size (fun b => b ≠ w.heap.size) (by omega) (by omega) (by simp)); replace HM := ak (HM.out.below (below_alloc (Below.refl w1.heap.size w1) (Obj.cells #[Value.int IntKind.i64 r] 3))); replace HB1 := ak (below_alloc HB1.out (Obj.cells #[Value.int IntKind.i64 r] 3)); rw [show ([r].map (Value.int .i64)).toArray = #[Value.int IntKind.i64 r] from rfl] at HO; clear hmk hrun hsz HB
  go_loopw [12, 13] (fun v12 v13 w' => ∃ (k : Nat) (q : Q), v13 = .int .i64 k ∧ Aside0 (OutInv ls use r R k q) ∧ Aside0 (Kd.R (Kd.int .i64) 3 w' w.heap.size (fun b => b ≠ w.heap.size) v12 (Bfs.queue r q)) ∧ Aside0 (MapAt w' w.heap.size (q.length + 1) (bef r q)) ∧ Aside0 (Below w.heap.size w w')) (fun _ v13 _ => 9 - (intOf v13).toNat)
  case atStart => exact ⟨0, [], rfl, HI, HO, HM, HB1⟩
  case round =>
    obtain ⟨k, q, rfl, HI2, HO2, HM2, HB⟩ := hrel; clear HI HO HM HB1; obtain ⟨qA, qC, eq_⟩ := Kd.R_slice HO2.out; subst eq_; have HQL := ak (Bfs.queue_len r q); have HQ7 := ak (HI2.out.1.len (ends ls) use r hr (Good.range HG.out)); by_cases hk : k < (Bfs.queue r q).length
    · have hkI : (k : Int) < ((Bfs.queue r q).length : Int) := by omega
      have HK := ak hk; obtain ⟨a, hqa⟩ : ∃ a, a = (Bfs.queue r q).getD k 0 := ⟨_, rfl⟩
      have HQA := ak hqa
      have HAV : Aside0 (a ∈ verts r q) := ⟨by
        rw [hqa, ← Bfs.mem_queue, List.getD_eq_getElem?_getD, List.getElem?_eq_getElem hk]
        exact List.getElem_mem hk⟩
      have HA8 : Aside0 (0 ≤ a ∧ a < 8) := ⟨okRange HI2.out.1 hr (Good.range HG.out) a HAV.out⟩; have HIn := ak (show InInv ls use r a q 0 q from ⟨HI2.out.1, Bfs.Ext.refl q, rfl⟩); clear hk hqa; go_wp2
      go_loopw [12, 38] (fun v12 v38 w' => ∃ (i : Nat) (p : Q), v38 = .int .i64 i ∧ i ≤ ls.length ∧ Aside0 (InInv ls use r a q i p) ∧ Aside0 (Kd.R (Kd.int .i64) 3 w' w.heap.size (fun b => b ≠ w.heap.size) v12 (Bfs.queue r p)) ∧ Aside0 (MapAt w' w.heap.size (p.length + 1) (bef r p)) ∧ Aside0 (Below w.heap.size w w')) (fun _ v38 _ => ls.length - (intOf v38).toNat)
      case atStart => exact ⟨0, q, rfl, Nat.zero_le _, HIn, HO2, HM2, HB⟩
      case round =>
        obtain ⟨i, p, rfl, hi, HJ, HO, HM, HB2⟩ := hrel; clear HIn HO2 HM2 HB; have HB := HB2; clear HB2; obtain ⟨qA2, qC2, eq_⟩ := Kd.R_slice HO.out; subst eq_; by_cases hlt : i < ls.length
        · obtain ⟨_, e2, h0, h1, h2, h3, h4⟩ := at_T49 HR.out (i : Int) (by omega) (by omega)
          cases e2; have HX : Aside0 (Good (leg ls (i : Int))) := ⟨leg_good HG.out i hlt⟩; have HE := ak (show ends ls i = ((leg ls i).f0, (leg ls i).f1) from rfl); rw [Int.toNat_natCast, show rd_T49 ls (i : Int) = leg ls i from rfl] at h0 h1 h2 h3 h4
          have qk : ∃ ad, qA2 = some ad ∧ wr.cell? (ad.add k) = some (.int .i64 a) := by
            obtain ⟨t, ht⟩ := HJ.out.2.1.queue r; obtain ⟨ad, h1, h2⟩ := Kd.at_int (Kd.R_reads' HO.out).2.2 (k : Int) (by omega) (by rw [ht, List.length_append]; have := HK.out; omega); refine ⟨ad, h1, ?_⟩; rw [Int.toNat_natCast] at h2; rw [h2]; show some (Value.int .i64 ((Bfs.queue r p).getD (k : Int).toNat 0)) = _; rw [Int.toNat_natCast, HQA.out, ← HJ.out.2.1.queue_getD r HK.out]
          obtain ⟨qad, eqa, qk⟩ := qk; subst eqa
          have hkI2 : (k : Int) < ((Bfs.queue r p).length : Int) := by
            obtain ⟨t, ht⟩ := HJ.out.2.1.queue r; rw [ht, List.length_append]; have := HK.out; omega
          have hkI0 : (0 : Int) ≤ (k : Int) := by omega
          generalize leg ls (i : Int) = x at *; replace h0 := Sine.keepc h0 HB.out; replace h1 := Sine.keepc h1 HB.out; replace h2 := Sine.keepc h2 HB.out; replace h3 := Sine.keepc h3 HB.out; replace h4 := Sine.keepc h4 HB.out; go_wp2; have B1 := below_alloc (Below.refl wr.heap.size wr) (Obj.cells #[Value.int IntKind.i64 x.f0, Value.int IntKind.i64 x.f1, Value.int IntKind.i64 x.f2, Value.int IntKind.i64 x.f3, Value.int IntKind.i64 x.f4] 49); replace HB := ak (below_step HB.out B1); replace HM := ak (HM.out.below B1); replace HO := ak (Kd.R_alloc HO.out (Obj.cells #[Value.int IntKind.i64 x.f0, Value.int IntKind.i64 x.f1, Value.int IntKind.i64 x.f2, Value.int IntKind.i64 x.f3, Value.int IntKind.i64 x.f4] 49)); replace qk := Sine.keepc qk B1; clear B1 h0 h1 h2 h3 h4; have h0 : (wr.alloc (Obj.cells #[Value.int IntKind.i64 x.f0, Value.int IntKind.i64 x.f1, Value.int IntKind.i64 x.f2, Value.int IntKind.i64 x.f3, Value.int IntKind.i64 x.f4] 49)).cell? ⟨wr.heap.size, 0, none⟩ = some (.int .i64 x.f0) := by go_simp
          have h1 : (wr.alloc (Obj.cells #[Value.int IntKind.i64 x.f0, Value.int IntKind.i64 x.f1, Value.int IntKind.i64 x.f2, Value.int IntKind.i64 x.f3, Value.int IntKind.i64 x.f4] 49)).cell? ⟨wr.heap.size, 1, none⟩ = some (.int .i64 x.f1) := by go_simp
          generalize wr.alloc (Obj.cells #[Value.int IntKind.i64 x.f0, Value.int IntKind.i64 x.f1, Value.int IntKind.i64 x.f2, Value.int IntKind.i64 x.f3, Value.int IntKind.i64 x.f4] 49) = W1 at *; generalize wr.heap.size = X at *; have w0 : wrap64 (x.f0 + x.f1) = x.f0 + x.f1 := by have := HX.out; have a1 := this.1; have a2 := this.2.1; unfold wrap64; omega
          have w2 : wrap64 (x.f0 + x.f1 - a) = x.f0 + x.f1 - a := by have := HX.out; have a1 := this.1; have a2 := this.2.1; have a3 := HA8.out; unfold wrap64; omega
          have na8 := HA8.out; have nx0 := HX.out.1; have nx1 := HX.out.2.1; by_cases c1 : x.f0 = a
          · have v0 : wrap64 (a + x.f1) = a + x.f1 := by rw [← c1]; exact w0
            have v1 : wrap64 (a + x.f1 - a) = x.f1 := by unfold wrap64; omega
            have v2 : a + x.f1 - a = x.f1 := by omega
            go_quiet (fail)
            go_wp2; have BD := pw_below_drewN (Below.refl W1.heap.size W1) nq; replace HB := ak (below_step HB.out BD); replace HM := ak (HM.out.below BD); replace HO := ak (Kd.R_drewN HO.out nq); replace h0 := Sine.keepc h0 BD; replace h1 := Sine.keepc h1 BD; replace qk := Sine.keepc qk BD; clear BD; generalize W1.drewN nq = W2 at *; cases hu : use (i : Int)
            · have HUi := fun W hb => HU'.out i W hlt hb
              rw [hu] at HUi; replace HUi := ak HUi
              go_quiet (first | (go_at_call 119; refine (HUi.out _ qz11).mono ?_; rintro e w' ⟨rfl, rfl⟩; exact ⟨rfl, _, rfl⟩))
              go_wp2; exact ⟨⟨i + 1, p, by go_num, by omega, ⟨HJ.out.skip hlt (Or.inr hu)⟩, ⟨Kd.R_drewN HO.out _⟩, ⟨HM.out.below (pw_below_drewN (Below.refl _ _) _)⟩, ⟨pw_below_drewN HB.out _⟩⟩, qz69⟩
            · have HUi := fun W hb => HU'.out i W hlt hb
              rw [hu] at HUi; replace HUi := ak HUi
              go_quiet (first | (go_at_call 119; refine (HUi.out _ qz11).mono ?_; rintro e w' ⟨rfl, rfl⟩; exact ⟨rfl, _, rfl⟩))
              have BD := pw_below_drewN (Below.refl W2.heap.size W2) nq; replace HB := ak (below_step HB.out BD); replace HM := ak (HM.out.below BD); replace HO := ak (Kd.R_drewN HO.out nq); replace h0 := Sine.keepc h0 BD; replace h1 := Sine.keepc h1 BD; replace qk := Sine.keepc qk BD; clear BD; generalize W2.drewN nq = W3 at *; have hlk := (HM.out.look x.f1 (by omega) (by omega)).1; have hmem := bef_some (r := r) (q := p) x.f1; have HSTEP := ak (HJ.out.next hlt HAV.out); have hot : Bfs.other (ends ls) i a = x.f1 := by unfold Bfs.other; rw [HE.out]; simp only; omega
              have hnsk : ¬ (((ends ls i).1 ≠ a ∧ (ends ls i).2 ≠ a) ∨ use i = false) := by
                rw [HE.out, hu]; rintro (⟨d1, d2⟩ | d1)
                · first | exact d1 c1 | exact d2 c2
                · cases d1
              by_cases hin : x.f1 ∈ verts r p
              · rw [decide_eq_true hin] at hmem
                have hlook : Bfs.look (ends ls) use r a p i = p := by unfold Bfs.look; rw [if_neg hnsk, hot, if_pos hin]
                rw [hmem] at hlk; rw [hlook] at HSTEP; clear hmem hot hnsk hlook hin; go_wp2; exact ⟨⟨i + 1, p, by go_num, by omega, HSTEP, HO, HM, HB⟩, qz69⟩
              · rw [decide_eq_false hin] at hmem
                have hlook : Bfs.look (ends ls) use r a p i = ((i : Int), a, x.f1) :: p := by unfold Bfs.look; rw [if_neg hnsk, hot, if_neg hin]
                rw [hmem] at hlk; rw [hlook] at HSTEP; have HP7 := ak (HJ.out.1.len (ends ls) use r hr (Good.range HG.out)); obtain ⟨W4, hst, hm4, hg4⟩ := HM.out.store (by have := HP7.out; omega) x.f1 (i : Int) (by omega) (by omega) (by omega) (by omega); have HM4 := ak hm4; have HG4 := ak hg4; have HNE := ak (show x.f1 ≠ r from fun e => hin qz132); have HBM : Aside0 (bef r (((i : Int), a, x.f1) :: p) = fun y => if y = x.f1 then some (i : Int) else bef r p y) := ⟨qz129⟩; have HQQ : Aside0 (Bfs.queue r (((i : Int), a, x.f1) :: p) = Bfs.queue r p ++ [x.f1]) := ⟨(by simp [Bfs.queue])⟩; have HMB : Aside0 (w.heap.size < W3.heap.size) := ⟨HM.out.lt⟩; have HO4 : Aside0 (Kd.R (Kd.int .i64) 3 W4 w.heap.size (fun b => b ≠ w.heap.size) (.slice (some qad) (Bfs.queue r p).length qC2) (Bfs.queue r p)) := ⟨R_blocks HO.out hg4.size (fun b hb hl => hg4.block b hl (fun e => by injection e with e; exact hb e))⟩; have HB4 : Aside0 (Below w.heap.size w W4) := ⟨HB.out.grown hg4 (by have := HMB.out; omega) (fun b e => by injection e with e; omega)⟩; clear hmem hot hnsk hlook hin hm4 hg4; go_wp2_with ((with_reducible refine gate_builtin (b := .append) (xs := #[.tmp 86, .tmp 88]) rfl ?_); at_builtin; refine Kd.R_append (Kd.int .i64) (w0 := w) w.heap.size rfl (.tmp 86) (.tmp 88) 26 3 (.int .i64 0) 8 rfl Tryd.underlying26 info3 rfl (by decide) (by omega) (.slice (some qad) (Bfs.queue r p).length qC2) (Bfs.queue r p) x.f1 [.int .i64 x.f1] (fun b => b ≠ w.heap.size) (fun _ => False) rfl rfl ?aP (fun _ hk => hk.elim) ?aF ?aO ?aB ?aS ?aL ?_; (case aP => exact rfl); (case aF => exact qz126); (case aO => exact HO4.out); (case aB => exact HB4.out); (case aS => have := HM4.out.lt; omega); (case aL => exact qz122); intro v1 w1' ho hb hg hat; rw [← HQQ.out] at ho; have HO5 := ak ho; have HB5 := ak hb; have HM5 : Aside0 (MapAt w1' w.heap.size (p.length + 1 + 1) (bef r (((i : Int), a, x.f1) :: p))) := ⟨qz109⟩; clear ho hb hg hat); exact ⟨⟨i + 1, ((i : Int), a, x.f1) :: p, by go_num, by omega, HSTEP, HO5, HM5, HB5⟩, qz69⟩
          · by_cases c2 : x.f1 = a
            · have v0 : wrap64 (x.f0 + a) = x.f0 + a := by rw [← c2]; exact w0
              have v1 : wrap64 x.f0 = x.f0 := by unfold wrap64; omega
              go_quiet (fail)
              go_wp2; have BD := pw_below_drewN (Below.refl W1.heap.size W1) nq; replace HB := ak (below_step HB.out BD); replace HM := ak (HM.out.below BD); replace HO := ak (Kd.R_drewN HO.out nq); replace h0 := Sine.keepc h0 BD; replace h1 := Sine.keepc h1 BD; replace qk := Sine.keepc qk BD; clear BD; generalize W1.drewN nq = W2 at *; cases hu : use (i : Int)
              · have HUi := fun W hb => HU'.out i W hlt hb
                rw [hu] at HUi; replace HUi := ak HUi
                go_quiet (first | (go_at_call 119; refine (HUi.out _ qz11).mono ?_; rintro e w' ⟨rfl, rfl⟩; exact ⟨rfl, _, rfl⟩))
                go_wp2; exact ⟨⟨i + 1, p, by go_num, by omega, ⟨HJ.out.skip hlt (Or.inr hu)⟩, ⟨Kd.R_drewN HO.out _⟩, ⟨HM.out.below (pw_below_drewN (Below.refl _ _) _)⟩, ⟨pw_below_drewN HB.out _⟩⟩, qz69⟩
              · have HUi := fun W hb => HU'.out i W hlt hb
                rw [hu] at HUi; replace HUi := ak HUi
                go_quiet (first | (go_at_call 119; refine (HUi.out _ qz11).mono ?_; rintro e w' ⟨rfl, rfl⟩; exact ⟨rfl, _, rfl⟩))
                have BD := pw_below_drewN (Below.refl W2.heap.size W2) nq; replace HB := ak (below_step HB.out BD); replace HM := ak (HM.out.below BD); replace HO := ak (Kd.R_drewN HO.out nq); replace h0 := Sine.keepc h0 BD; replace h1 := Sine.keepc h1 BD; replace qk := Sine.keepc qk BD; clear BD; generalize W2.drewN nq = W3 at *; have hlk := (HM.out.look x.f0 (by omega) (by omega)).1; have hmem := bef_some (r := r) (q := p) x.f0; have HSTEP := ak (HJ.out.next hlt HAV.out); have hot : Bfs.other (ends ls) i a = x.f0 := by unfold Bfs.other; rw [HE.out]; simp only; omega
                have hnsk : ¬ (((ends ls i).1 ≠ a ∧ (ends ls i).2 ≠ a) ∨ use i = false) := by
                  rw [HE.out, hu]; rintro (⟨d1, d2⟩ | d1)
                  · first | exact d1 c1 | exact d2 c2
                  · cases d1
                by_cases hin : x.f0 ∈ verts r p
                · rw [decide_eq_true hin] at hmem
                  have hlook : Bfs.look (ends ls) use r a p i = p := by unfold Bfs.look; rw [if_neg hnsk, hot, if_pos hin]
                  rw [hmem] at hlk; rw [hlook] at HSTEP; clear hmem hot hnsk hlook hin; go_wp2; exact ⟨⟨i + 1, p, by go_num, by omega, HSTEP, HO, HM, HB⟩, qz69⟩
                · rw [decide_eq_false hin] at hmem
                  have hlook : Bfs.look (ends ls) use r a p i = ((i : Int), a, x.f0) :: p := by unfold Bfs.look; rw [if_neg hnsk, hot, if_neg hin]
                  rw [hmem] at hlk; rw [hlook] at HSTEP; have HP7 := ak (HJ.out.1.len (ends ls) use r hr (Good.range HG.out)); obtain ⟨W4, hst, hm4, hg4⟩ := HM.out.store (by have := HP7.out; omega) x.f0 (i : Int) (by omega) (by omega) (by omega) (by omega); have HM4 := ak hm4; have HG4 := ak hg4; have HNE := ak (show x.f0 ≠ r from fun e => hin qz132); have HBM : Aside0 (bef r (((i : Int), a, x.f0) :: p) = fun y => if y = x.f0 then some (i : Int) else bef r p y) := ⟨qz129⟩; have HQQ : Aside0 (Bfs.queue r (((i : Int), a, x.f0) :: p) = Bfs.queue r p ++ [x.f0]) := ⟨(by simp [Bfs.queue])⟩; have HMB : Aside0 (w.heap.size < W3.heap.size) := ⟨HM.out.lt⟩; have HO4 : Aside0 (Kd.R (Kd.int .i64) 3 W4 w.heap.size (fun b => b ≠ w.heap.size) (.slice (some qad) (Bfs.queue r p).length qC2) (Bfs.queue r p)) := ⟨R_blocks HO.out hg4.size (fun b hb hl => hg4.block b hl (fun e => by injection e with e; exact hb e))⟩; have HB4 : Aside0 (Below w.heap.size w W4) := ⟨HB.out.grown hg4 (by have := HMB.out; omega) (fun b e => by injection e with e; omega)⟩; clear hmem hot hnsk hlook hin hm4 hg4; go_wp2_with ((with_reducible refine gate_builtin (b := .append) (xs := #[.tmp 86, .tmp 88]) rfl ?_); at_builtin; refine Kd.R_append (Kd.int .i64) (w0 := w) w.heap.size rfl (.tmp 86) (.tmp 88) 26 3 (.int .i64 0) 8 rfl Tryd.underlying26 info3 rfl (by decide) (by omega) (.slice (some qad) (Bfs.queue r p).length qC2) (Bfs.queue r p) x.f0 [.int .i64 x.f0] (fun b => b ≠ w.heap.size) (fun _ => False) rfl rfl ?aP (fun _ hk => hk.elim) ?aF ?aO ?aB ?aS ?aL ?_; (case aP => exact rfl); (case aF => exact qz126); (case aO => exact HO4.out); (case aB => exact HB4.out); (case aS => have := HM4.out.lt; omega); (case aL => exact qz122); intro v1 w1' ho hb hg hat; rw [← HQQ.out] at ho; have HO5 := ak ho; have HB5 := ak hb; have HM5 : Aside0 (MapAt w1' w.heap.size (p.length + 1 + 1) (bef r (((i : Int), a, x.f0) :: p))) := ⟨qz109⟩; clear ho hb hg hat); exact ⟨⟨i + 1, ((i : Int), a, x.f0) :: p, by go_num, by omega, HSTEP, HO5, HM5, HB5⟩, qz69⟩
            · go_quiet (fail)
              go_wp2
              go_quiet (fail)
              go_wp2; exact ⟨⟨i + 1, p, by go_num, by omega, ⟨HJ.out.skip hlt (Or.inl (by rw [HE.out]; exact ⟨c1, c2⟩))⟩, ⟨Kd.R_drewN HO.out _⟩, ⟨HM.out.below (pw_below_drewN (Below.refl _ _) _)⟩, ⟨pw_below_drewN HB.out _⟩⟩, qz69⟩
        · obtain rfl : i = ls.length := by omega
          have HN := ak (HI2.out.next HJ.out HK.out HQA.out HQ7.out); have ek : wrap64 ((k : Int) + 1) = (k : Int) + 1 := by have := HK.out; have := HQL.out; have := HQ7.out; unfold wrap64; omega
          go_wp2
          go_roundw
          case rel => exact ⟨k + 1, p, by go_num, HN, HO, HM, HB⟩
          case measure =>
            (try simp only [ek]); clear ek; have h1 := HK.out; have h2 := HQL.out; have h3 := HQ7.out; simp [intOf]; omega
    · have hkI : ¬ (k : Int) < ((Bfs.queue r q).length : Int) := by omega
      have hRq := HI2.out.stop hk; subst hRq; have hlk := (HM2.out.look dst (by omega) (by omega)).1; have hmem := bef_some (r := r) (q := R) dst; by_cases hin : dst ∈ verts r R
      · rw [decide_eq_true hin] at hmem
        rw [hmem] at hlk; clear hmem; go_wp2; have HOk := ak HI2.out.1; have HD7 := ak (back_len HI2.out.1 hin); have HIN := ak hin; clear hlk hin HO2; have HV1 : Aside0 (Kd.R (Kd.int .i64) 3 ((wr.alloc (Obj.cells #[Value.int IntKind.i64 dst] 3)).alloc (Obj.cells #[] 3)) w.heap.size (fun b => b ≠ w.heap.size ∧ some b ≠ (Value.slice (some ⟨wr.heap.size + 1, 0, none⟩) 0 0).ownBlock) (.slice (some ⟨wr.heap.size, 0, none⟩) 1 1) [dst]) := ⟨Kd.R_alloc (R_lits [dst] wr w.heap.size (fun b => b ≠ w.heap.size ∧ some b ≠ (Value.slice (some ⟨wr.heap.size + 1, 0, none⟩) 0 0).ownBlock) (by have := HM2.out.lt; omega) ⟨(by have := HM2.out.lt; omega), (by simp [Value.ownBlock])⟩ (by simp)) _⟩
        have HV2 : Aside0 (Kd.R (Kd.int .i64) 3 ((wr.alloc (Obj.cells #[Value.int IntKind.i64 dst] 3)).alloc (Obj.cells #[] 3)) w.heap.size (fun b => b ≠ w.heap.size ∧ some b ≠ (Value.slice (some ⟨wr.heap.size, 0, none⟩) 1 1).ownBlock) (.slice (some ⟨wr.heap.size + 1, 0, none⟩) 0 0) []) := ⟨by
          have h := R_lits [] (wr.alloc (Obj.cells #[Value.int IntKind.i64 dst] 3)) w.heap.size (fun b => b ≠ w.heap.size ∧ some b ≠ (Value.slice (some ⟨wr.heap.size, 0, none⟩) 1 1).ownBlock) qz131 ⟨qz131, (by simp [Value.ownBlock])⟩ (by simp)
          simpa using h⟩
        have HM3 := ak ((HM2.out.below (below_alloc (Below.refl wr.heap.size wr) (Obj.cells #[Value.int IntKind.i64 dst] 3))).below (below_alloc (Below.refl _ _) (Obj.cells #[] 3))); have HB3 := ak (below_alloc (below_alloc HB.out (Obj.cells #[Value.int IntKind.i64 dst] 3)) (Obj.cells #[] 3)); clear HM2 HB
        go_loopg [21, 22, 23] (Bfs.back R dst).length (fun kq v21 v22 v23 w' => ∃ (cur : Int) (st lst : List Int), v23 = .int .i64 cur ∧ Aside0 (BackInv (ends ls) r dst R cur st lst ∧ (Bfs.back R cur).length = kq) ∧ Aside0 (Kd.R (Kd.int .i64) 3 w' w.heap.size (fun b => b ≠ w.heap.size ∧ some b ≠ v22.ownBlock) v21 st) ∧ Aside0 (Kd.R (Kd.int .i64) 3 w' w.heap.size (fun b => b ≠ w.heap.size ∧ some b ≠ v21.ownBlock) v22 lst) ∧ Aside0 (MapAt w' w.heap.size (R.length + 1) (bef r R)) ∧ Aside0 (Below w.heap.size w w'))
        case atStart => exact ⟨dst, [dst], [], rfl, ⟨BackInv.start HIN.out, rfl⟩, HV1, HV2, HM3, HB3⟩
        case round =>
          obtain ⟨cur, st, lst, rfl, HBI, HO1, HO2, HM, HB⟩ := hrel; clear HV1 HV2 HM3 HB3; obtain ⟨sA, sC, es_⟩ := Kd.R_slice HO1.out; obtain ⟨lA, lC, el_⟩ := Kd.R_slice HO2.out; subst es_; subst el_; have HLN := ak (HBI.out.1.len HOk.out HIN.out); have HR7 := ak (HOk.out.len (ends ls) use r hr (Good.range HG.out)); have HC8 := ak (okRange HOk.out hr (Good.range HG.out) cur HBI.out.1.1); by_cases hcr : cur = r
          · subst hcr
            have HFIN : Aside0 (lst = Bfs.back R dst ∧ st = trail (ends ls) dst (Bfs.back R dst)) := ⟨by
              obtain ⟨⟨_, f2, f3⟩, _⟩ := HBI.out; rw [back_root HOk.out] at f2 f3
              exact ⟨(by simpa using f2), (by simpa [trail] using f3)⟩⟩
            obtain ⟨K1, hK1⟩ := rev_ev st qz98; obtain ⟨K2, hK2⟩ := rev_ev lst qz98; have HK1 := ak (hK1 K1 (Nat.le_refl _)); have HK2 := ak (hK2 K2 (Nat.le_refl _)); have HA1 : Aside0 (Kd.R (Kd.int .i64) 3 wr w.heap.size (fun b => some b = (Value.slice sA st.length sC).ownBlock ∧ some b ≠ (Value.slice lA lst.length lC).ownBlock) (.slice sA st.length sC) st) := ⟨R_own_ok HO1.out (fun b hb _ => ⟨hb.symm, (HO1.out.1 b hb).2⟩)⟩; clear hK1 hK2
            go_wp2_with (first
              | (go_at_call 130; (with_reducible refine (slices_Reverse_int_int.calls K1 _ _ _ _ w _ HB.out HA1.out HK1.out).mono ?_); rintro e w' ⟨rfl, hq1, hq2, hq3⟩; have HP1 := ak hq1; have HP2 : Aside0 (Kd.R (Kd.int .i64) 3 w' w.heap.size (fun b => b ≠ w.heap.size ∧ some b ≠ (Value.slice sA st.length sC).ownBlock) (.slice lA lst.length lC) lst) := ⟨R_blocks HO2.out hq3.1 (fun b hb hl => hq3.2 b hl (fun hs => hb.2 hs.1))⟩; have HB6 := ak hq2; have HA2 : Aside0 (Kd.R (Kd.int .i64) 3 w' w.heap.size (fun b => some b = (Value.slice lA lst.length lC).ownBlock ∧ some b ≠ (Value.slice sA st.length sC).ownBlock) (.slice lA lst.length lC) lst) := ⟨R_own_ok HP2.out (fun b hb _ => ⟨hb.symm, (HP2.out.1 b hb).2⟩)⟩; clear hq1 hq2 hq3)
              | (go_at_call 130; (with_reducible refine (slices_Reverse_int_int.calls K2 _ _ _ _ w _ HB6.out HA2.out HK2.out).mono ?_); rintro e w' ⟨rfl, hq1, hq2, hq3⟩; have HP3 := ak hq1; have HB7 := ak hq2; have HK3 := ak hq3; clear hq1 hq2 hq3))
            have HF1 : Aside0 (Kd.R (Kd.int .i64) 3 w' w.heap.size (fun b => some b ≠ (Value.slice lA lst.length lC).ownBlock) (.slice sA st.length sC) st.reverse) := ⟨R_blocks (R_own_ok HP1.out (ok' := fun b => some b ≠ (Value.slice lA lst.length lC).ownBlock) (fun b hb _ => (HO1.out.1 b hb).2)) HK3.out.1 (fun b hb hl => HK3.out.2 b hl (fun hs => hb hs.1))⟩; have HF2 : Aside0 (Kd.R (Kd.int .i64) 3 w' w.heap.size (fun b => some b ≠ (Value.slice sA st.length sC).ownBlock) (.slice lA lst.length lC) lst.reverse) := ⟨R_own_ok HP3.out (fun b hb _ => (HP2.out.1 b hb).2)⟩; exact bodyPost_ret (v := .tuple #[.slice sA st.length sC, .slice lA lst.length lC, .bool true]) qz123 rfl (by unfold PathPost; rw [if_pos HIN.out]; exact ⟨_, _, rfl, (by rw [← HFIN.out.2]; exact HF1.out), (by rw [← HFIN.out.1]; exact HF2.out), HB7.out⟩)
          · obtain ⟨i, u, hb1, hb2, hb3, hb4, hb5, hb6⟩ := back_step HOk.out HBI.out.1.1 hcr
            have hlk := (HM.out.look cur HC8.out.1 (by have := HC8.out.2; omega)).2; rw [hb1] at hlk; have hlk2 : (some i).getD 0 = i := rfl; obtain ⟨ii, rfl⟩ := Int.eq_ofNat_of_zero_le hb5; obtain ⟨_, e2, h0, h1, h2, h3, h4⟩ := at_T49 HR.out (ii : Int) (by omega) (by omega); cases e2; rw [Int.toNat_natCast, show rd_T49 ls (ii : Int) = leg ls ii from rfl] at h0 h1; have H0 := ak h0; have H1 := ak h1; have hgx := leg_good HG.out ii (by omega); have hu8 := okRange HOk.out hr (Good.range HG.out) u hb3; have hE : (leg ls ii).f0 + (leg ls ii).f1 - cur = u := hb4; have HNX : Aside0 (BackInv (ends ls) r dst R u (st ++ [u]) (lst ++ [(ii : Int)])) := ⟨HBI.out.1.next hb2 hb3 hb4⟩; have HKQ : Aside0 ((Bfs.back R u).length + 1 = gk) := ⟨(by have := HBI.out.2; rw [hb2] at this; simpa using this)⟩; have v0 : wrap64 ((leg ls ii).f0 + (leg ls ii).f1) = (leg ls ii).f0 + (leg ls ii).f1 := by have a1 := hgx.1; have a2 := hgx.2.1; unfold wrap64; omega
            have v1 : wrap64 ((leg ls ii).f0 + (leg ls ii).f1 - cur) = u := by rw [hE]; unfold wrap64; omega
            have HMI := ak (show 0 ≤ (ii : Int) ∧ (ii : Int) < ls.length from ⟨hb5, hb6⟩); generalize leg ls (ii : Int) = x at *; clear hb1 hb2 hb3 hb4 hgx hu8 hE h0 h1 h2 h3 h4; obtain ⟨g1, eg1⟩ : ∃ g1, gk = g1 + 1 := ⟨(Bfs.back R u).length, HKQ.out.symm⟩
            subst eg1
            go_wp2_with ((with_reducible refine gate_builtin (b := .append) (xs := #[.tmp 109, .tmp 111]) rfl ?_); at_builtin; refine Kd.R_append (Kd.int .i64) (w0 := w) w.heap.size rfl (.tmp 109) (.tmp 111) 26 3 (.int .i64 0) 8 rfl Tryd.underlying26 info3 rfl (by decide) (by omega) (.slice lA lst.length lC) lst (ii : Int) [.int .i64 (ii : Int)] (fun b => b ≠ w.heap.size ∧ some b ≠ (Value.slice sA st.length sC).ownBlock) (fun _ => False) rfl rfl ?aP (fun _ hk => hk.elim) ?aF ?aO ?aB ?aS ?aL ?_; (case aP => exact rfl); (case aF => exact (by intro b hb; exact ⟨(by have := HM.out.lt; omega), Kd.fresh' (Kd.R_lt HO1.out) b hb⟩)); (case aO => exact HO2.out); (case aB => exact HB.out); (case aS => have := HM.out.lt; omega); (case aL => exact qz98)
                         intro v1_ w1_ ho hb hg hat; have HP1 := ak (Kd.R_after (ok := fun b => b ≠ w.heap.size) HO1.out hg hat); have HP2 := ak ho; have HB6 := ak hb; have HM6 := ak (HM.out.kept hg (fun e => (HO2.out.1 _ e.symm).1 rfl))
                         clear ho hb hg hat)
            have h0 := Sine.keepc H0.out HB6.out; have h1 := Sine.keepc H1.out HB6.out; have hm0 := HMI.out.1; have hm1 := HMI.out.2
            go_quiet (fail)
            go_wp2_with ((with_reducible refine gate_builtin (b := .append) (xs := #[.tmp 126, .tmp 128]) rfl ?_); at_builtin; refine Kd.R_append (Kd.int .i64) (w0 := w) w.heap.size rfl (.tmp 126) (.tmp 128) 26 3 (.int .i64 0) 8 rfl Tryd.underlying26 info3 rfl (by decide) (by omega) (.slice sA st.length sC) st u [.int .i64 u] (fun b => b ≠ w.heap.size ∧ some b ≠ v1_.ownBlock) (fun _ => False) rfl rfl ?aP (fun _ hk => hk.elim) ?aF ?aO ?aB ?aS ?aL ?_; (case aP => exact rfl); (case aF => exact (by intro b hb; simp only [World.heap_drewN] at hb; exact ⟨(by have := HM6.out.lt; omega), Kd.fresh' (Kd.R_lt HP2.out) b hb⟩)); (case aO => exact Kd.R_drewN HP1.out _); (case aB => exact pw_below_drewN HB6.out _); (case aS => exact (by simp only [World.heap_drewN]; have := HM6.out.lt; omega)); (case aL => exact qz98)
                         intro v2_ w2_ ho hb hg hat; have HQ2 := ak (Kd.R_after (ok := fun b => b ≠ w.heap.size) (Kd.R_drewN HP2.out _) hg hat); have HQ1 := ak ho; have HB8 := ak hb; have HM8 := ak ((HM6.out.below (pw_below_drewN (Below.refl _ _) _)).kept hg (fun e => (HP1.out.1 _ e.symm).1 rfl))
                         clear ho hb hg hat)
            go_roundg g1; (case measure => omega); (case rel => exact ⟨u, st ++ [u], lst ++ [(ii : Int)], (by first | rfl | simp), ⟨HNX.out, (by have := HKQ.out; omega)⟩, HQ1, HQ2, HM8, HB8⟩)
      · rw [decide_eq_false hin] at hmem
        rw [hmem] at hlk; clear hmem; go_wp2; exact bodyPost_ret (v := .tuple #[.slice none 0 0, .slice none 0 0, .bool false]) qz123 rfl (by unfold PathPost; rw [if_neg hin]; exact ⟨rfl, HB.out⟩)
end Go.Proofs.YtcafgpincnkcdaaDoor.Net
