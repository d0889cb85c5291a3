/- The program's IsBalanced, in the form of the printed functions, over the laid table of sines. -/
import Derived.Laws.StructEq
import Derived.Test.YtiooiefjcbooeaaDoorKFnExactIsBalanced0
import Derived.Test.YtiooiefjcbooeaaDoorKFnExactIsBalanced1
import Derived.Test.YtiooiefjcbooeaaDoorKFnExactIsBalanced2
import Derived.Test.YtiooiefjcbooeaaDoorKFnExactIsBalanced3
import Derived.Test.YtiooiefjcbooeaaDoorKFnExactIsBalancedU1
/- The reference's network, in plain: membership, putting into an ascending list, the shift of a leg, the placing. Conditions: valid legs. -/
namespace Go.Proofs.YtiooiefjcbooeaaDoor.Net
open Go.RowKit Go.Proofs.YtiooiefjcbooeaaDoorW.PrintWords Go.Proofs.YtiooiefjcbooeaaDoorW.PrintLast Go.Proofs.YtiooiefjcbooeaaDoorW.PrintMore Go.Proofs.YtiooiefjcbooeaaDoor.A Go.Proofs.YtiooiefjcbooeaaDoor.Plain
open Go.Proofs.YtiooiefjcbooeaaDoor.Tree (verts legs)
open Go.Proofs.YtiooiefjcbooeaaDoor.Grow (Q sweep grow)
set_option linter.unusedVariables false
set_option linter.unusedSimpArgs false
theorem Ev.step_ge {α : Type} {g f : Nat → Option α} {r : α} (N : Nat) (h : ∀ k, N ≤ k → g (k + 1) = f k) (k : Ev f r) : Ev g r := by
  obtain ⟨K, hK⟩ := k
  refine ⟨max N K + 1, fun m hm => ?_⟩
  obtain ⟨m, rfl⟩ : ∃ x, m = x + 1 := ⟨m - 1, by omega⟩
  rw [h m (by omega)]
  exact hK m (by omega)
theorem has_loop (l : List Int) (n : Int) (hl : l.length ≤ 1000000) : ∀ (d i k : Nat), i + d = l.length → d < k → spec_l1Has.l0 k l n (i : Int) = some (decide (n ∈ l.drop i)) := by
  intro d
  induction d with
  | zero =>
    intro i k hi hk
    obtain ⟨k, rfl⟩ : ∃ m, k = m + 1 := ⟨k - 1, by omega⟩
    simp only [spec_l1Has.l0]
    rw [if_neg (by omega), List.drop_eq_nil_of_le (by omega)]
    simp
  | succ d ih =>
    intro i k hi hk
    obtain ⟨k, rfl⟩ : ∃ m, k = m + 1 := ⟨k - 1, by omega⟩
    have hlt : i < l.length := by omega
    have er : rd l (i : Int) = l[i] := by
      unfold rd
      rw [Int.toNat_natCast, List.getD_eq_getElem?_getD, List.getElem?_eq_getElem hlt]
      rfl
    have e : wrap64 ((i : Int) + 1) = ((i + 1 : Nat) : Int) := by rw [w64 (by omega) (by omega)]; omega
    rw [List.drop_eq_getElem_cons hlt]
    simp only [spec_l1Has.l0]
    by_cases hc : l[i] = n
    · rw [if_pos (by omega), if_pos (by omega), er, if_pos hc, hc]
      simp
    · have hd : decide (n ∈ l[i] :: l.drop (i + 1)) = decide (n ∈ l.drop (i + 1)) := by rw [decide_eq_decide, List.mem_cons]; exact ⟨fun h => h.resolve_left (fun e => hc e.symm), Or.inr⟩
      rw [if_pos (by omega), if_pos (by omega), er, if_neg hc, e, hd]
      exact ih (i + 1) k (by omega) (by omega)
theorem has_at (l : List Int) (n : Int) (hl : l.length ≤ 1000000) (k : Nat) (hk : l.length < k) : spec_l1Has.f k l n = some (decide (n ∈ l)) := has_loop l n hl l.length 0 k (by omega) hk
theorem has_ev (l : List Int) (n : Int) (hl : l.length ≤ 1000000) : Ev (fun k => spec_l1Has.f k l n) (decide (n ∈ l)) := ⟨l.length + 1, fun k hk => has_at l n hl k hk⟩
theorem put_split (n : Int) : ∀ (p s : List Int), (∀ x ∈ p, x < n) → (∀ y ∈ s.head?, n < y) → Sort.put (p ++ s) n = p ++ n :: s
  | [], [], _, _ => rfl
  | [], y :: s, _, h => by
    have := h y rfl
    simp only [List.nil_append, Sort.put]
    rw [if_neg (by omega), if_neg (by omega)]
  | x :: p, s, h, hs => by
    have := h x List.mem_cons_self
    simp only [List.cons_append, Sort.put]
    rw [if_pos this, put_split n p s (fun x hx => h x (List.mem_cons_of_mem _ hx)) hs]
theorem put_loop (l : List Int) (n : Int) (hl : l.length ≤ 1000000) (ha : Sort.Asc l) (hn : n ∉ l) : ∀ (d i k : Nat), i + d = l.length → d < k → (∀ x ∈ l.take i, x < n) → spec_l1Put.l0 k l n (i : Int) = some (Sort.put l n) := by
  intro d
  induction d with
  | zero =>
    intro i k hi hk h
    obtain ⟨k, rfl⟩ : ∃ m, k = m + 1 := ⟨k - 1, by omega⟩
    have e1 : Sort.put l n = l.take i ++ n :: l.drop i := by
      have := put_split n (l.take i) (l.drop i) h (by rw [List.drop_eq_nil_of_le (by omega)]; simp)
      rwa [List.take_append_drop] at this
    simp only [spec_l1Put.l0]
    rw [if_neg (by omega)]
    simp only [Option.bind_some, Int.toNat_natCast]
    rw [if_pos (by omega), if_pos (by omega), if_pos (by simp; omega), if_pos (by simp; omega), if_pos (by simp; omega), e1]
    simp
  | succ d ih =>
    intro i k hi hk h
    obtain ⟨k, rfl⟩ : ∃ m, k = m + 1 := ⟨k - 1, by omega⟩
    have hlt : i < l.length := by omega
    have er : rd l (i : Int) = l[i] := by
      unfold rd
      rw [Int.toNat_natCast, List.getD_eq_getElem?_getD, List.getElem?_eq_getElem hlt]
      rfl
    have e : wrap64 ((i : Int) + 1) = ((i + 1 : Nat) : Int) := by rw [w64 (by omega) (by omega)]; omega
    have hne : l[i] ≠ n := fun e => hn (e ▸ List.getElem_mem hlt)
    by_cases hc : l[i] < n
    · simp only [spec_l1Put.l0]
      rw [if_pos (by omega), if_pos (by omega), er, if_pos hc, e]
      refine ih (i + 1) k (by omega) (by omega) (fun x hx => ?_)
      · rw [List.take_succ_eq_append_getElem hlt, List.mem_append, List.mem_singleton] at hx
        rcases hx with hx | rfl
        · exact h x hx
        · exact hc
    · have e1 : Sort.put l n = l.take i ++ n :: l.drop i := by
        have := put_split n (l.take i) (l.drop i) h (by
          rw [List.drop_eq_getElem_cons hlt]
          intro y hy
          simp only [List.head?_cons, Option.mem_def, Option.some.injEq] at hy
          omega)
        rwa [List.take_append_drop] at this
      simp only [spec_l1Put.l0]
      rw [if_pos (by omega), if_pos (by omega), er, if_neg hc, if_neg hne]
      simp only [Option.bind_some, Int.toNat_natCast]
      rw [if_pos (by omega), if_pos (by simp; omega), if_pos (by simp; omega), if_pos (by simp; omega), e1]
      simp
theorem put_at (l : List Int) (n : Int) (hl : l.length ≤ 1000000) (ha : Sort.Asc l) (hn : n ∉ l) (k : Nat) (hk : l.length < k) : spec_l1Put.f k l n = some (Sort.put l n) := put_loop l n hl ha hn l.length 0 k (by omega) hk (by simp)
/-! ### The shift -/
theorem div_eq (a : Int) (h0 : -1000000000 ≤ a) (h1 : a ≤ 1000000000) : spec_l2Div.f a 1000 = some (rnd a) := by
  unfold spec_l2Div.f rnd
  have e2 : wrap64 (2 * 1000) = 2000 := by unfold wrap64; omega
  by_cases h : a < 0
  · have e1 : wrap64 ((-2) * a) = 2 * (-a) := by unfold wrap64; omega
    have e3 : wrap64 (2 * (-a) + 1000) = 2 * (-a) + 1000 := by unfold wrap64; omega
    have e4 : Int.tdiv (2 * (-a) + 1000) 2000 = (2 * (-a) + 1000) / 2000 := Int.tdiv_eq_ediv_of_nonneg (by omega)
    have e5 : wrap64 ((2 * (-a) + 1000) / 2000) = (2 * (-a) + 1000) / 2000 := by unfold wrap64; omega
    have e6 : wrap64 (-((2 * (-a) + 1000) / 2000)) = -((2 * (-a) + 1000) / 2000) := by unfold wrap64; omega
    rw [if_pos h, e2, if_neg (by decide), e1, e3, e4, e5, e6, if_pos h]
  · have e1 : wrap64 (2 * a) = 2 * a := by unfold wrap64; omega
    have e3 : wrap64 (2 * a + 1000) = 2 * a + 1000 := by unfold wrap64; omega
    have e4 : Int.tdiv (2 * a + 1000) 2000 = (2 * a + 1000) / 2000 := Int.tdiv_eq_ediv_of_nonneg (by omega)
    have e5 : wrap64 ((2 * a + 1000) / 2000) = (2 * a + 1000) / 2000 := by unfold wrap64; omega
    rw [if_neg h, e2, if_neg (by decide), e1, e3, e4, e5, if_neg h]
theorem table_eq : spec_l2Table.f = some Sine.tab := rfl
theorem sine_eq (a : Int) (h0 : -1000000 ≤ a) (h1 : a ≤ 1000000) : spec_l2Sine.f a = some (Sine.f a) := by
  have hm : Int.tmod (wrap64 (Int.tmod a 360 + 360)) 360 = a % 360 := by
    have e0 : Int.tmod a 360 = a % 360 ∨ Int.tmod a 360 = a % 360 - 360 := by
      rw [Int.tmod_eq_emod]
      split
      · left; omega
      · right; simp
    have e1 : wrap64 (Int.tmod a 360 + 360) = Int.tmod a 360 + 360 := by unfold wrap64; omega
    rw [e1, Int.tmod_eq_emod_of_nonneg (by omega)]
    omega
  unfold spec_l2Sine.f Sine.f
  simp only [hm]
  have g0 : 0 ≤ a % 360 := by omega
  have g1 : a % 360 < 360 := by omega
  generalize a % 360 = d at *
  have hlen : (Sine.tab.length : Int) = 91 := rfl
  have w1 : wrap64 (180 - d) = 180 - d := by unfold wrap64; omega
  have w2 : wrap64 (d - 180) = d - 180 := by unfold wrap64; omega
  have w3 : wrap64 (360 - d) = 360 - d := by unfold wrap64; omega
  have hb : ∀ i : Nat, wrap64 (-(Sine.tab.getD i 0)) = -(Sine.tab.getD i 0) := fun i => by have := Sine.getD_bound i; unfold wrap64; omega
  by_cases c1 : d ≤ 90
  · rw [if_pos c1, table_eq, Option.bind_some, if_pos g0, if_pos (by omega), if_pos (by omega)]
    unfold Sine.s rd
    rw [if_pos c1]
  · rw [if_neg c1]
    by_cases c2 : d ≤ 180
    · rw [if_pos c2, table_eq, Option.bind_some, w1, if_pos (by omega), if_pos (by omega), if_pos c2]
      unfold Sine.s rd
      rw [if_neg c1]
    · rw [if_neg c2, if_neg c2]
      by_cases c3 : d ≤ 270
      · rw [if_pos c3, table_eq, Option.bind_some, w2, if_pos (by omega), if_pos (by omega)]
        unfold Sine.s rd
        rw [if_pos (by omega), hb]
      · rw [if_neg c3, table_eq, Option.bind_some, w3, if_pos (by omega), if_pos (by omega)]
        unfold Sine.s rd
        rw [if_neg (by omega), hb, show 180 - (d - 180) = 360 - d by omega]
theorem cosine_eq (a : Int) (h0 : -100000 ≤ a) (h1 : a ≤ 100000) : spec_l2Cosine.f a = some (Sine.f (a + 90)) := by
  unfold spec_l2Cosine.f
  rw [w64 (by omega) (by omega), sine_eq _ (by omega) (by omega)]
  rfl
theorem shift_eq (x : S56) (h : Good x) : spec_l4Shift.f x.f0 x.f1 x.f2 x.f3 x.f4 = some ((shift x).f0, (shift x).f1, (shift x).f2) := by
  obtain ⟨_, _, _, h2, h3, h4⟩ := h
  have a := part_bound x.f2 x.f4 500 (by omega) (by omega)
  have p1 := prod_bound x.f2 (x.f4 + 90) (by omega) (by omega)
  have p2 := prod_bound x.f2 x.f4 (by omega) (by omega)
  have p3 := prod_bound (part x.f2 x.f4).1 (x.f3 + 90) (by omega) (by omega)
  have p4 := prod_bound (part x.f2 x.f4).1 x.f3 (by omega) (by omega)
  have ep : rnd (x.f2 * Sine.f (x.f4 + 90)) = (part x.f2 x.f4).1 := rfl
  unfold spec_l4Shift.f
  rw [cosine_eq _ (by omega) (by omega), Option.bind_some, w64 (by omega) (by omega), div_eq _ (by omega) (by omega), Option.bind_some, ep, sine_eq _ (by omega) (by omega), Option.bind_some, w64 (by omega) (by omega), div_eq _ (by omega) (by omega), Option.bind_some,
    cosine_eq _ (by omega) (by omega), Option.bind_some, w64 (by omega) (by omega), div_eq _ (by omega) (by omega), Option.bind_some, sine_eq _ (by omega) (by omega), Option.bind_some, w64 (by omega) (by omega), div_eq _ (by omega) (by omega), Option.bind_some]
  rfl
/-! ### The placing -/
def plL : Q → List Int
  | [] => [0]
  | (_, _, s) :: q => Sort.put (plL q) s
def trL : Q → List Int
  | [] => []
  | (i, _, _) :: q => Sort.put (trL q) i
def XL (ls : L) (q : Q) : List S34 := (List.range 8).map (Xq ls q)
theorem mem_plL (q : Q) (s : Int) : s ∈ plL q ↔ s ∈ verts 0 q := by
  induction q with
  | nil => simp [plL, verts]
  | cons x q ih =>
    obtain ⟨i, u, t⟩ := x
    simp only [plL, Sort.mem_put, ih, verts, List.map_cons, List.mem_cons]
    constructor
    · rintro (h | h | h)
      · exact Or.inr (Or.inl h)
      · exact Or.inl h
      · exact Or.inr (Or.inr h)
    · rintro (h | h | h)
      · exact Or.inr (Or.inl h)
      · exact Or.inl h
      · exact Or.inr (Or.inr h)
theorem mem_trL (q : Q) (i : Int) : i ∈ trL q ↔ i ∈ legs q := by
  induction q with
  | nil => simp [trL, legs]
  | cons x q ih =>
    obtain ⟨j, u, t⟩ := x
    simp only [trL, Sort.mem_put, ih, legs, List.map_cons, List.mem_cons]
theorem put_len_le (l : List Int) (n : Int) : (Sort.put l n).length ≤ l.length + 1 := by
  induction l with
  | nil => simp [Sort.put]
  | cons x l ih =>
    simp only [Sort.put]
    split
    · simp; omega
    · split <;> simp
theorem asc_plL (q : Q) : Sort.Asc (plL q) := by
  induction q with
  | nil => simp [plL, Sort.Asc]
  | cons x q ih => exact Sort.asc_put ih _
theorem asc_trL (q : Q) : Sort.Asc (trL q) := by
  induction q with
  | nil => simp [trL, Sort.Asc]
  | cons x q ih => exact Sort.asc_put ih _
theorem plL_len (q : Q) : (plL q).length ≤ q.length + 1 := by
  induction q with
  | nil => simp [plL]
  | cons x q ih =>
    obtain ⟨i, u, s⟩ := x
    have := put_len_le (plL q) s
    simp only [plL, List.length_cons]
    omega
theorem trL_len (q : Q) : (trL q).length ≤ q.length := by
  induction q with
  | nil => simp [trL]
  | cons x q ih =>
    obtain ⟨i, u, s⟩ := x
    have := put_len_le (trL q) i
    simp only [trL, List.length_cons]
    omega
theorem XL_len (ls : L) (q : Q) : (XL ls q).length = 8 := by simp [XL]
theorem XL_at (ls : L) (q : Q) (a : Nat) (h : a < 8) : rd_T34 (XL ls q) (a : Int) = Xq ls q a := by
  unfold rd_T34 XL
  rw [Int.toNat_natCast, List.getD_eq_getElem?_getD, List.getElem?_map, List.getElem?_range h]
  rfl
theorem XL_set (ls : L) (q q' : Q) (d : Nat) (v : S34) (h : ∀ i, i < 8 → Xq ls q' i = if i = d then v else Xq ls q i) : (XL ls q).set d v = XL ls q' := by
  apply List.ext_getElem
  · simp [XL]
  · intro i h1 h2
    rw [List.getElem_set]
    simp only [XL, List.getElem_map, List.getElem_range]
    have hi : i < 8 := by simpa [XL] using h2
    rw [h i hi]
    by_cases e : i = d
    · subst e; simp
    · rw [if_neg e, if_neg (fun e' => e e'.symm)]
theorem leg_good {ls : L} (hg : ∀ x ∈ ls, Good x) (i : Nat) (hi : i < ls.length) : Good (leg ls (i : Int)) := hg _ (by
  unfold leg rd_T56
  rw [Int.toNat_natCast, List.getD_eq_getElem?_getD, List.getElem?_eq_getElem hi]
  exact List.getElem_mem _)
/-- One leg. -/
theorem one_leg (ls : L) (hn : ls.length ≤ 12) (hg : ∀ x ∈ ls, Good x) (q : Q) (ok : Grow.Ok (ends ls) ls.length q) (i : Nat) (hi : i < ls.length) (b : Bool) (hb : q.length ≤ 7) (r : List S34 × List Int × List Int)
    (h : ∀ b', b' = (b || decide (q.length < (Grow.step (ends ls) q i).length)) → Ev (fun k => spec_l6Place.l1 k ls (XL ls (Grow.step (ends ls) q i)) (plL (Grow.step (ends ls) q i)) (trL (Grow.step (ends ls) q i)) b' ((i + 1 : Nat) : Int)) r) :
    Ev (fun k => spec_l6Place.l1 k ls (XL ls q) (plL q) (trL q) b (i : Int)) r := by
  have b1 : (i : Int) < (ls.length : Int) := Int.ofNat_lt.mpr hi
  have b0 : (0 : Int) ≤ (i : Int) := Int.natCast_nonneg i
  have e : wrap64 ((i : Int) + 1) = ((i + 1 : Nat) : Int) := by rw [w64 (by omega) (by omega)]; omega
  have hgood := leg_good hg i hi
  have hE : ends ls i = ((leg ls i).f0, (leg ls i).f1) := rfl
  have hrd : rd_T56 ls (i : Int) = leg ls i := rfl
  have hsh := shift_eq _ hgood
  generalize hx : leg ls (i : Int) = x at hgood hE hrd hsh
  obtain ⟨⟨a0, a8⟩, ⟨d0, d8⟩, had, _⟩ := hgood
  obtain ⟨a, ha⟩ := Int.eq_ofNat_of_zero_le a0
  obtain ⟨d, hd⟩ := Int.eq_ofNat_of_zero_le d0
  rw [ha, hd] at had hE
  have ka0 : (0 : Int) ≤ (a : Int) := Int.natCast_nonneg a
  have kd0 : (0 : Int) ≤ (d : Int) := Int.natCast_nonneg d
  rw [ha] at a8
  rw [hd] at d8
  have na8 : a < 8 := Int.ofNat_lt.mp a8
  have nd8 : d < 8 := Int.ofNat_lt.mp d8
  have hlen : ((XL ls q).length : Int) = 8 := by rw [XL_len]; rfl
  have ka1 : (a : Int) < ((XL ls q).length : Int) := by rw [hlen]; exact Int.ofNat_lt.mpr na8
  have kd1 : (d : Int) < ((XL ls q).length : Int) := by rw [hlen]; exact Int.ofNat_lt.mpr nd8
  have l1 : (plL q).length ≤ 8 := Nat.le_trans (plL_len q) (Nat.succ_le_succ hb)
  have l2 : (trL q).length ≤ 7 := Nat.le_trans (trL_len q) hb
  have l1m : (plL q).length ≤ 1000000 := Nat.le_trans l1 (by decide)
  have l2m : (trL q).length ≤ 1000000 := Nat.le_trans l2 (by decide)
  have l1k : ∀ {k : Nat}, 20 ≤ k → (plL q).length < k := fun hk => Nat.lt_of_le_of_lt l1 (Nat.lt_of_lt_of_le (by decide : 8 < 20) hk)
  have l2k : ∀ {k : Nat}, 20 ≤ k → (trL q).length < k := fun hk => Nat.lt_of_le_of_lt l2 (Nat.lt_of_lt_of_le (by decide : 7 < 20) hk)
  have A1 := fun k (hk : 20 ≤ k) => has_at (plL q) (a : Int) l1m k (l1k hk)
  have D1 := fun k (hk : 20 ≤ k) => has_at (plL q) (d : Int) l1m k (l1k hk)
  simp only [mem_plL] at A1 D1
  have hitr : ¬ ((a : Int) ∈ verts 0 q ∧ (d : Int) ∈ verts 0 q) → (i : Int) ∉ trL q := by
    intro c h
    rw [mem_trL] at h
    have := ok.legs_ends _ h
    rw [hE] at this
    exact c ⟨this.1, this.2.1⟩
  have na : ∀ {c : Nat}, (c : Int) ∉ verts 0 q → (c : Int) ∉ plL q := fun h h' => h ((mem_plL q _).mp h')
  by_cases pa : (a : Int) ∈ verts 0 q
  · by_cases pd : (d : Int) ∈ verts 0 q
    · have hs : Grow.step (ends ls) q i = q := by
        unfold Grow.step
        rw [hE, if_neg (fun c => c.2 pd), if_neg (fun c => c.2 pa)]
      rw [hs] at h
      refine Ev.step_ge 20 (f := fun k => spec_l6Place.j2 k ls (XL ls q) (plL q) (trL q) b (i : Int) (a : Int) (d : Int) false) (fun k hk => ?_) ?_
      · simp only [spec_l6Place.l1]
        rw [if_pos b1, if_pos b0, hrd, ha, hd, A1 k hk, Option.bind_some, decide_eq_true pa, if_pos rfl, D1 k hk, Option.bind_some, decide_eq_true pd]
        rfl
      refine Ev.step_ge 20 (f := fun k => spec_l6Place.j3 k ls (XL ls q) (plL q) (trL q) b (i : Int) (a : Int) (d : Int) false) (fun k hk => ?_) ?_
      · simp only [spec_l6Place.j2]
        rw [if_neg (by decide), D1 k hk, Option.bind_some, decide_eq_true pd, if_pos rfl, A1 k hk, Option.bind_some, decide_eq_true pa]
        rfl
      refine Ev.step_ge 20 (fun k hk => ?_) (h b (by simp))
      simp only [spec_l6Place.j3]
      rw [if_neg (by decide), e]
    · have hs : Grow.step (ends ls) q i = ((i : Int), (a : Int), (d : Int)) :: q := by
        unfold Grow.step
        rw [hE, if_pos ⟨pa, pd⟩]
      rw [hs] at h
      refine Ev.step_ge 20 (f := fun k => spec_l6Place.j2 k ls (XL ls q) (plL q) (trL q) b (i : Int) (a : Int) (d : Int) true) (fun k hk => ?_) ?_
      · simp only [spec_l6Place.l1]
        rw [if_pos b1, if_pos b0, hrd, ha, hd, A1 k hk, Option.bind_some, decide_eq_true pa, if_pos rfl, D1 k hk, Option.bind_some, decide_eq_false pd]
        rfl
      refine Ev.step_ge 20 (fun k hk => ?_) (h true (by simp))
      simp only [spec_l6Place.j2]
      rw [if_pos trivial, if_pos ka0, if_pos ka1, if_pos b0, if_pos b1, hrd, hsh, Option.bind_some]
      simp only [spec_l4Plus.f, Option.bind_some]
      rw [if_pos kd0, if_pos kd1, put_at _ _ l1m (asc_plL q) (na pd) k (l1k hk), Option.bind_some, put_at _ _ l2m (asc_trL q) (hitr (fun c => pd c.2)) k (l2k hk), Option.bind_some, e, XL_at _ _ _ na8, Int.toNat_natCast]
      rw [← XL_set ls q (((i : Int), (a : Int), (d : Int)) :: q) d (plus (Xq ls q a) (shift x) 1) (fun s _ => Xq_fore hE hx s)]
      rfl
  · by_cases pd : (d : Int) ∈ verts 0 q
    · have hs : Grow.step (ends ls) q i = ((i : Int), (d : Int), (a : Int)) :: q := by
        unfold Grow.step
        rw [hE, if_neg (fun c => pa c.1), if_pos ⟨pd, pa⟩]
      rw [hs] at h
      refine Ev.step_ge 20 (f := fun k => spec_l6Place.j2 k ls (XL ls q) (plL q) (trL q) b (i : Int) (a : Int) (d : Int) false) (fun k hk => ?_) ?_
      · simp only [spec_l6Place.l1]
        rw [if_pos b1, if_pos b0, hrd, ha, hd, A1 k hk, Option.bind_some, decide_eq_false pa, if_neg (by decide)]
      refine Ev.step_ge 20 (f := fun k => spec_l6Place.j3 k ls (XL ls q) (plL q) (trL q) b (i : Int) (a : Int) (d : Int) true) (fun k hk => ?_) ?_
      · simp only [spec_l6Place.j2]
        rw [if_neg (by decide), D1 k hk, Option.bind_some, decide_eq_true pd, if_pos rfl, A1 k hk, Option.bind_some, decide_eq_false pa]
        rfl
      refine Ev.step_ge 20 (fun k hk => ?_) (h true (by simp))
      simp only [spec_l6Place.j3]
      rw [if_pos trivial, if_pos kd0, if_pos kd1, if_pos b0, if_pos b1, hrd, hsh, Option.bind_some]
      simp only [spec_l4Plus.f, Option.bind_some]
      rw [if_pos ka0, if_pos ka1, put_at _ _ l1m (asc_plL q) (na pa) k (l1k hk), Option.bind_some, put_at _ _ l2m (asc_trL q) (hitr (fun c => pa c.1)) k (l2k hk), Option.bind_some, e, XL_at _ _ _ nd8, Int.toNat_natCast]
      rw [← XL_set ls q (((i : Int), (d : Int), (a : Int)) :: q) a (plus (Xq ls q d) (shift x) (-1)) (fun s _ => Xq_back hE had hx s)]
      rfl
    · have hs : Grow.step (ends ls) q i = q := by
        unfold Grow.step
        rw [hE, if_neg (fun c => pa c.1), if_neg (fun c => pd c.1)]
      rw [hs] at h
      refine Ev.step_ge 20 (f := fun k => spec_l6Place.j2 k ls (XL ls q) (plL q) (trL q) b (i : Int) (a : Int) (d : Int) false) (fun k hk => ?_) ?_
      · simp only [spec_l6Place.l1]
        rw [if_pos b1, if_pos b0, hrd, ha, hd, A1 k hk, Option.bind_some, decide_eq_false pa, if_neg (by decide)]
      refine Ev.step_ge 20 (f := fun k => spec_l6Place.j3 k ls (XL ls q) (plL q) (trL q) b (i : Int) (a : Int) (d : Int) false) (fun k hk => ?_) ?_
      · simp only [spec_l6Place.j2]
        rw [if_neg (by decide), D1 k hk, Option.bind_some, decide_eq_false pd, if_neg (by decide)]
      refine Ev.step_ge 20 (fun k hk => ?_) (h b (by simp))
      simp only [spec_l6Place.j3]
      rw [if_neg (by decide), e]
theorem Good.range {ls : L} (hg : ∀ x ∈ ls, Good x) : ∀ i : Int, 0 ≤ i → i < ls.length → 0 ≤ (ends ls i).1 ∧ (ends ls i).1 < 8 ∧ 0 ≤ (ends ls i).2 ∧ (ends ls i).2 < 8 := by
  intro i h0 h1
  obtain ⟨k, rfl⟩ := Int.eq_ofNat_of_zero_le h0
  have h := leg_good hg k (Int.ofNat_lt.mp h1)
  exact ⟨h.1.1, h.1.2, h.2.1.1, h.2.1.2⟩
/-- One round from leg i on. -/
theorem round_ev (ls : L) (hn : ls.length ≤ 12) (hg : ∀ x ∈ ls, Good x) (r : List S34 × List Int × List Int) (q0 : Q) : ∀ (d i : Nat) (q : Q), i + d = ls.length → Grow.Ok (ends ls) ls.length q → q0.length ≤ q.length →
    (Ev (fun k => spec_l6Place.l0 k ls (XL ls (sweep (ends ls) d i q)) (plL (sweep (ends ls) d i q)) (trL (sweep (ends ls) d i q)) (decide (q0.length < (sweep (ends ls) d i q).length))) r) →
    Ev (fun k => spec_l6Place.l1 k ls (XL ls q) (plL q) (trL q) (decide (q0.length < q.length)) (i : Int)) r := by
  intro d
  induction d with
  | zero =>
    intro i q hi ok hq h
    refine Ev.step (fun k => ?_) h
    simp only [spec_l6Place.l1]
    rw [if_neg (fun c => by have := Int.ofNat_lt.mp c; omega)]
    rfl
  | succ d ih =>
    intro i q hi ok hq h
    refine one_leg ls hn hg q ok i (by omega) _ (ok.len _ (Good.range hg)) r (fun b' hb' => ?_)
    have hl := Grow.step_len (ends ls) q i
    have hb2 : b' = decide (q0.length < (Grow.step (ends ls) q i).length) := by
      rw [hb', ← Bool.decide_or, decide_eq_decide]
      omega
    rw [hb2]
    exact ih (i + 1) _ (by omega) (ok.step _ (by omega) (by omega)) (by omega) h
theorem rounds_ev (ls : L) (hn : ls.length ≤ 12) (hg : ∀ x ∈ ls, Good x) (R : Q) : ∀ (f : Nat) (q : Q), Grow.Ok (ends ls) ls.length q → 8 ≤ f + q.length → grow (ends ls) ls.length f q = R → Ev (fun k => spec_l6Place.l0 k ls (XL ls q) (plL q) (trL q) true) (XL ls R, plL R, trL R) := by
  intro f
  induction f with
  | zero =>
    intro q ok h8 hR
    have := ok.len _ (Good.range hg)
    omega
  | succ f ih =>
    intro q ok h8 hR
    refine Ev.step (f := fun k => spec_l6Place.l1 k ls (XL ls q) (plL q) (trL q) (decide (q.length < q.length)) ((0 : Nat) : Int)) (fun k => ?_) ?_
    · simp only [spec_l6Place.l0]
      rw [if_pos trivial, decide_eq_false (Nat.lt_irrefl _)]
      rfl
    · refine round_ev ls hn hg _ q ls.length 0 q (by omega) ok (Nat.le_refl _) ?_
      rw [grow] at hR
      have hl := Grow.sweep_len (ends ls) ls.length 0 q
      by_cases c : (sweep (ends ls) ls.length 0 q).length = q.length
      · rw [if_pos c] at hR
        have hs := (Grow.sweep_same (ends ls) c).1
        have e0 : sweep (ends ls) ls.length ((0 : Nat) : Int) q = q := hs
        rw [e0, decide_eq_false (Nat.lt_irrefl _), hR]
        refine Ev.step (f := fun _ => some (XL ls R, plL R, trL R)) (fun k => ?_) (Ev.now _)
        simp only [spec_l6Place.l0]
        rw [if_neg (by decide)]
      · rw [if_neg c] at hR
        have e1 : decide (q.length < (sweep (ends ls) ls.length ((0 : Nat) : Int) q).length) = true := decide_eq_true (by
          show q.length < (sweep (ends ls) ls.length 0 q).length
          omega)
        rw [e1]
        exact ih _ (ok.sweep _ (by omega) (by omega)) (by show 8 ≤ f + (sweep (ends ls) ls.length 0 q).length; omega) hR
/-- THE PLACING OF THE REFERENCE. -/
theorem place_ev (ls : L) (hn : ls.length ≤ 12) (hg : ∀ x ∈ ls, Good x) (R : Q) (hR : grow (ends ls) ls.length 8 [] = R) : Ev (fun k => spec_l6Place.f k ls) (XL ls R, plL R, trL R) := by
  refine Ev.congr (f := fun k => spec_l6Place.l0 k ls (XL ls []) (plL []) (trL []) true) (fun k => ?_) (rounds_ev ls hn hg R 8 [] (Grow.Ok.nil _ _) (by simp) hR)
  unfold spec_l6Place.f
  rw [if_pos (by decide)]
  rfl
end Go.Proofs.YtiooiefjcbooeaaDoor.Net

/- Valid legs, the closing legs, in plain. Conditions: the lists' lengths. -/
namespace Go.Proofs.YtiooiefjcbooeaaDoor.Net
open Go.RowKit Go.Proofs.YtiooiefjcbooeaaDoorW.PrintWords Go.Proofs.YtiooiefjcbooeaaDoorW.PrintLast Go.Proofs.YtiooiefjcbooeaaDoorW.PrintMore Go.Proofs.YtiooiefjcbooeaaDoor.A Go.Proofs.YtiooiefjcbooeaaDoor.Plain
open Go.Proofs.YtiooiefjcbooeaaDoor.Tree (verts legs)
open Go.Proofs.YtiooiefjcbooeaaDoor.Grow (Q sweep grow)
set_option linter.unusedVariables false
set_option linter.unusedSimpArgs false
instance : DecidablePred Good := fun x => by unfold Good; infer_instance
theorem within_eq (x a b : Int) : impl_within.f x a b = some (decide (a ≤ x ∧ x ≤ b)) := by
  unfold impl_within.f
  by_cases h : x ≥ a
  · rw [if_pos h]; congr 1; rw [decide_eq_decide]; omega
  · rw [if_neg h, decide_eq_false (by omega)]
theorem IsLeg_eq (x : S56) : impl_IsLeg.f x.f0 x.f1 x.f2 x.f3 x.f4 = some (decide (Good x)) := by
  unfold impl_IsLeg.f impl_isStation.f impl_isBearing.f
  simp only [within_eq, Option.bind_some]
  by_cases h0 : 0 ≤ x.f0 ∧ x.f0 ≤ 7
  · rw [decide_eq_true h0, if_pos rfl]
    by_cases h1 : 0 ≤ x.f1 ∧ x.f1 ≤ 7
    · rw [decide_eq_true h1, if_pos rfl]
      by_cases h2 : x.f0 = x.f1
      · rw [if_pos h2, decide_eq_false (fun c => c.2.2.1 h2)]
      · rw [if_neg h2]
        by_cases h3 : 1 ≤ x.f2 ∧ x.f2 ≤ 500
        · rw [decide_eq_true h3, if_pos rfl]
          by_cases h4 : 0 ≤ x.f3 ∧ x.f3 ≤ 359
          · rw [decide_eq_true h4, if_pos rfl]
            congr 1
            rw [decide_eq_decide]
            exact ⟨fun c => ⟨⟨h0.1, by omega⟩, ⟨h1.1, by omega⟩, h2, h3, h4, c⟩, fun c => c.2.2.2.2.2⟩
          · rw [decide_eq_false h4, if_neg (by decide), decide_eq_false (fun c => h4 c.2.2.2.2.1)]
        · rw [decide_eq_false h3, if_neg (by decide), decide_eq_false (fun c => h3 c.2.2.2.1)]
    · rw [decide_eq_false h1, if_neg (by decide), decide_eq_false (fun c => h1 ⟨c.2.1.1, by have := c.2.1.2; omega⟩)]
  · rw [decide_eq_false h0, if_neg (by decide), decide_eq_false (fun c => h0 ⟨c.1.1, by have := c.1.2; omega⟩)]
theorem l4Leg_eq (x : S56) : spec_l4Leg.f x.f0 x.f1 x.f2 x.f3 x.f4 = some (decide (Good x)) := IsLeg_eq x
def legsB (ls : L) : Bool := decide ((∀ x ∈ ls, Good x) ∧ ls.length ≤ 12)
theorem legsB_all (ls : L) : (if allFrom (fun i => decide (Good (ls.getD i z56))) 0 ls.length = true then some (decide ((ls.length : Int) ≤ 12)) else some false) = some (legsB ls) := by
  rw [allFrom_all ls z56 (fun x => decide (Good x))]
  unfold legsB
  by_cases h : ∀ x ∈ ls, Good x
  · rw [if_pos (by simpa using h)]
    congr 1
    rw [decide_eq_decide]
    exact ⟨fun c => ⟨h, by omega⟩, fun c => by have := c.2; omega⟩
  · rw [if_neg (by simpa using h), decide_eq_false (fun c => h c.1)]
theorem areLegs_ev (ls : L) (hb : ls.length ≤ 140737488351232) : Ev (fun k => impl_areLegs.f k ls) (legsB ls) := by
  obtain ⟨K, hK⟩ := all_ev (fun i => decide (Good (ls.getD i z56))) ls.length hb (fun k i => impl_areLegs.l0 k ls ls (ls.length : Int) i) (some (decide ((ls.length : Int) ≤ 12))) (by
      intro k i hi
      simp only [impl_areLegs.l0]
      rw [if_pos (by omega), if_pos (by omega), if_pos (by omega), IsLeg_eq, Option.bind_some]
      rfl) (by
      intro k
      simp only [impl_areLegs.l0]
      rw [if_neg (by omega)])
  refine ⟨K, fun k hk => ?_⟩
  have := hK k hk
  rw [legsB_all] at this
  exact this
theorem l4Legs_ev (ls : L) (hb : ls.length ≤ 140737488351232) : Ev (fun k => spec_l4Legs.f k ls) (legsB ls) := by
  obtain ⟨K, hK⟩ := all_ev (fun i => decide (Good (ls.getD i z56))) ls.length hb (fun k i => spec_l4Legs.l0 k ls i) (some (decide ((ls.length : Int) ≤ 12))) (by
      intro k i hi
      simp only [spec_l4Legs.l0]
      rw [if_pos (by omega), if_pos (by omega), l4Leg_eq, Option.bind_some]
      rfl) (by
      intro k
      simp only [spec_l4Legs.l0]
      rw [if_neg (by omega)])
  refine ⟨K, fun k hk => ?_⟩
  have := hK k hk
  rw [legsB_all] at this
  exact this
/-- The growth of the legs. -/
def RR (ls : L) : Q := grow (ends ls) ls.length 8 []
theorem RR_ok {ls : L} (hg : ∀ x ∈ ls, Good x) : Grow.Ok (ends ls) ls.length (RR ls) ∧ ∀ i : Int, 0 ≤ i → i < ls.length → ((ends ls i).1 ∈ verts 0 (RR ls) ↔ (ends ls i).2 ∈ verts 0 (RR ls)) := by
  have h := Grow.grow_end (ends ls) (Good.range hg) 8 [] (Grow.Ok.nil _ _) (by simp)
  exact ⟨h.1, h.2.2⟩
theorem RR_len {ls : L} (hg : ∀ x ∈ ls, Good x) : (RR ls).length ≤ 7 := (RR_ok hg).1.len _ (Good.range hg)
theorem plL_small {ls : L} (hg : ∀ x ∈ ls, Good x) : (plL (RR ls)).length ≤ 8 := Nat.le_trans (plL_len _) (Nat.succ_le_succ (RR_len hg))
theorem Pq_eq (q : Q) (a : Nat) : Pq q a = decide ((a : Int) ∈ plL q) := by
  unfold Pq; rw [decide_eq_decide, mem_plL]
def closeL (ls : L) : List Int := closeTo ls (RR ls) ls.length
theorem legsB_iff {ls : L} : legsB ls = true ↔ (∀ x ∈ ls, Good x) ∧ ls.length ≤ 12 := by
  unfold legsB; exact decide_eq_true_iff
/-! ### CountLoops -/
end Go.Proofs.YtiooiefjcbooeaaDoor.Net

/- The error of a leg whose ends are placed. -/
namespace Go.Proofs.YtiooiefjcbooeaaDoor.Net
open Go.RowKit Go.Proofs.YtiooiefjcbooeaaDoorW.PrintWords Go.Proofs.YtiooiefjcbooeaaDoorW.PrintLast Go.Proofs.YtiooiefjcbooeaaDoorW.PrintMore Go.Proofs.YtiooiefjcbooeaaDoor.A Go.Proofs.YtiooiefjcbooeaaDoor.Plain
set_option linter.unusedVariables false
set_option linter.unusedSimpArgs false
end Go.Proofs.YtiooiefjcbooeaaDoor.Net

/- The program's closingLeg, placedLeg, placedAt: the network, and whether it holds what is asked for. -/
namespace Go.Proofs.YtiooiefjcbooeaaDoor.Net
open Go.RowKit Go.Proofs.YtiooiefjcbooeaaDoorW.PrintWords Go.Proofs.YtiooiefjcbooeaaDoorW.PrintLast Go.Proofs.YtiooiefjcbooeaaDoorW.PrintMore Go.Proofs.YtiooiefjcbooeaaDoor.A Go.Proofs.YtiooiefjcbooeaaDoor.Plain
set_option linter.unusedVariables false
set_option linter.unusedSimpArgs false
theorem idx_loop (l : List Int) (n : Int) (hl : l.length ≤ 1000000) : ∀ (d i k : Nat), i + d = l.length → d < k → ∃ r, slices_Index_int_int.l0 k l n (l.length : Int) (i : Int) = some r ∧ (r ≥ 0 ↔ n ∈ l.drop i) := by
  intro d
  induction d with
  | zero =>
    intro i k hi hk
    obtain ⟨k, rfl⟩ : ∃ m, k = m + 1 := ⟨k - 1, by omega⟩
    refine ⟨-1, ?_, ?_⟩
    · simp only [slices_Index_int_int.l0]
      rw [if_neg (by omega)]
    · rw [List.drop_eq_nil_of_le (by omega)]
      simp
  | succ d ih =>
    intro i k hi hk
    obtain ⟨k, rfl⟩ : ∃ m, k = m + 1 := ⟨k - 1, by omega⟩
    have hlt : i < l.length := by omega
    have er : rd l (i : Int) = l[i] := by
      unfold rd
      rw [Int.toNat_natCast, List.getD_eq_getElem?_getD, List.getElem?_eq_getElem hlt]
      rfl
    have e : wrap64 ((i : Int) + 1) = ((i + 1 : Nat) : Int) := by rw [w64 (by omega) (by omega)]; omega
    rw [List.drop_eq_getElem_cons hlt]
    by_cases hc : n = l[i]
    · refine ⟨(i : Int), ?_, ?_⟩
      · simp only [slices_Index_int_int.l0]
        rw [if_pos (by omega), if_pos (by omega), if_pos (by omega), er, if_pos hc]
      · exact ⟨fun _ => by rw [hc]; exact List.mem_cons_self, fun _ => by omega⟩
    · obtain ⟨r, h1, h2⟩ := ih (i + 1) k (by omega) (by omega)
      refine ⟨r, ?_, ?_⟩
      · simp only [slices_Index_int_int.l0]
        rw [if_pos (by omega), if_pos (by omega), if_pos (by omega), er, if_neg hc, e, h1]
      · rw [h2, List.mem_cons]
        exact ⟨Or.inr, fun h => h.resolve_left hc⟩
theorem hasI_at (l : List Int) (n : Int) (hl : l.length ≤ 1000000) (k : Nat) (hk : l.length < k) : impl_has.f k l n = some (decide (n ∈ l)) := by
  obtain ⟨r, h1, h2⟩ := idx_loop l n hl l.length 0 k (by omega) hk
  have h1' : slices_Index_int_int.f k l n = some r := h1
  simp only [impl_has.f, slices_Contains_int_int.f, h1', Option.bind_some]
  congr 1
  rw [decide_eq_decide, h2, List.drop_zero]
/-- What such a function hands back for valid legs. -/
def Gate (ls : L) (b : Bool) (w : World) (e : Ending) (w' : World) : Prop := ∃ g T cA cC, e = .returned (.tuple #[.pointer (some ⟨g, 0, none⟩), .bool b]) ∧ St ls.length T g (Pq (RR ls)) (Xq ls (RR ls)) (Bq (RR ls)) (.slice cA (closeL ls).length cC) w' ∧ Kd.R (Kd.int .i64) 3 w' w.heap.size (fun k => k ≠ g ∧ k ≠ T) (.slice cA (closeL ls).length cC) (closeL ls) ∧ Below w.heap.size w w'
theorem closeL_len (ls : L) : (closeL ls).length ≤ ls.length := closeTo_len ls (RR ls) ls.length
set_option maxHeartbeats 1000000 in
theorem closingLeg (A : Option Addr) (c : Nat) (ls : L) (leg : Int) (w : World) (hL : Sine.Laid w) (hr0 : Kd.C k56 w A ls.length ls) (hc : ls.length ≤ c) (hv : legsB ls = true) :
    Calls Tryd.prog 62 #[.slice A ls.length c, .int .i64 leg] w (Gate ls (decide (leg ∈ closeL ls)) w) := by
  have hv' := legsB_iff.mp hv
  have hn := hv'.2
  obtain ⟨K, hK⟩ := areLegs_ev ls (by omega)
  have HA := Aside0.mk (hK K (Nat.le_refl _))
  rw [hv] at HA
  have hcl := closeL_len ls
  have HH := Aside0.mk (hasI_at (closeL ls) leg (by omega) 20 (by omega))
  have HG := Aside0.mk hv'.1
  have HR := Aside0.mk hr0
  have HL := Aside0.mk hL
  have HB := Aside0.mk (Below.refl w.heap.size w)
  clear hK hr0 hL hv hv'
  go_enter Tryd.func62, Tryd.ntmps62
  go_wp2_with (first
    | (go_at_call 52; (with_reducible refine (impl_areLegs.calls K _ _ ls true _ ?s1 ?s2 HA.out).mono ?_); (case s1 => exact Kd.C_below HR.out (by (repeat (first | exact HB.out | exact Below.refl _ _ | apply below_alloc | apply pw_below_drewN | apply below_drew1)); done)); (case s2 => exact hc); rintro e w' ⟨rfl, hw⟩; replace HB := Aside0.mk (below_step (show Below w.heap.size w _ from by (repeat (first | exact HB.out | exact Below.refl _ _ | apply below_alloc | apply pw_below_drewN | apply below_drew1)); done) hw); clear hw)
    | ((go_at_call 53; (with_reducible refine (place _ c ls _ ?s1 ?s2 hc hn HG.out (RR ls) rfl).mono ?_); (case s1 => exact HL.out.keep (by (repeat (first | exact HB.out | exact Below.refl _ _ | apply below_alloc | apply pw_below_drewN | apply below_drew1)); done)); (case s2 => exact Kd.C_below HR.out (by (repeat (first | exact HB.out | exact Below.refl _ _ | apply below_alloc | apply pw_below_drewN | apply below_drew1)); done)); rintro e w' ⟨g, T, cl, rfl, hst, ho, hw⟩; have HO : Aside0 (Kd.R (Kd.int .i64) 3 w' w.heap.size (fun k => k ≠ g ∧ k ≠ T) cl (closeL ls)) := ⟨Kd.R_lower ho (below_size (show Below w.heap.size w _ from by (repeat (first | exact HB.out | exact Below.refl _ _ | apply below_alloc | apply pw_below_drewN | apply below_drew1)); done))⟩; replace HB := Aside0.mk (below_step (show Below w.heap.size w _ from by (repeat (first | exact HB.out | exact Below.refl _ _ | apply below_alloc | apply pw_below_drewN | apply below_drew1)); done) hw); have HS := Aside0.mk hst; clear hst ho hw; obtain ⟨cA, cC, ecl⟩ := Kd.R_slice HO.out; subst ecl); have cc := HS.out.cc)
    | (go_at_call 87; (with_reducible refine (impl_has.calls 20 _ _ (closeL ls) leg _ _ ?s1 ?s2 HH.out).mono ?_); (case s1 => exact (Kd.R_reads' HO.out).2.2); (case s2 => exact (Kd.R_reads' HO.out).2.1); rintro e w' ⟨rfl, ⟨nd, rfl⟩⟩))
  go_ret2
  exact ⟨g, T, cA, cC, rfl, HS.out.keep (pw_below_drewN (Below.refl _ _) _), Kd.R_drewN HO.out _, pw_below_drewN HB.out _⟩
theorem isStation_eq (x : Int) : impl_isStation.f x = some (decide (0 ≤ x ∧ x ≤ 7)) := by
  unfold impl_isStation.f
  rw [within_eq]; rfl
set_option maxHeartbeats 1000000 in
set_option maxRecDepth 100000 in
theorem placedLeg (A : Option Addr) (c : Nat) (ls : L) (i : Int) (w : World) (hL : Sine.Laid w) (hr0 : Kd.C k56 w A ls.length ls) (hc : ls.length ≤ c) (hv : legsB ls = true) (h0 : 0 ≤ i) (h1 : i < ls.length) :
    Calls Tryd.prog 58 #[.slice A ls.length c, .int .i64 i] w (Gate ls (Pq (RR ls) (leg ls i).f0.toNat) w) := by
  have hv' := legsB_iff.mp hv
  have hn := hv'.2
  obtain ⟨K, hK⟩ := areLegs_ev ls (by omega)
  have HA := Aside0.mk (hK K (Nat.le_refl _))
  rw [hv] at HA
  have HW : Aside0 (impl_within.f i 0 ((ls.length : Int) - 1) = some true) := ⟨by rw [within_eq, decide_eq_true (by omega)]⟩
  obtain ⟨k, rfl⟩ := Int.eq_ofNat_of_zero_le h0
  have hg := leg_good hv'.1 k (by omega)
  obtain ⟨a, ha⟩ := Int.eq_ofNat_of_zero_le hg.1.1
  have ha8 : (a : Int) < 8 := by have := hg.1.2; omega
  rw [ha, Int.toNat_natCast]
  obtain ⟨_, e2, h2, _⟩ := at_T56 hr0 (k : Int) h0 h1
  cases e2
  rw [Int.toNat_natCast, show rd_T56 ls (k : Int) = leg ls k from rfl, ha] at h2
  have H2 := Aside0.mk h2
  have HG := Aside0.mk hv'.1
  have HR := Aside0.mk hr0
  have HL := Aside0.mk hL
  have HB := Aside0.mk (Below.refl w.heap.size w)
  clear hK hr0 hL hv hv' hg ha h2
  go_enter Tryd.func58, Tryd.ntmps58
  go_wp2_with (first
    | (go_at_call 52; (with_reducible refine (impl_areLegs.calls K _ _ ls true _ ?s1 ?s2 HA.out).mono ?_); (case s1 => exact Kd.C_below HR.out (by (repeat (first | exact HB.out | exact Below.refl _ _ | apply below_alloc | apply pw_below_drewN | apply below_drew1)); done)); (case s2 => exact hc); rintro e w' ⟨rfl, hw⟩; replace HB := Aside0.mk (below_step (show Below w.heap.size w _ from by (repeat (first | exact HB.out | exact Below.refl _ _ | apply below_alloc | apply pw_below_drewN | apply below_drew1)); done) hw); clear hw)
    | (go_at_call 68; (with_reducible refine (impl_within.calls _ _ _ _ _ HW.out).mono ?_); rintro e w' ⟨rfl, ⟨nd, rfl⟩⟩; replace HB := Aside0.mk (pw_below_drewN HB.out nd))
    | ((go_at_call 53; (with_reducible refine (place _ c ls _ ?s1 ?s2 hc hn HG.out (RR ls) rfl).mono ?_); (case s1 => exact HL.out.keep (by (repeat (first | exact HB.out | exact Below.refl _ _ | apply below_alloc | apply pw_below_drewN | apply below_drew1)); done)); (case s2 => exact Kd.C_below HR.out (by (repeat (first | exact HB.out | exact Below.refl _ _ | apply below_alloc | apply pw_below_drewN | apply below_drew1)); done)); rintro e w' ⟨g, T, cl, rfl, hst, ho, hw⟩; have HO : Aside0 (Kd.R (Kd.int .i64) 3 w' w.heap.size (fun k => k ≠ g ∧ k ≠ T) cl (closeL ls)) := ⟨Kd.R_lower ho (below_size (show Below w.heap.size w _ from by (repeat (first | exact HB.out | exact Below.refl _ _ | apply below_alloc | apply pw_below_drewN | apply below_drew1)); done))⟩; replace HB := Aside0.mk (below_step (show Below w.heap.size w _ from by (repeat (first | exact HB.out | exact Below.refl _ _ | apply below_alloc | apply pw_below_drewN | apply below_drew1)); done) hw); have HS := Aside0.mk hst; clear hst ho hw; obtain ⟨cA, cC, ecl⟩ := Kd.R_slice HO.out; subst ecl); have h2 := Sine.keepc H2.out HB.out; have pa := HS.out.pb a (by omega)))
  go_quiet (fail)
  go_wp2
  go_ret2
  exact ⟨g, T, cA, cC, rfl, HS.out.keep (pw_below_drewN (Below.refl _ _) _), Kd.R_drewN HO.out _, pw_below_drewN HB.out _⟩
set_option maxHeartbeats 1000000 in
set_option maxRecDepth 100000 in
theorem placedAt (A : Option Addr) (c : Nat) (ls : L) (s : Int) (w : World) (hL : Sine.Laid w) (hr0 : Kd.C k56 w A ls.length ls) (hc : ls.length ≤ c) (hv : legsB ls = true) (h0 : 0 ≤ s) (h1 : s < 8) :
    Calls Tryd.prog 81 #[.slice A ls.length c, .int .i64 s] w (Gate ls (Pq (RR ls) s.toNat) w) := by
  have hv' := legsB_iff.mp hv
  have hn := hv'.2
  obtain ⟨K, hK⟩ := areLegs_ev ls (by omega)
  have HA := Aside0.mk (hK K (Nat.le_refl _))
  rw [hv] at HA
  have HW : Aside0 (impl_isStation.f s = some true) := ⟨by rw [isStation_eq, decide_eq_true (by omega)]⟩
  obtain ⟨a, rfl⟩ := Int.eq_ofNat_of_zero_le h0
  rw [Int.toNat_natCast]
  have HG := Aside0.mk hv'.1
  have HR := Aside0.mk hr0
  have HL := Aside0.mk hL
  have HB := Aside0.mk (Below.refl w.heap.size w)
  clear hK hr0 hL hv hv'
  go_enter Tryd.func81, Tryd.ntmps81
  go_wp2_with (first
    | (go_at_call 52; (with_reducible refine (impl_areLegs.calls K _ _ ls true _ ?s1 ?s2 HA.out).mono ?_); (case s1 => exact Kd.C_below HR.out (by (repeat (first | exact HB.out | exact Below.refl _ _ | apply below_alloc | apply pw_below_drewN | apply below_drew1)); done)); (case s2 => exact hc); rintro e w' ⟨rfl, hw⟩; replace HB := Aside0.mk (below_step (show Below w.heap.size w _ from by (repeat (first | exact HB.out | exact Below.refl _ _ | apply below_alloc | apply pw_below_drewN | apply below_drew1)); done) hw); clear hw)
    | (go_at_call 104; (with_reducible refine (impl_isStation.calls _ _ _ HW.out).mono ?_); rintro e w' ⟨rfl, ⟨nd, rfl⟩⟩; replace HB := Aside0.mk (pw_below_drewN HB.out nd))
    | ((go_at_call 53; (with_reducible refine (place _ c ls _ ?s1 ?s2 hc hn HG.out (RR ls) rfl).mono ?_); (case s1 => exact HL.out.keep (by (repeat (first | exact HB.out | exact Below.refl _ _ | apply below_alloc | apply pw_below_drewN | apply below_drew1)); done)); (case s2 => exact Kd.C_below HR.out (by (repeat (first | exact HB.out | exact Below.refl _ _ | apply below_alloc | apply pw_below_drewN | apply below_drew1)); done)); rintro e w' ⟨g, T, cl, rfl, hst, ho, hw⟩; have HO : Aside0 (Kd.R (Kd.int .i64) 3 w' w.heap.size (fun k => k ≠ g ∧ k ≠ T) cl (closeL ls)) := ⟨Kd.R_lower ho (below_size (show Below w.heap.size w _ from by (repeat (first | exact HB.out | exact Below.refl _ _ | apply below_alloc | apply pw_below_drewN | apply below_drew1)); done))⟩; replace HB := Aside0.mk (below_step (show Below w.heap.size w _ from by (repeat (first | exact HB.out | exact Below.refl _ _ | apply below_alloc | apply pw_below_drewN | apply below_drew1)); done) hw); have HS := Aside0.mk hst; clear hst ho hw; obtain ⟨cA, cC, ecl⟩ := Kd.R_slice HO.out; subst ecl); have pa := HS.out.pb a (by omega)))
  go_quiet (fail)
  go_wp2
  go_ret2
  exact ⟨g, T, cA, cC, rfl, HS.out.keep (pw_below_drewN (Below.refl _ _) _), Kd.R_drewN HO.out _, pw_below_drewN HB.out _⟩
end Go.Proofs.YtiooiefjcbooeaaDoor.Net

/- The walk of network.stations: the placed stations in ascending order. -/
namespace Go.Proofs.YtiooiefjcbooeaaDoor.Net
open Go Go.RowKit Go.Proofs.YtiooiefjcbooeaaDoorW.PrintWords Go.Proofs.YtiooiefjcbooeaaDoorW.PrintLast Go.Proofs.YtiooiefjcbooeaaDoorW.PrintMore Go.Proofs.YtiooiefjcbooeaaDoor.A Go.Proofs.YtiooiefjcbooeaaDoor.Plain
open Go.Proofs.YtiooiefjcbooeaaDoor.Tree (verts legs W)
open Go.Proofs.YtiooiefjcbooeaaDoor.Grow (Q)
set_option linter.unusedVariables false
set_option linter.unusedSimpArgs false
def selTo (p : Nat → Bool) : Nat → List Int
  | 0 => []
  | k + 1 => if p k = true then selTo p k ++ [(k : Int)] else selTo p k
theorem selTo_len (p : Nat → Bool) : ∀ k, (selTo p k).length ≤ k
  | 0 => by simp [selTo]
  | k + 1 => by
    have := selTo_len p k
    unfold selTo
    split
    · rw [List.length_append, List.length_singleton]; omega
    · omega
theorem mem_selTo (p : Nat → Bool) : ∀ (n : Nat) (i : Int), i ∈ selTo p n ↔ ∃ k : Nat, i = k ∧ k < n ∧ p k = true
  | 0, i => by simp [selTo]
  | n + 1, i => by
    have ih := mem_selTo p n i
    unfold selTo
    split
    · rename_i c
      rw [List.mem_append, ih, List.mem_singleton]
      constructor
      · rintro (⟨k, h1, h2, h3⟩ | rfl)
        · exact ⟨k, h1, by omega, h3⟩
        · exact ⟨n, rfl, by omega, c⟩
      · rintro ⟨k, h1, h2, h3⟩
        by_cases e : k = n
        · exact Or.inr (by rw [h1, e])
        · exact Or.inl ⟨k, h1, by omega, h3⟩
    · rename_i c
      rw [ih]
      constructor
      · rintro ⟨k, h1, h2, h3⟩
        exact ⟨k, h1, by omega, h3⟩
      · rintro ⟨k, h1, h2, h3⟩
        by_cases e : k = n
        · exact absurd (e ▸ h3) c
        · exact ⟨k, h1, by omega, h3⟩
def SelPost (l : List Int) (w : World) (e : Ending) (w' : World) : Prop := ∃ v, e = .returned v ∧ Kd.R (Kd.int .i64) 3 w' w.heap.size (fun b => w.heap.size ≤ b) v l ∧ Below w.heap.size w w'
end Go.Proofs.YtiooiefjcbooeaaDoor.Net

/- The walk of network.placedLegs: the legs with placed ends in ascending order. -/
namespace Go.Proofs.YtiooiefjcbooeaaDoor.Net
open Go Go.RowKit Go.Proofs.YtiooiefjcbooeaaDoorW.PrintWords Go.Proofs.YtiooiefjcbooeaaDoorW.PrintLast Go.Proofs.YtiooiefjcbooeaaDoorW.PrintMore Go.Proofs.YtiooiefjcbooeaaDoor.A Go.Proofs.YtiooiefjcbooeaaDoor.Plain
open Go.Proofs.YtiooiefjcbooeaaDoor.Tree (verts legs W)
open Go.Proofs.YtiooiefjcbooeaaDoor.Grow (Q)
set_option linter.unusedVariables false
set_option linter.unusedSimpArgs false
/-- The legs whose first end is placed, in ascending order. -/
def plcL (ls : L) (R : Q) (n : Nat) : List Int := selTo (fun k => Pq R (leg ls k).f0.toNat) n
set_option maxHeartbeats 4000000 in
set_option maxRecDepth 100000 in
theorem placedLegsW {T g : Nat} {B : Nat → Bool} {cl : Value} {R : Q} {X : Nat → S34} (A : Option Addr) (c : Nat) (ls : L) (w : World) (hS : St ls.length T g (Pq R) X B cl w) (hgw : g < w.heap.size) (hTw : T < w.heap.size) (hr0 : Kd.C k56 w A ls.length ls) (hc : ls.length ≤ c) (hn : ls.length ≤ 12) (hg : ∀ x ∈ ls, Good x) :
    Calls Tryd.prog 71 #[.pointer (some ⟨g, 0, none⟩), .slice A ls.length c] w (SelPost (plcL ls R ls.length) w) := by
  have HB := Aside0.mk (Below.refl w.heap.size w)
  have HR := Aside0.mk hr0
  have HG := Aside0.mk hg
  have HS0 := Aside0.mk hS
  have HT : Aside0 (∀ k, (plcL ls R k).length ≤ k) := ⟨selTo_len _⟩
  clear hr0 hg hS
  go_enter Tryd.func71, Tryd.ntmps71
  go_wp2
  go_loopw [5, 10] (fun v5 v10 w' => ∃ (k : Nat), k ≤ ls.length ∧ v10 = .int .i64 k ∧ Aside0 (Kd.R (Kd.int .i64) 3 w' w.heap.size (fun b => w.heap.size ≤ b) v5 (plcL ls R k)) ∧ Aside0 (St ls.length T g (Pq R) X B cl w') ∧ Aside0 (Below w.heap.size w w')) (fun _ v10 _ => ls.length - (intOf v10).toNat)
  case atStart => exact ⟨0, by omega, rfl, ⟨Kd.R_nil _ _ _ _ _⟩, HS0, HB⟩
  case round =>
    obtain ⟨k, hk, rfl, HV, HS, HB2⟩ := hrel
    clear HB HS0
    have HB := HB2
    clear HB2
    obtain ⟨vA, vC, ev⟩ := Kd.R_slice HV.out
    subst ev
    have HTL := Aside0.mk (HT.out k)
    by_cases hlt : k < ls.length
    · obtain ⟨_, e2, h0, h1, h2, h3, h4⟩ := at_T56 HR.out (k : Int) (by omega) (by omega)
      cases e2
      have HX : Aside0 (Good (leg ls (k : Int))) := ⟨HG.out _ (leg_mem hlt)⟩
      have ek : rd_T56 ls (k : Int) = leg ls k := rfl
      rw [Int.toNat_natCast] at h0 h1 h2 h3 h4
      rw [ek] at h0 h1 h2 h3 h4
      have HC := Aside0.mk (show plcL ls R (k + 1) = if Pq R (leg ls k).f0.toNat = true then plcL ls R k ++ [(k : Int)] else plcL ls R k from rfl)
      generalize leg ls (k : Int) = x at *
      obtain ⟨a, ha⟩ := Int.eq_ofNat_of_zero_le HX.out.1.1
      have ha8 : (a : Int) < 8 := by have := HX.out.1.2; omega
      rw [ha] at h0
      rw [ha, Int.toNat_natCast] at HC
      replace h0 := Sine.keepc h0 HB.out
      replace h1 := Sine.keepc h1 HB.out
      replace h2 := Sine.keepc h2 HB.out
      replace h3 := Sine.keepc h3 HB.out
      replace h4 := Sine.keepc h4 HB.out
      go_wp2
      have B1 := below_alloc (Below.refl wr.heap.size wr) (Obj.cells #[Value.int IntKind.i64 ↑a, Value.int IntKind.i64 x.f1, Value.int IntKind.i64 x.f2, Value.int IntKind.i64 x.f3, Value.int IntKind.i64 x.f4] 56)
      replace HB := Aside0.mk (below_step HB.out B1)
      replace HS := Aside0.mk (HS.out.keep B1)
      replace HV := Aside0.mk (Kd.R_alloc HV.out (Obj.cells #[Value.int IntKind.i64 ↑a, Value.int IntKind.i64 x.f1, Value.int IntKind.i64 x.f2, Value.int IntKind.i64 x.f3, Value.int IntKind.i64 x.f4] 56))
      clear B1 h0 h1 h2 h3 h4
      have h0 : (wr.alloc (Obj.cells #[Value.int IntKind.i64 ↑a, Value.int IntKind.i64 x.f1, Value.int IntKind.i64 x.f2, Value.int IntKind.i64 x.f3, Value.int IntKind.i64 x.f4] 56)).cell? ⟨wr.heap.size, 0, none⟩ = some (.int .i64 (a : Int)) := by go_simp
      generalize wr.alloc (Obj.cells #[Value.int IntKind.i64 ↑a, Value.int IntKind.i64 x.f1, Value.int IntKind.i64 x.f2, Value.int IntKind.i64 x.f3, Value.int IntKind.i64 x.f4] 56) = W1 at *
      generalize wr.heap.size = X at *
      have pa := HS.out.pb a (by omega)
      have k0 : (0 : Int) ≤ (k : Int) := by omega
      have k1 : (k : Int) < (ls.length : Int) := by omega
      have hTs := HS.out.ge
      have hgs : g < W1.heap.size := World.block_lt_of_cell? _ _ HS.out.tc
      by_cases hpa : Pq R a = true
      · rw [hpa] at pa
        rw [if_pos hpa] at HC
        go_quiet (fail)
        go_wp2_with ((with_reducible refine gate_builtin (b := .append) (xs := #[.tmp 22, .tmp 24]) rfl ?_); at_builtin; refine Kd.R_append (Kd.int .i64) (w0 := w) w.heap.size rfl (.tmp 22) (.tmp 24) 38 3 (.int .i64 0) 8 rfl Tryd.underlying38 info3 rfl (by decide) (by omega) (.slice vA (plcL ls R k).length vC) (plcL ls R k) (k : Int) [.int .i64 (k : Int)] (fun b => w.heap.size ≤ b) (fun _ => False) rfl rfl ?aP (fun _ hk => hk.elim) ?aF ?aO ?aB ?aS ?aL ?_; (case aP => exact rfl); (case aF => intro b hb; have := below_size HB.out; simp only [World.heap_drewN] at hb; omega); (case aO => exact Kd.R_drewN HV.out _); (case aB => exact pw_below_drewN HB.out _); (case aS => simp only [World.heap_drewN]; exact below_size HB.out); (case aL => have := HTL.out; omega)
                     intro v_ w_ ho hb hg hat
                     have HP1 := Aside0.mk ho
                     have HP2 := Aside0.mk hb
                     have HS5 := Aside0.mk ((HS.out.keep (W := W1.drewN nq) (pw_below_drewN (Below.refl _ _) _)).blocks (W := w_) (hg.block _ (by simp only [World.heap_drewN]; omega) (fun e => by have := HV.out.1 _ e.symm; omega)) (hg.block _ (by simp only [World.heap_drewN]; omega) (fun e => by have := HV.out.1 _ e.symm; omega)) hg.size))
        exact ⟨⟨k + 1, by omega, by go_num, by rw [HC.out]; exact HP1, HS5, HP2⟩, by simp [intOf]; omega⟩
      · have hpa' : Pq R a = false := by simpa using hpa
        rw [hpa'] at pa
        rw [if_neg hpa] at HC
        go_quiet (fail)
        go_wp2
        exact ⟨⟨k + 1, by omega, by go_num, ⟨by rw [HC.out]; exact Kd.R_drewN HV.out _⟩, ⟨HS.out.keep (pw_below_drewN (Below.refl _ _) _)⟩, ⟨pw_below_drewN HB.out _⟩⟩, by simp [intOf]; omega⟩
    · obtain rfl : k = ls.length := by omega
      go_wp2
      exact bodyPost_ret (v := .slice vA (plcL ls R ls.length).length vC) (by simp [results, Tryd.results71, go_sem]) rfl ⟨_, rfl, HV.out, HB.out⟩
end Go.Proofs.YtiooiefjcbooeaaDoor.Net

/- The loop of a closing leg, as the reference finds it: the way over the tree legs, and the leg. -/
namespace Go.Proofs.YtiooiefjcbooeaaDoor.Net
open Go.RowKit Go.Proofs.YtiooiefjcbooeaaDoorW.PrintWords Go.Proofs.YtiooiefjcbooeaaDoorW.PrintLast Go.Proofs.YtiooiefjcbooeaaDoorW.PrintMore Go.Proofs.YtiooiefjcbooeaaDoor.A Go.Proofs.YtiooiefjcbooeaaDoor.Plain
open Go.Proofs.YtiooiefjcbooeaaDoor.Tree (verts legs W)
open Go.Proofs.YtiooiefjcbooeaaDoor.Dfs (dfs try_)
open Go.Proofs.YtiooiefjcbooeaaDoor.Grow (Q sweep grow)
set_option linter.unusedVariables false
set_option linter.unusedSimpArgs false
theorem rd_at (l : List Int) (i : Nat) (h : i < l.length) : rd l (i : Int) = l[i] := by
  unfold rd
  rw [Int.toNat_natCast, List.getD_eq_getElem?_getD, List.getElem?_eq_getElem h]
  rfl
section
variable (ls : L) (hg : ∀ x ∈ ls, Good x) (tree : List Int) (ht : ∀ i ∈ tree, 0 ≤ i ∧ i < (ls.length : Int)) (hl : tree.length ≤ 1000) (dst : Int)
include hg ht hl
end
/-! ### Places without wraps -/
end Go.Proofs.YtiooiefjcbooeaaDoor.Net

/- The misclosure of a loop is the error of its closing leg, in plain. -/
namespace Go.Proofs.YtiooiefjcbooeaaDoor.Net
open Go.RowKit Go.Proofs.YtiooiefjcbooeaaDoorW.PrintWords Go.Proofs.YtiooiefjcbooeaaDoorW.PrintLast Go.Proofs.YtiooiefjcbooeaaDoorW.PrintMore Go.Proofs.YtiooiefjcbooeaaDoor.A Go.Proofs.YtiooiefjcbooeaaDoor.Plain
open Go.Proofs.YtiooiefjcbooeaaDoor.Tree (verts legs W)
open Go.Proofs.YtiooiefjcbooeaaDoor.Grow (Q sweep grow)
set_option linter.unusedVariables false
set_option linter.unusedSimpArgs false
end Go.Proofs.YtiooiefjcbooeaaDoor.Net

/- The residual of a leg, walked; the search for a coordinate out of bounds. -/
namespace Go.Proofs.YtiooiefjcbooeaaDoor.Net
open Go Go.RowKit Go.Proofs.YtiooiefjcbooeaaDoorW.PrintWords Go.Proofs.YtiooiefjcbooeaaDoorW.PrintLast Go.Proofs.YtiooiefjcbooeaaDoorW.PrintMore Go.Proofs.YtiooiefjcbooeaaDoor.A Go.Proofs.YtiooiefjcbooeaaDoor.Plain
set_option linter.unusedVariables false
set_option linter.unusedSimpArgs false
/-! ### A coordinate of a shift -/
def onM (s : S34) (axis : Int) : Int := if axis = 0 then s.f0 else if axis = 1 then s.f1 else s.f2
theorem run_idx3 (w : World) (v : Array Value) (k : Nat) (i : Int) (hi : i = (k : Int)) (h8 : k < 3) (x : Value) (hx : v[k]? = some x) : (Instr.index 108 (.agg v) (.int .i64 i)).run Tryd.prog w = .ok x w := by
  subst hi
  have hn : (0 : Int) ≤ (k : Int) ∧ (k : Int) < ((3 : Nat) : Int) := by omega
  simp [Instr.index, run_underlying Tryd.underlying108, asIntOf, hn, go_sem]
  rw [if_pos h8, hx]
  rfl
set_option maxHeartbeats 1000000 in
set_option maxRecDepth 100000 in
theorem onW (s : S34) (axis : Int) (h0 : 0 ≤ axis) (h2 : axis ≤ 2) (w : World) :
    Calls Tryd.prog 98 #[.agg #[.int .i64 s.f0, .int .i64 s.f1, .int .i64 s.f2], .int .i64 axis] w fun e w' => e = .returned (.int .i64 (onM s axis)) ∧ Below w.heap.size w w' := by
  have HB := Aside0.mk (Below.refl w.heap.size w)
  have hc : axis = 0 ∨ axis = 1 ∨ axis = 2 := by omega
  rcases hc with rfl | rfl | rfl
  · go_enter Tryd.func98, Tryd.ntmps98
    go_wp2
    rw [run_idx3 _ _ 0 0 rfl (by decide) _ rfl]
    go_wp2
    go_ret
    exact ⟨rfl, by repeat (first | exact HB.out | apply below_alloc | apply below_drew1)⟩
  · go_enter Tryd.func98, Tryd.ntmps98
    go_wp2
    rw [run_idx3 _ _ 1 1 rfl (by decide) _ rfl]
    go_wp2
    go_ret
    exact ⟨rfl, by repeat (first | exact HB.out | apply below_alloc | apply below_drew1)⟩
  · go_enter Tryd.func98, Tryd.ntmps98
    go_wp2
    rw [run_idx3 _ _ 2 2 rfl (by decide) _ rfl]
    go_wp2
    go_ret
    exact ⟨rfl, by repeat (first | exact HB.out | apply below_alloc | apply below_drew1)⟩
/-! ### The residual -/
def resM (x : S56) (axis : Int) (cs : List Int) (den : Int) : Int := wrap64 (wrap64 (wrap64 (onM (shift x) axis * den) - rd cs x.f1) + rd cs x.f0)
set_option maxHeartbeats 2000000 in
set_option maxRecDepth 100000 in
theorem residualW (A2 : Option Addr) (c2 : Nat) (cs : List Int) (x : S56) (axis den : Int) (w : World) (hL : Sine.Laid w) (hr2 : Kd.C (Kd.int .i64) w A2 cs.length cs) (h8 : cs.length = 8) (hx : Good x) (h0 : 0 ≤ axis) (h2 : axis ≤ 2) :
    Calls Tryd.prog 72 #[.agg #[.int .i64 x.f0, .int .i64 x.f1, .int .i64 x.f2, .int .i64 x.f3, .int .i64 x.f4], .int .i64 axis, .slice A2 cs.length c2, .int .i64 den] w fun e w' => e = .returned (.int .i64 (resM x axis cs den)) ∧ Below w.heap.size w w' := by
  have HLS := Aside0.mk (fun W (hl : Sine.Laid W) => legShift x W hl hx)
  have HON := Aside0.mk (fun W => onW (shift x) axis h0 h2 W)
  obtain ⟨⟨a0, a8⟩, ⟨d0, d8⟩, had, _⟩ := hx
  obtain ⟨ad, e1, p0⟩ := Kd.at_int hr2 x.f0 (by omega) (by omega)
  obtain ⟨ad', e2, p1⟩ := Kd.at_int hr2 x.f1 (by omega) (by omega)
  subst e1
  cases e2
  have k0 : x.f0 < (cs.length : Int) := by omega
  have k1 : x.f1 < (cs.length : Int) := by omega
  unfold resM
  obtain ⟨sv, hsv⟩ : ∃ sv, sv = onM (shift x) axis := ⟨_, rfl⟩
  rw [← hsv]
  simp only [← hsv] at HON
  have HL := Aside0.mk hL
  have HB := Aside0.mk (below_alloc (Below.refl w.heap.size w) (Obj.cells #[Value.int IntKind.i64 x.f0, Value.int IntKind.i64 x.f1, Value.int IntKind.i64 x.f2, Value.int IntKind.i64 x.f3, Value.int IntKind.i64 x.f4] 56))
  clear hr2 hL hsv
  go_enter Tryd.func72, Tryd.ntmps72
  go_wp2
  have h0 : (w.alloc (Obj.cells #[Value.int IntKind.i64 x.f0, Value.int IntKind.i64 x.f1, Value.int IntKind.i64 x.f2, Value.int IntKind.i64 x.f3, Value.int IntKind.i64 x.f4] 56)).cell? ⟨w.heap.size, 0, none⟩ = some (.int .i64 x.f0) := by go_simp
  have h1 : (w.alloc (Obj.cells #[Value.int IntKind.i64 x.f0, Value.int IntKind.i64 x.f1, Value.int IntKind.i64 x.f2, Value.int IntKind.i64 x.f3, Value.int IntKind.i64 x.f4] 56)).cell? ⟨w.heap.size, 1, none⟩ = some (.int .i64 x.f1) := by go_simp
  have h2 : (w.alloc (Obj.cells #[Value.int IntKind.i64 x.f0, Value.int IntKind.i64 x.f1, Value.int IntKind.i64 x.f2, Value.int IntKind.i64 x.f3, Value.int IntKind.i64 x.f4] 56)).cell? ⟨w.heap.size, 2, none⟩ = some (.int .i64 x.f2) := by go_simp
  have h3 : (w.alloc (Obj.cells #[Value.int IntKind.i64 x.f0, Value.int IntKind.i64 x.f1, Value.int IntKind.i64 x.f2, Value.int IntKind.i64 x.f3, Value.int IntKind.i64 x.f4] 56)).cell? ⟨w.heap.size, 3, none⟩ = some (.int .i64 x.f3) := by go_simp
  have h4 : (w.alloc (Obj.cells #[Value.int IntKind.i64 x.f0, Value.int IntKind.i64 x.f1, Value.int IntKind.i64 x.f2, Value.int IntKind.i64 x.f3, Value.int IntKind.i64 x.f4] 56)).cell? ⟨w.heap.size, 4, none⟩ = some (.int .i64 x.f4) := by go_simp
  replace p0 := Sine.keepc p0 HB.out
  replace p1 := Sine.keepc p1 HB.out
  generalize (w.alloc (Obj.cells #[Value.int IntKind.i64 x.f0, Value.int IntKind.i64 x.f1, Value.int IntKind.i64 x.f2, Value.int IntKind.i64 x.f3, Value.int IntKind.i64 x.f4] 56)) = W1 at *
  go_region_held3 (fun w' => w'.cell? ⟨w.heap.size, 0, none⟩ = some (.int .i64 x.f0) ∧ w'.cell? ⟨w.heap.size, 1, none⟩ = some (.int .i64 x.f1) ∧ w'.cell? ⟨w.heap.size, 2, none⟩ = some (.int .i64 x.f2) ∧ w'.cell? ⟨w.heap.size, 3, none⟩ = some (.int .i64 x.f3) ∧ w'.cell? ⟨w.heap.size, 4, none⟩ = some (.int .i64 x.f4) ∧ w'.cell? (ad.add x.f0.toNat) = some (.int .i64 (rd cs x.f0)) ∧ w'.cell? (ad.add x.f1.toNat) = some (.int .i64 (rd cs x.f1)))
    ((repeat' refine And.intro ?_ ?_) <;> exact Sine.keepc (w := W1) (by assumption) (by (repeat (first | exact Below.refl _ _ | apply pw_below_drewN | apply below_drew1 | exact HB.out | refine below_step ?_ (by assumption))); done))
    (first
      | (go_at_call 92; (with_reducible refine (HLS.out _ ?s1).mono ?_); (case s1 => exact HL.out.keep (by (repeat (first | exact Below.refl _ _ | apply pw_below_drewN | apply below_drew1 | exact HB.out | refine below_step ?_ (by assumption))); done)); rintro e w' ⟨rfl, hw1⟩)
      | (go_at_call 98; (with_reducible refine (HON.out _).mono ?_); rintro e w' ⟨rfl, hw2⟩
         have HB3 : Aside0 (Below w.heap.size w w') := ⟨by (repeat (first | exact Below.refl _ _ | apply pw_below_drewN | apply below_drew1 | exact HB.out | refine below_step ?_ (by assumption))); done⟩))
  go_wp2
  go_ret
  exact ⟨by simp [i64_w], by repeat (first | exact HB3.out | apply below_drew1)⟩
/-! ### A coordinate out of bounds -/
def badB (x : Int) : Bool := !decide (-100000000 ≤ x ∧ x ≤ 100000000)
theorem balUse (x : Int) (w : World) : Calls Tryd.prog 70 #[.int .i64 x] w fun e w' => e = .returned (.bool (badB x)) ∧ Below w.heap.size w w' := by
  have HB := Aside0.mk (Below.refl w.heap.size w)
  have HW : Aside0 (impl_within.f x (-100000000) 100000000 = some (decide (-100000000 ≤ x ∧ x ≤ 100000000))) := ⟨within_eq _ _ _⟩
  unfold badB
  go_enter Tryd.func70, Tryd.ntmps70
  go_wp2_with (go_at_call 68; (with_reducible refine (impl_within.calls _ _ _ _ _ HW.out).mono ?_); rintro e w' ⟨rfl, ⟨nd, rfl⟩⟩; replace HB := Aside0.mk (pw_below_drewN HB.out nd))
  go_ret
  exact ⟨by simp, HB.out⟩
set_option maxHeartbeats 1000000 in
set_option maxRecDepth 100000 in
theorem indexBal (A2 : Option Addr) (c2 : Nat) (cs : List Int) (w : World) (hr2 : Kd.C (Kd.int .i64) w A2 cs.length cs) (h8 : cs.length = 8) :
    Calls Tryd.prog 97 #[.slice A2 cs.length c2, .func (Fn.func 70) #[] #[]] w fun e w' => ∃ r, e = .returned (.int .i64 r) ∧ decide (r ≥ 0) = cs.any badB ∧ Below w.heap.size w w' := by
  have HR := Aside0.mk hr2
  have H8 := Aside0.mk h8
  have HB := Aside0.mk (Below.refl w.heap.size w)
  have HAny : Aside0 (∀ j, j < cs.length → badB (cs.getD j 0) = true → cs.any badB = true) := ⟨fun j hj h => by
    rw [List.getD_eq_getElem?_getD, List.getElem?_eq_getElem hj] at h
    exact List.any_eq_true.mpr ⟨_, List.getElem_mem hj, h⟩⟩
  have HNo : Aside0 ((∀ i, i < cs.length → badB (cs.getD i 0) = false) → cs.any badB = false) := ⟨fun h => by
    rw [List.any_eq_false]
    intro x hx
    obtain ⟨j, hj, rfl⟩ := List.getElem_of_mem hx
    have := h j hj
    rw [List.getD_eq_getElem?_getD, List.getElem?_eq_getElem hj] at this
    simpa using this⟩
  clear hr2 h8
  go_enter Tryd.func97, Tryd.ntmps97
  go_wp2
  go_loopw [8] (fun v8 w' => ∃ (j : Nat), j ≤ cs.length ∧ v8 = .int .i64 j ∧ Aside0 (∀ i, i < j → badB (cs.getD i 0) = false) ∧ Aside0 (Below w.heap.size w w')) (fun v8 _ => cs.length - (intOf v8).toNat)
  case atStart => exact ⟨0, Nat.zero_le _, rfl, ⟨fun i hi => by omega⟩, HB⟩
  case round =>
    obtain ⟨j, hj, rfl, HI, HB2⟩ := hrel
    clear HB
    have HB := HB2
    clear HB2
    by_cases hlt : j < cs.length
    · have hcl : cs.length < 100 := by have := H8.out; omega
      obtain ⟨ad, e1, h1⟩ := Kd.at_int (Kd.C_below HR.out HB.out) (j : Int) (by omega) (by omega)
      subst e1
      rw [rd_at _ j hlt, Int.toNat_natCast] at h1
      have hgd : cs.getD j 0 = cs[j] := by rw [List.getD_eq_getElem?_getD, List.getElem?_eq_getElem hlt]; rfl
      rw [← hgd] at h1
      have HA := Aside0.mk (HAny.out j hlt)
      clear hgd
      generalize hx : cs.getD j 0 = x at *
      have HX := Aside0.mk hx
      clear hx
      cases hq : badB x
      · go_wp2_with (go_at_call 70; have hq2 := balUse x wr; (with_reducible refine hq2.mono ?_); clear hq2; rw [hq]; rintro e w' ⟨rfl, hw⟩; replace HB := Aside0.mk (below_step HB.out hw); clear hw)
        exact ⟨⟨j + 1, hlt, by go_num, ⟨fun i hi => by
          by_cases c : i = j
          · rw [c, HX.out]; exact hq
          · exact HI.out i (by omega)⟩, HB⟩, by simp [intOf]; omega⟩
      · go_wp2_with (go_at_call 70; have hq2 := balUse x wr; (with_reducible refine hq2.mono ?_); clear hq2; rw [hq]; rintro e w' ⟨rfl, hw⟩; replace HB := Aside0.mk (below_step HB.out hw); clear hw)
        go_ret
        exact ⟨(j : Int), rfl, by rw [HA.out hq]; exact decide_eq_true (by omega), HB.out⟩
    · have hno := HNo.out (fun i hi => HI.out i (by omega))
      go_wp2
      go_ret
      exact ⟨-1, rfl, by rw [hno]; rfl, HB.out⟩
set_option maxHeartbeats 1000000 in
theorem containsBal (A2 : Option Addr) (c2 : Nat) (cs : List Int) (w : World) (hr2 : Kd.C (Kd.int .i64) w A2 cs.length cs) (h8 : cs.length = 8) :
    Calls Tryd.prog 69 #[.slice A2 cs.length c2, .func (Fn.func 70) #[] #[]] w fun e w' => e = .returned (.bool (cs.any badB)) ∧ Below w.heap.size w w' := by
  have HR := Aside0.mk hr2
  have H8 := Aside0.mk h8
  have HB := Aside0.mk (Below.refl w.heap.size w)
  clear hr2 h8
  go_enter Tryd.func69, Tryd.ntmps69
  go_wp2_with (go_at_call 97; (with_reducible refine (indexBal A2 c2 cs _ ?s1 H8.out).mono ?_); (case s1 => exact Kd.C_below HR.out (by (repeat (first | exact HB.out | exact Below.refl _ _ | apply below_alloc | apply pw_below_drewN | apply below_drew1)); done)); rintro e w' ⟨r, rfl, hr, hw⟩; replace HB := Aside0.mk (below_step (show Below w.heap.size w _ from by (repeat (first | exact HB.out | exact Below.refl _ _ | apply below_alloc | apply pw_below_drewN | apply below_drew1)); done) hw); clear hw)
  go_ret
  exact ⟨by rw [← hr]; rfl, HB.out⟩
end Go.Proofs.YtiooiefjcbooeaaDoor.Net

/- Balanced coordinates, in plain: the reference's answer. -/
namespace Go.Proofs.YtiooiefjcbooeaaDoor.Net
open Go.RowKit Go.Proofs.YtiooiefjcbooeaaDoorW.PrintWords Go.Proofs.YtiooiefjcbooeaaDoorW.PrintLast Go.Proofs.YtiooiefjcbooeaaDoorW.PrintMore Go.Proofs.YtiooiefjcbooeaaDoor.A Go.Proofs.YtiooiefjcbooeaaDoor.Plain
set_option linter.unusedVariables false
set_option linter.unusedSimpArgs false
theorem in_eq (x a b : Int) : spec_l1In.f x a b = some (decide (a ≤ x ∧ x ≤ b)) := by
  unfold spec_l1In.f
  by_cases h : a ≤ x
  · rw [if_pos h]; congr 1; rw [decide_eq_decide]; omega
  · rw [if_neg h, decide_eq_false (fun c => h c.1)]
theorem measure_eq (x : S56) (h : Good x) (axis : Int) (h0 : 0 ≤ axis) (h2 : axis ≤ 2) : spec_l9Measure.f x.f0 x.f1 x.f2 x.f3 x.f4 axis = some (onM (shift x) axis) := by
  unfold spec_l9Measure.f
  rw [shift_eq x h, Option.bind_some, Option.bind_some, if_pos h0, if_pos (by show axis < 3; omega)]
  have hc : axis = 0 ∨ axis = 1 ∨ axis = 2 := by omega
  rcases hc with rfl | rfl | rfl <;> rfl
theorem rest_eq (x : S56) (h : Good x) (axis : Int) (h0 : 0 ≤ axis) (h2 : axis ≤ 2) (cs : List Int) (h8 : cs.length = 8) (den : Int) : spec_l9Rest.f x.f0 x.f1 x.f2 x.f3 x.f4 axis cs den = some (resM x axis cs den) := by
  unfold spec_l9Rest.f
  rw [measure_eq x h axis h0 h2, Option.bind_some]
  obtain ⟨⟨a0, a8⟩, ⟨d0, d8⟩, _⟩ := h
  rw [if_pos (by omega), if_pos (by omega), if_pos (by omega), if_pos (by omega)]
  rfl
theorem l9legs_loop (ls : L) (hn : ls.length ≤ 12) (hg : ∀ x ∈ ls, Good x) (q : Grow.Q) (h1 : (plL q).length ≤ 8) : ∀ (d i : Nat), i + d = ls.length → Ev (fun k => spec_l9Legs.l0 k ls (plL q) (plcL ls q i) (i : Int)) (plcL ls q ls.length) := by
  intro d
  induction d with
  | zero =>
    intro i hi
    obtain rfl : i = ls.length := by omega
    refine Ev.step (f := fun _ => some (plcL ls q ls.length)) (fun k => ?_) (Ev.now _)
    simp only [spec_l9Legs.l0]
    rw [if_neg (by omega)]
  | succ d ih =>
    intro i hi
    have h := ih (i + 1) (by omega)
    have hlen := selTo_len (fun k => Pq q (leg ls k).f0.toNat) i
    have hgood := leg_good hg i (by omega)
    have hc : plcL ls q (i + 1) = if decide ((leg ls i).f0 ∈ plL q) = true then plcL ls q i ++ [(i : Int)] else plcL ls q i := by
      show (if Pq q (leg ls i).f0.toNat = true then _ else _) = _
      rw [Pq_eq, Int.toNat_of_nonneg hgood.1.1]
      rfl
    rw [hc] at h
    refine Ev.step (f := fun k => (spec_l1Has.f k (plL q) (leg ls i).f0).bind fun t440 => (if t440 = true then (if (plcL ls q i).length < 17592186044416 then (spec_l9Legs.l0 k ls (plL q) (plcL ls q i ++ [(i : Int)]) ((i + 1 : Nat) : Int)) else (none)) else (spec_l9Legs.l0 k ls (plL q) (plcL ls q i) ((i + 1 : Nat) : Int)))) (fun k => ?_) ?_
    · simp only [spec_l9Legs.l0]
      rw [if_pos (by omega), if_pos (by omega), w64 (by omega) (by omega)]
      rfl
    · refine Ev.bind (has_ev _ _ (by omega)) ?_
      by_cases c : (leg ls i).f0 ∈ plL q
      · rw [if_pos (decide_eq_true c)] at h
        exact Ev.pos (decide_eq_true c) (Ev.pos (show (plcL ls q i).length < 17592186044416 from by unfold plcL; omega) h)
      · rw [if_neg (by rw [decide_eq_false c]; decide)] at h
        exact Ev.neg (by rw [decide_eq_false c]; decide) h
theorem l9Legs_ev {ls : L} (hn : ls.length ≤ 12) (hg : ∀ x ∈ ls, Good x) : Ev (fun k => spec_l9Legs.f k ls) (plcL ls (RR ls) ls.length) := by
  refine Ev.bind (place_ev ls hn hg (RR ls) rfl) ?_
  exact l9legs_loop ls hn hg (RR ls) (plL_small hg) ls.length 0 (by omega)
/-- One leg's residual is added at its one end and taken off at its other end. -/
def stepS (ls : L) (axis : Int) (cs : List Int) (den : Int) (acc : List Int) (i : Int) : List Int :=
  let y := acc.set (leg ls i).f1.toNat (wrap64 (rd acc (leg ls i).f1 + resM (leg ls i) axis cs den))
  y.set (leg ls i).f0.toNat (wrap64 (rd y (leg ls i).f0 - resM (leg ls i) axis cs den))
def sumS (ls : L) (axis : Int) (cs : List Int) (den : Int) (l : List Int) : List Int := l.foldl (stepS ls axis cs den) (List.replicate 8 0)
theorem stepS_len (ls : L) (axis : Int) (cs : List Int) (den : Int) (acc : List Int) (i : Int) : (stepS ls axis cs den acc i).length = acc.length := by
  unfold stepS; simp
theorem sumS_len (ls : L) (axis : Int) (cs : List Int) (den : Int) (l : List Int) : (sumS ls axis cs den l).length = 8 := by
  unfold sumS
  have h : ∀ (l : List Int) (acc : List Int), (l.foldl (stepS ls axis cs den) acc).length = acc.length := by
    intro l
    induction l with
    | nil => intro acc; rfl
    | cons i l ih => intro acc; rw [List.foldl_cons, ih, stepS_len]
  rw [h]; rfl
theorem sumS_snoc (ls : L) (axis : Int) (cs : List Int) (den : Int) (l : List Int) (i : Int) : sumS ls axis cs den (l ++ [i]) = stepS ls axis cs den (sumS ls axis cs den l) i := by
  unfold sumS
  rw [List.foldl_append]
  rfl
theorem zeros_loop (acc : List Int) (h8 : acc.length = 8) : ∀ (d j : Nat), j + d = acc.length → Ev (fun k => spec_IsBalanced.l2 k acc (j : Int)) ((acc.drop j).all (· == 0), true) := by
  intro d
  induction d with
  | zero =>
    intro j hj
    rw [List.drop_eq_nil_of_le (by omega)]
    refine Ev.step (f := fun _ => some (true, true)) (fun k => ?_) (Ev.now _)
    simp only [spec_IsBalanced.l2]
    rw [if_neg (by omega)]
  | succ d ih =>
    intro j hj
    have hlt : j < acc.length := by omega
    have h := ih (j + 1) (by omega)
    have er := rd_at acc j hlt
    rw [List.drop_eq_getElem_cons hlt, List.all_cons]
    by_cases c : acc[j] = 0
    · rw [c, show ((0 : Int) == 0) = true from rfl, Bool.true_and]
      refine Ev.step (fun k => ?_) h
      simp only [spec_IsBalanced.l2]
      rw [if_pos (by omega), if_pos (by omega), er, if_pos c, w64 (by omega) (by omega)]
      rfl
    · rw [show (acc[j] == 0) = false from by simpa using c, Bool.false_and]
      refine Ev.step (f := fun _ => some (false, true)) (fun k => ?_) (Ev.now _)
      simp only [spec_IsBalanced.l2]
      rw [if_pos (by omega), if_pos (by omega), er, if_neg c]
theorem sums_loop {ls : L} (hg : ∀ x ∈ ls, Good x) (axis : Int) (h0 : 0 ≤ axis) (h2 : axis ≤ 2) (cs : List Int) (h8 : cs.length = 8) (den : Int) (pl : List Int) (hp : pl.length ≤ 100) (hm : ∀ i ∈ pl, 0 ≤ i ∧ i < (ls.length : Int)) : ∀ (d j : Nat), j + d = pl.length →
    Ev (fun k => spec_IsBalanced.l1 k ls axis cs den (sumS ls axis cs den (pl.take j)) pl (j : Int)) ((sumS ls axis cs den pl).all (· == 0), true) := by
  intro d
  induction d with
  | zero =>
    intro j hj
    have hz := zeros_loop (sumS ls axis cs den pl) (sumS_len _ _ _ _ _) 8 0 (by rw [sumS_len])
    rw [List.drop_zero] at hz
    rw [List.take_of_length_le (by omega)]
    refine Ev.step (fun k => ?_) hz
    simp only [spec_IsBalanced.l1]
    rw [if_neg (by omega)]
    rfl
  | succ d ih =>
    intro j hj
    have hlt : j < pl.length := by omega
    have h := ih (j + 1) (by omega)
    have er := rd_at pl j hlt
    have hi := hm _ (List.getElem_mem hlt)
    rw [List.take_succ_eq_append_getElem hlt, sumS_snoc] at h
    obtain ⟨i, hie⟩ := Int.eq_ofNat_of_zero_le hi.1
    rw [hie] at er hi h
    have hgi := leg_good hg i (by omega)
    have hre := rest_eq _ hgi axis h0 h2 cs h8 den
    have hlen := sumS_len ls axis cs den (pl.take j)
    have hrd : rd_T56 ls (i : Int) = leg ls i := rfl
    have hst : ∀ acc, stepS ls axis cs den acc (i : Int) = (acc.set (leg ls i).f1.toNat (wrap64 (rd acc (leg ls i).f1 + resM (leg ls i) axis cs den))).set (leg ls i).f0.toNat (wrap64 (rd (acc.set (leg ls i).f1.toNat (wrap64 (rd acc (leg ls i).f1 + resM (leg ls i) axis cs den))) (leg ls i).f0 - resM (leg ls i) axis cs den)) := fun acc => rfl
    rw [hst] at h
    obtain ⟨⟨a0, a8⟩, ⟨d0, d8⟩, _⟩ := hgi
    generalize resM (leg ls i) axis cs den = rr at *
    generalize leg ls (i : Int) = x at *
    generalize sumS ls axis cs den (pl.take j) = acc at *
    refine Ev.step (fun k => ?_) h
    simp only [spec_IsBalanced.l1]
    rw [if_pos (by omega), if_pos (by omega), er, if_pos hi.1, if_pos hi.2, hrd, hre, Option.bind_some, if_pos d0, if_pos (by omega), Option.bind_some, if_pos a0, if_pos (by omega), w64 (x := (j : Int) + 1) (by omega) (by omega)]
    rfl
/-- The reference's answer. -/
def balM (ls : L) (axis : Int) (cs : List Int) (den : Int) : Bool × Bool :=
  if legsB ls = true ∧ (0 ≤ axis ∧ axis ≤ 2) ∧ cs.length = 8 ∧ (1 ≤ den ∧ den ≤ 100000) ∧ cs.any badB = false then (decide (rd cs 0 = 0) && (sumS ls axis cs den (plcL ls (RR ls) ls.length)).all (· == 0), true) else (false, false)
theorem coords_loop {ls : L} (hn : ls.length ≤ 12) (hg : ∀ x ∈ ls, Good x) (axis : Int) (h0 : 0 ≤ axis) (h2 : axis ≤ 2) (cs : List Int) (h8 : cs.length = 8) (den : Int) : ∀ (d j : Nat), j + d = cs.length →
    Ev (fun k => spec_IsBalanced.l0 k ls axis cs den (j : Int)) (if (cs.drop j).any badB = false then (decide (rd cs 0 = 0) && (sumS ls axis cs den (plcL ls (RR ls) ls.length)).all (· == 0), true) else (false, false)) := by
  intro d
  induction d with
  | zero =>
    intro j hj
    rw [List.drop_eq_nil_of_le (by omega), if_pos (show ([] : List Int).any badB = false from rfl)]
    by_cases c : rd cs 0 = 0
    · rw [decide_eq_true c, Bool.true_and]
      refine Ev.step (f := fun k => (spec_l9Legs.f k ls).bind fun t465 => (spec_IsBalanced.l1 k ls axis cs den (List.replicate 8 0) t465 0)) (fun k => ?_) ?_
      · simp only [spec_IsBalanced.l0]
        rw [if_neg (by omega), if_pos (by omega), if_pos c, if_pos (by decide)]
      · refine Ev.bind (l9Legs_ev hn hg) ?_
        have hl := selTo_len (fun k => Pq (RR ls) (leg ls k).f0.toNat) ls.length
        refine sums_loop hg axis h0 h2 cs h8 den (plcL ls (RR ls) ls.length) (by unfold plcL; omega) (fun i hi => ?_) (plcL ls (RR ls) ls.length).length 0 (by omega)
        obtain ⟨k, hk, hk2, _⟩ := (mem_selTo _ _ _).mp hi
        omega
    · rw [decide_eq_false c, Bool.false_and]
      refine Ev.step (f := fun _ => some (false, true)) (fun k => ?_) (Ev.now _)
      simp only [spec_IsBalanced.l0]
      rw [if_neg (by omega), if_pos (by omega), if_neg c]
  | succ d ih =>
    intro j hj
    have hlt : j < cs.length := by omega
    have h := ih (j + 1) (by omega)
    have er := rd_at cs j hlt
    rw [List.drop_eq_getElem_cons hlt, List.any_cons]
    have hin := in_eq cs[j] (-100000000) 100000000
    have hbd : badB cs[j] = !decide (-100000000 ≤ cs[j] ∧ cs[j] ≤ 100000000) := rfl
    by_cases c : -100000000 ≤ cs[j] ∧ cs[j] ≤ 100000000
    · rw [decide_eq_true c] at hin hbd
      rw [hbd, Bool.not_true, Bool.false_or]
      refine Ev.step (fun k => ?_) h
      simp only [spec_IsBalanced.l0]
      rw [if_pos (by omega), if_pos (by omega), er, hin, Option.bind_some, if_pos rfl, w64 (by omega) (by omega)]
      rfl
    · rw [decide_eq_false c] at hin hbd
      rw [hbd, Bool.not_false, Bool.true_or, if_neg (by decide)]
      refine Ev.step (f := fun _ => some (false, false)) (fun k => ?_) (Ev.now _)
      simp only [spec_IsBalanced.l0]
      rw [if_pos (by omega), if_pos (by omega), er, hin, Option.bind_some, if_neg (by decide)]
theorem specBal_ev (ls : L) (axis : Int) (cs : List Int) (den : Int) (hb : ls.length ≤ 140737488351232) : Ev (fun k => spec_IsBalanced.f k ls axis cs den) (balM ls axis cs den) := by
  have stop : Ev (fun k => spec_IsBalanced.j0 k ls axis cs den true) ((false, false) : Bool × Bool) := Ev.step (f := fun _ => some (false, false)) (fun k => by simp only [spec_IsBalanced.j0, if_true]) (Ev.now _)
  have hax : Ev (fun k => spec_l9Axis.f k ls axis) (legsB ls && decide (0 ≤ axis ∧ axis ≤ 2)) := by
    unfold spec_l9Axis.f
    refine Ev.bind (l4Legs_ev ls hb) ?_
    cases h : legsB ls
    · exact Ev.neg (by decide) (Ev.now _)
    · exact Ev.pos rfl (Ev.bindc (in_eq axis 0 2) (Ev.now _))
  unfold spec_IsBalanced.f balM
  refine Ev.bind hax ?_
  by_cases h : legsB ls = true ∧ (0 ≤ axis ∧ axis ≤ 2)
  · have hv := legsB_iff.mp h.1
    refine Ev.pos (by rw [h.1, decide_eq_true h.2]; rfl) ?_
    by_cases h8 : cs.length = 8
    · refine Ev.pos (by omega) (Ev.bindc (in_eq den 1 100000) ?_)
      by_cases hd : 1 ≤ den ∧ den ≤ 100000
      · rw [decide_eq_true hd]
        have hl := coords_loop hv.2 hv.1 axis h.2.1 h.2.2 cs h8 den cs.length 0 (by omega)
        rw [List.drop_zero] at hl
        have e : (if legsB ls = true ∧ (0 ≤ axis ∧ axis ≤ 2) ∧ cs.length = 8 ∧ (1 ≤ den ∧ den ≤ 100000) ∧ cs.any badB = false then (decide (rd cs 0 = 0) && (sumS ls axis cs den (plcL ls (RR ls) ls.length)).all (· == 0), true) else (false, false)) = (if cs.any badB = false then (decide (rd cs 0 = 0) && (sumS ls axis cs den (plcL ls (RR ls) ls.length)).all (· == 0), true) else (false, false)) := by
          by_cases q : cs.any badB = false
          · rw [if_pos ⟨h.1, h.2, h8, hd, q⟩, if_pos q]
          · rw [if_neg (fun e => q e.2.2.2.2), if_neg q]
        rw [e]
        exact Ev.step (fun k => by simp only [spec_IsBalanced.j0, Bool.not_true, Bool.false_eq_true, if_false]; rfl) hl
      · rw [decide_eq_false hd, if_neg (fun e => hd e.2.2.2.1)]
        exact stop
    · rw [if_neg (fun e => h8 e.2.2.1)]
      exact Ev.neg (by omega) stop
  · rw [if_neg (fun e => h ⟨e.1, e.2.1⟩)]
    exact Ev.neg (by rw [Bool.and_eq_true, decide_eq_true_eq]; exact h) stop
end Go.Proofs.YtiooiefjcbooeaaDoor.Net

namespace Go.Proofs.YtiooiefjcbooeaaDoor.A
open Go Go.RowKit Go.Proofs.YtiooiefjcbooeaaDoorW.PrintWords Go.Proofs.YtiooiefjcbooeaaDoorW.PrintLast Go.Proofs.YtiooiefjcbooeaaDoorW.PrintMore
open Go.Proofs.YtiooiefjcbooeaaDoor.Net Go.Proofs.YtiooiefjcbooeaaDoor.Plain
set_option linter.unusedVariables false
set_option linter.unusedSimpArgs false
def impl_IsBalanced.f (l0 : List (S56)) (a1 : Int) (l2 : List Int) (a3 : Int) : Option (Bool × Bool) := if l0.length ≤ 140737488351232 then some (balM l0 a1 l2 a3) else none
/-- Eight sums in one block. -/
def Sums (W : World) (b : Nat) (acc : List Int) : Prop := (∀ s : Nat, s < 8 → W.cell? ⟨b, s, none⟩ = some (.int .i64 (rd acc (s : Int)))) ∧ (∀ j, W.frozen? ⟨b, j, none⟩ = false) ∧ acc.length = 8
theorem Sums.lt {w : World} {b : Nat} {acc : List Int} (h : Sums w b acc) : b < w.heap.size := World.block_lt_of_cell? w _ (h.1 0 (by omega))
theorem Sums.keep {w W : World} {b : Nat} {acc : List Int} (h : Sums w b acc) (hb : Below w.heap.size w W) : Sums W b acc :=
  ⟨fun s hs => Sine.keepc (h.1 s hs) hb, fun j => (hb.frozen (p := ⟨b, j, none⟩) h.lt).trans (h.2.1 j), h.2.2⟩
theorem Sums.set {W : World} {b : Nat} {acc : List Int} (h : Sums W b acc) {s : Nat} (hs : s < 8) (v : Int) : Sums (W.setCell ⟨b, s, none⟩ (.int .i64 v)) b (acc.set s v) := by
  refine ⟨fun i hi => ?_, fun j => (frz _ _ _).trans (h.2.1 j), by rw [List.length_set]; exact h.2.2⟩
  have hl := h.2.2
  by_cases e : i = s
  · subst e
    rw [same (h.1 i hi)]
    unfold rd
    rw [Int.toNat_natCast, List.getD_eq_getElem?_getD, List.getElem?_set_self (by omega)]
    rfl
  · rw [far (h.1 i hi) (offne (fun e' => e e'.symm))]
    unfold rd
    rw [Int.toNat_natCast, List.getD_eq_getElem?_getD, List.getD_eq_getElem?_getD, List.getElem?_set_ne (fun e' => e e'.symm)]
theorem eq8 (a b c d e f g h : Int) (w : World) : (Op.equalIn 10000 76 (.agg #[.int .i64 a, .int .i64 b, .int .i64 c, .int .i64 d, .int .i64 e, .int .i64 f, .int .i64 g, .int .i64 h]) (.agg #[.int .i64 0, .int .i64 0, .int .i64 0, .int .i64 0, .int .i64 0, .int .i64 0, .int .i64 0, .int .i64 0])).run Tryd.prog w = .ok ([a, b, c, d, e, f, g, h].all (· == 0)) w := by
  have u3 := Tryd.underlying3
  have a3 := Tryd.isAgg3
  have z3 := Tryd.sizeOf3
  rw [show (10000 : Nat) = 9999 + 1 from rfl, Op.equalIn]
  simp only [Sem.run_bind, run_underlying Tryd.underlying76, Result.andThen_ok]
  simp only [Std.Legacy.Range.forIn_eq_forIn_range', Std.Legacy.Range.size, Nat.sub_zero, Nat.add_sub_cancel, Nat.div_one, List.range'_succ, List.range'_zero, List.forIn_cons, List.forIn_nil]
  go_simp
  by_cases h0 : a = 0
  · by_cases h1 : b = 0
    · by_cases h2 : c = 0
      · by_cases h3 : d = 0
        · by_cases h4 : e = 0
          · by_cases h5 : f = 0
            · by_cases h6 : g = 0
              · by_cases h7 : h = 0 <;> simp [h0, h1, h2, h3, h4, h5, h6, h7]
              · simp [h0, h1, h2, h3, h4, h5, h6]
            · simp [h0, h1, h2, h3, h4, h5]
          · simp [h0, h1, h2, h3, h4]
        · simp [h0, h1, h2, h3]
      · simp [h0, h1, h2]
    · simp [h0, h1]
  · simp [h0]
attribute [local go_sem] eq8
theorem list8 : ∀ (l : List Int), l.length = 8 → [rd l 0, rd l 1, rd l 2, rd l 3, rd l 4, rd l 5, rd l 6, rd l 7] = l
  | [a, b, c, d, e, f, g, h], _ => rfl
theorem rd_set_ne (acc : List Int) (d a : Nat) (v : Int) (h : a ≠ d) : rd (acc.set d v) (a : Int) = rd acc (a : Int) := by
  unfold rd
  rw [Int.toNat_natCast, List.getD_eq_getElem?_getD, List.getD_eq_getElem?_getD, List.getElem?_set_ne (fun e => h e.symm)]
theorem sums_alloc (w : World) : Sums (w.alloc (Obj.cells #[Value.int IntKind.i64 0, Value.int IntKind.i64 0, Value.int IntKind.i64 0, Value.int IntKind.i64 0, Value.int IntKind.i64 0, Value.int IntKind.i64 0, Value.int IntKind.i64 0, Value.int IntKind.i64 0] 76)) w.heap.size (List.replicate 8 0) := by
  refine ⟨fun s hs => ?_, fun j => by go_simp, rfl⟩
  have h : s = 0 ∨ s = 1 ∨ s = 2 ∨ s = 3 ∨ s = 4 ∨ s = 5 ∨ s = 6 ∨ s = 7 := by omega
  rcases h with rfl | rfl | rfl | rfl | rfl | rfl | rfl | rfl <;> (go_simp; try rfl)
set_option maxHeartbeats 4000000 in
set_option maxRecDepth 100000 in
theorem impl_IsBalanced.calls (A0 : Option Addr) (c : Nat) (ls : List (S56)) (a1 : Int) (A2 : Option Addr) (c2 : Nat) (cs : List Int) (a3 : Int) (r1 : Bool) (r2 : Bool) (w : World) (hr0 : Kd.C k56 w A0 ls.length ls) (hc : ls.length ≤ c) (hr2 : Kd.C (Kd.int .i64) w A2 cs.length cs) (hc2 : cs.length ≤ c2) (h : impl_IsBalanced.f ls a1 cs a3 = some (r1, r2)) (hL : Sine.Laid w) :
    Calls Tryd.prog 27 #[.slice A0 ls.length c, .int .i64 a1, .slice A2 cs.length c2, .int .i64 a3] w fun e w' => e = .returned (.tuple #[.bool r1, .bool r2]) ∧ Below w.heap.size w w' := by
  unfold impl_IsBalanced.f at h
  by_cases hb : ls.length ≤ 140737488351232
  · rw [if_pos hb] at h
    obtain ⟨K, hK⟩ := areLegs_ev ls hb
    have HA := Aside0.mk (hK K (Nat.le_refl _))
    have HR := Aside0.mk hr0
    have HR2 := Aside0.mk hr2
    have HL := Aside0.mk hL
    have HB := Aside0.mk (Below.refl w.heap.size w)
    have HAX : Aside0 (impl_isAxis.f a1 = some (decide (0 ≤ a1 ∧ a1 ≤ 2))) := ⟨by unfold impl_isAxis.f; rw [within_eq]; rfl⟩
    have HDN : Aside0 (impl_within.f a3 1 100000 = some (decide (1 ≤ a3 ∧ a3 ≤ 100000))) := ⟨within_eq _ _ _⟩
    clear hK hr0 hL hr2
    unfold balM at h
    by_cases h1 : legsB ls = true
    · rw [h1] at HA
      by_cases h2 : 0 ≤ a1 ∧ a1 ≤ 2
      · rw [decide_eq_true h2] at HAX
        by_cases h3 : cs.length = 8
        · have h3' : ((cs.length : Int) != 8) = false := by rw [h3]; rfl
          by_cases h4 : 1 ≤ a3 ∧ a3 ≤ 100000
          · rw [decide_eq_true h4] at HDN
            by_cases h5 : cs.any badB = false
            · rw [if_pos ⟨h1, h2, h3, h4, h5⟩] at h
              simp only [Option.some.injEq, Prod.mk.injEq] at h
              obtain ⟨hr1, rfl⟩ := h
              have HR1 := Aside0.mk hr1
              have hv' := legsB_iff.mp h1
              have HG := Aside0.mk hv'.1
              have hn := hv'.2
              have H3 := Aside0.mk h3
              obtain ⟨pl, hpl⟩ : ∃ pl, pl = plcL ls (RR ls) ls.length := ⟨_, rfl⟩
              have HPL := Aside0.mk (show pl.length ≤ 12 from by rw [hpl]; exact Nat.le_trans (selTo_len _ _) hn)
              have HMem : Aside0 (∀ j : Nat, (hj : j < pl.length) → ∃ k : Nat, pl[j] = (k : Int) ∧ k < ls.length) := ⟨fun j hj => by
                have hm : pl[j] ∈ plcL ls (RR ls) ls.length := by rw [← hpl]; exact List.getElem_mem hj
                obtain ⟨k, h1, h2, _⟩ := (mem_selTo _ _ _).mp hm
                exact ⟨k, h1, h2⟩⟩
              have HPE := Aside0.mk hpl
              rw [← hpl] at HR1
              clear hv' hpl h3 hr1
              go_enter Tryd.func27, Tryd.ntmps27
              go_wp2_with (first
                | (go_at_call 52; (with_reducible refine (impl_areLegs.calls K _ _ ls true _ ?s1 ?s2 HA.out).mono ?_); (case s1 => exact Kd.C_below HR.out (by (repeat (first | exact HB.out | exact Below.refl _ _ | apply below_alloc | apply pw_below_drewN | apply below_drew1)); done)); (case s2 => exact hc); rintro e w' ⟨rfl, hw⟩; replace HB := Aside0.mk (below_step (show Below w.heap.size w _ from by (repeat (first | exact HB.out | exact Below.refl _ _ | apply below_alloc | apply pw_below_drewN | apply below_drew1)); done) hw); clear hw)
                | (go_at_call 67; (with_reducible refine (impl_isAxis.calls _ _ _ HAX.out).mono ?_); rintro e w' ⟨rfl, ⟨nd, rfl⟩⟩)
                | (go_at_call 68; (with_reducible refine (impl_within.calls _ _ _ _ _ HDN.out).mono ?_); rintro e w' ⟨rfl, ⟨nd, rfl⟩⟩)
                | (go_at_call 69; (with_reducible refine (containsBal A2 c2 cs _ ?s1 H3.out).mono ?_); (case s1 => exact Kd.C_below HR2.out (by (repeat (first | exact HB.out | exact Below.refl _ _ | apply below_alloc | apply pw_below_drewN | apply below_drew1)); done)); rw [h5]; rintro e w' ⟨rfl, hw⟩; replace HB := Aside0.mk (below_step (show Below w.heap.size w _ from by (repeat (first | exact HB.out | exact Below.refl _ _ | apply below_alloc | apply pw_below_drewN | apply below_drew1)); done) hw); clear hw)
                | ((go_at_call 53; (with_reducible refine (place _ c ls _ ?s1 ?s2 hc hn HG.out (RR ls) rfl).mono ?_); (case s1 => exact HL.out.keep (by (repeat (first | exact HB.out | exact Below.refl _ _ | apply below_alloc | apply pw_below_drewN | apply below_drew1)); done)); (case s2 => exact Kd.C_below HR.out (by (repeat (first | exact HB.out | exact Below.refl _ _ | apply below_alloc | apply pw_below_drewN | apply below_drew1)); done)); rintro e w' ⟨g, T, cl, rfl, hst, ho, hw⟩; have HO : Aside0 (Kd.R (Kd.int .i64) 3 w' w.heap.size (fun k => k ≠ g ∧ k ≠ T) cl (closeL ls)) := ⟨Kd.R_lower ho (below_size (show Below w.heap.size w _ from by (repeat (first | exact HB.out | exact Below.refl _ _ | apply below_alloc | apply pw_below_drewN | apply below_drew1)); done))⟩; replace HB := Aside0.mk (below_step (show Below w.heap.size w _ from by (repeat (first | exact HB.out | exact Below.refl _ _ | apply below_alloc | apply pw_below_drewN | apply below_drew1)); done) hw); have HS := Aside0.mk hst; clear hst ho hw; obtain ⟨cA, cC, ecl⟩ := Kd.R_slice HO.out; subst ecl))
                | (go_at_call 71; have hsz0 := below_size HB.out; have hgs : g < w'.heap.size := World.block_lt_of_cell? _ _ HS.out.tc; have hTs := HS.out.ge
                   have hs1 : (w'.alloc (Obj.cells #[Value.int IntKind.i64 0, Value.int IntKind.i64 0, Value.int IntKind.i64 0, Value.int IntKind.i64 0, Value.int IntKind.i64 0, Value.int IntKind.i64 0, Value.int IntKind.i64 0, Value.int IntKind.i64 0] 76)).heap.size = w'.heap.size + 1 := by go_simp
                   have HSm := sums_alloc w'
                   have hq := placedLegsW A0 c ls (w'.alloc (Obj.cells #[Value.int IntKind.i64 0, Value.int IntKind.i64 0, Value.int IntKind.i64 0, Value.int IntKind.i64 0, Value.int IntKind.i64 0, Value.int IntKind.i64 0, Value.int IntKind.i64 0, Value.int IntKind.i64 0] 76)) (HS.out.keep (below_alloc (Below.refl _ _) _)) (by omega) (by omega) (Kd.C_below HR.out (below_alloc HB.out _)) hc hn HG.out
                   (with_reducible refine hq.mono ?_); clear hq; rintro e w3 ⟨v, rfl, hv3, hw⟩; rw [← HPE.out] at hv3
                   have HP := Aside0.mk (show Kd.R (Kd.int .i64) 3 w3 w.heap.size (fun k => k ≠ w'.heap.size) v pl from Kd.R_mono (Kd.R_lower hv3 (by omega)) (fun k hk => by omega))
                   have HSU := Aside0.mk (HSm.keep hw)
                   replace HB := Aside0.mk (below_step (show Below w.heap.size w (w'.alloc (Obj.cells #[Value.int IntKind.i64 0, Value.int IntKind.i64 0, Value.int IntKind.i64 0, Value.int IntKind.i64 0, Value.int IntKind.i64 0, Value.int IntKind.i64 0, Value.int IntKind.i64 0, Value.int IntKind.i64 0] 76)) from below_alloc HB.out _) hw)
                   clear hv3 hw HO HS HSm; obtain ⟨pA, pC, ep⟩ := Kd.R_slice HP.out; subst ep))
              go_loopw [41] (fun v41 W => ∃ (j : Nat), j ≤ pl.length ∧ v41 = .int .i64 j ∧ Aside0 (Kd.R (Kd.int .i64) 3 W w.heap.size (fun k => k ≠ w'.heap.size) (.slice pA pl.length pC) pl) ∧ Aside0 (Sums W w'.heap.size (sumS ls a1 cs a3 (pl.take j))) ∧ Aside0 (Below w.heap.size w W)) (fun v41 _ => pl.length - (intOf v41).toNat)
              case atStart => exact ⟨0, Nat.zero_le _, rfl, HP, ⟨by rw [List.take_zero]; exact HSU.out⟩, HB⟩
              case round =>
                obtain ⟨j, hj, rfl, HP2, HSU2, HB2⟩ := hrel
                clear HP HSU HB
                have HP := HP2
                have HSU := HSU2
                have HB := HB2
                clear HP2 HSU2 HB2
                by_cases hlt : j < pl.length
                · obtain ⟨ad, e1, hc1⟩ := Kd.at_int (Kd.R_reads' HP.out).2.2 (j : Int) (by omega) (by omega)
                  subst e1
                  rw [rd_at _ j hlt, Int.toNat_natCast] at hc1
                  obtain ⟨m, hk1, hk2⟩ := HMem.out j hlt
                  have HE := Aside0.mk (show sumS ls a1 cs a3 (pl.take (j + 1)) = stepS ls a1 cs a3 (sumS ls a1 cs a3 (pl.take j)) (m : Int) from by
                    rw [List.take_succ_eq_append_getElem hlt, hk1, sumS_snoc])
                  rw [hk1] at hc1
                  clear hk1
                  obtain ⟨la, e2, h20, h21, h22, h23, h24⟩ := at_T56 HR.out (m : Int) (by omega) (by omega)
                  cases e2
                  have hbl : (la.add (m * 5)).block < w.heap.size := World.block_lt_of_cell? _ _ h20
                  rw [Int.toNat_natCast, show rd_T56 ls (m : Int) = leg ls m from rfl] at h20 h21 h22 h23 h24
                  have HX := Aside0.mk (leg_good HG.out m hk2)
                  rw [show stepS ls a1 cs a3 (sumS ls a1 cs a3 (pl.take j)) (m : Int) = ((sumS ls a1 cs a3 (pl.take j)).set (leg ls m).f1.toNat (wrap64 (rd (sumS ls a1 cs a3 (pl.take j)) (leg ls m).f1 + resM (leg ls m) a1 cs a3))).set (leg ls m).f0.toNat (wrap64 (rd ((sumS ls a1 cs a3 (pl.take j)).set (leg ls m).f1.toNat (wrap64 (rd (sumS ls a1 cs a3 (pl.take j)) (leg ls m).f1 + resM (leg ls m) a1 cs a3))) (leg ls m).f0 - resM (leg ls m) a1 cs a3)) from rfl] at HE
                  have HRS := Aside0.mk (fun W (hl : Sine.Laid W) (hcc : Kd.C (Kd.int .i64) W A2 cs.length cs) => residualW A2 c2 cs (leg ls m) a1 a3 W hl hcc H3.out HX.out h2.1 h2.2)
                  generalize resM (leg ls m) a1 cs a3 = rr at *
                  generalize leg ls (m : Int) = x at *
                  generalize sumS ls a1 cs a3 (pl.take j) = acc at *
                  obtain ⟨⟨a0, a8⟩, ⟨d0, d8⟩, had, _⟩ := HX.out
                  obtain ⟨a, ha⟩ := Int.eq_ofNat_of_zero_le a0
                  obtain ⟨d, hd⟩ := Int.eq_ofNat_of_zero_le d0
                  have hda : a ≠ d := fun e => had (by rw [ha, hd, e])
                  rw [ha] at a8
                  rw [hd] at d8
                  simp only [ha, hd] at HE HRS h20 h21
                  rw [Int.toNat_natCast, Int.toNat_natCast, rd_set_ne acc d a _ hda] at HE
                  replace h20 := Sine.keepc h20 HB.out
                  replace h21 := Sine.keepc h21 HB.out
                  replace h22 := Sine.keepc h22 HB.out
                  replace h23 := Sine.keepc h23 HB.out
                  replace h24 := Sine.keepc h24 HB.out
                  have hsz := below_size HB.out
                  have hpl := HPL.out
                  have k0 : (0 : Int) ≤ (m : Int) := by omega
                  have k1 : (m : Int) < (ls.length : Int) := by omega
                  have ka0 : (0 : Int) ≤ (a : Int) := by omega
                  have kd0 : (0 : Int) ≤ (d : Int) := by omega
                  have ka1 : (a : Int) < ((8 : Nat) : Int) := by omega
                  have kd1 : (d : Int) < ((8 : Nat) : Int) := by omega
                  clear HX had a0 d0 ha hd
                  go_wp2_with (go_at_call 72; have hq := HRS.out wr (HL.out.keep HB.out) (Kd.C_below HR2.out HB.out); (with_reducible refine hq.mono ?_); clear hq; rintro e w4 ⟨rfl, hw⟩
                               replace h20 := Sine.keepc h20 hw
                               replace h21 := Sine.keepc h21 hw
                               replace HP := Aside0.mk (Kd.R_below HP.out hw)
                               replace HSU := Aside0.mk (HSU.out.keep hw)
                               replace HB := Aside0.mk (below_step HB.out hw)
                               have s1 := HSU.out.1 d (by omega)
                               have z1 := HSU.out.2.1 d
                               have hne : (⟨w'.heap.size, d, none⟩ : Addr) ≠ la.add (m * 5) := fun e => by
                                 have e2 : w'.heap.size = (la.add (m * 5)).block := congrArg Addr.block e
                                 omega
                               have q20 := far h20 (v := .int .i64 (wrap64 (rd acc (d : Int) + rr))) hne
                               have q0 := far (HSU.out.1 a (by omega)) (v := .int .i64 (wrap64 (rd acc (d : Int) + rr))) (offne (g := w'.heap.size) (fun e => hda e.symm))
                               have qz := (frz (W := w4) ⟨w'.heap.size, d, none⟩ (.int .i64 (wrap64 (rd acc (d : Int) + rr))) ⟨w'.heap.size, a, none⟩).trans (HSU.out.2.1 a))
                  have HSU3 := (HSU.out.set (s := d) (by omega) (wrap64 (rd acc (d : Int) + rr))).set (s := a) (by omega) (wrap64 (rd acc (a : Int) - rr))
                  exact ⟨⟨j + 1, hlt, by go_num, ⟨Kd.R_far (p := ⟨w'.heap.size, a, none⟩) (Kd.R_far HP.out (p := ⟨w'.heap.size, d, none⟩) (fun b hb => hb) _) (fun b hb => hb) _⟩, ⟨by rw [HE.out]; exact HSU3⟩, ⟨below_set (below_set HB.out (by omega)) (by omega)⟩⟩, by simp [intOf]; omega⟩
                · obtain rfl : j = pl.length := by omega
                  have hr1 := HR1.out
                  rw [List.take_length] at HSU
                  generalize sumS ls a1 cs a3 pl = acc at *
                  obtain ⟨ca, e1, hc0⟩ := Kd.at_int (Kd.C_below HR2.out HB.out) 0 (by omega) (by have := H3.out; omega)
                  subst e1
                  replace hc0 : wr.cell? ca = some (.int .i64 (rd cs 0)) := hc0
                  have hcl : 0 < (cs.length : Int) := by have := H3.out; omega
                  have s0 := HSU.out.1 0 (by omega)
                  have s1 := HSU.out.1 1 (by omega)
                  have s2 := HSU.out.1 2 (by omega)
                  have s3 := HSU.out.1 3 (by omega)
                  have s4 := HSU.out.1 4 (by omega)
                  have s5 := HSU.out.1 5 (by omega)
                  have s6 := HSU.out.1 6 (by omega)
                  have s7 := HSU.out.1 7 (by omega)
                  have hal := HSU.out.2.2
                  generalize rd cs 0 = c0 at *
                  by_cases hz : c0 = 0
                  · subst hz
                    rw [decide_eq_true rfl, Bool.true_and, ← list8 acc hal] at hr1
                    go_wp2
                    go_ret2
                    exact ⟨by rw [← hr1]; rfl, HB.out⟩
                  · have hz' : (c0 == 0) = false := by simpa using hz
                    go_wp2
                    rw [decide_eq_false hz, Bool.false_and] at hr1
                    subst hr1
                    go_ret2
                    exact ⟨rfl, HB.out⟩
            · rw [if_neg (fun e => h5 e.2.2.2.2)] at h
              simp only [Option.some.injEq, Prod.mk.injEq] at h
              obtain ⟨rfl, rfl⟩ := h
              have h5' : cs.any badB = true := by simpa using h5
              have H3 := Aside0.mk h3
              clear h3 h5
              go_enter Tryd.func27, Tryd.ntmps27
              go_wp2_with (first
                | (go_at_call 52; (with_reducible refine (impl_areLegs.calls K _ _ ls true _ ?s1 ?s2 HA.out).mono ?_); (case s1 => exact Kd.C_below HR.out (by (repeat (first | exact HB.out | exact Below.refl _ _ | apply below_alloc | apply pw_below_drewN | apply below_drew1)); done)); (case s2 => exact hc); rintro e w' ⟨rfl, hw⟩; replace HB := Aside0.mk (below_step (show Below w.heap.size w _ from by (repeat (first | exact HB.out | exact Below.refl _ _ | apply below_alloc | apply pw_below_drewN | apply below_drew1)); done) hw); clear hw)
                | (go_at_call 67; (with_reducible refine (impl_isAxis.calls _ _ _ HAX.out).mono ?_); rintro e w' ⟨rfl, ⟨nd, rfl⟩⟩)
                | (go_at_call 68; (with_reducible refine (impl_within.calls _ _ _ _ _ HDN.out).mono ?_); rintro e w' ⟨rfl, ⟨nd, rfl⟩⟩)
                | (go_at_call 69; (with_reducible refine (containsBal A2 c2 cs _ ?s1 H3.out).mono ?_); (case s1 => exact Kd.C_below HR2.out (by (repeat (first | exact HB.out | exact Below.refl _ _ | apply below_alloc | apply pw_below_drewN | apply below_drew1)); done)); rw [h5']; rintro e w' ⟨rfl, hw⟩; replace HB := Aside0.mk (below_step (show Below w.heap.size w _ from by (repeat (first | exact HB.out | exact Below.refl _ _ | apply below_alloc | apply pw_below_drewN | apply below_drew1)); done) hw); clear hw))
              exact bodyPost_ret (v := .tuple #[.bool false, .bool false]) (by simp [results, Tryd.results27, go_sem]) rfl ⟨rfl, by repeat (first | exact HB.out | apply pw_below_drewN | apply below_drew1)⟩
          · rw [if_neg (fun e => h4 e.2.2.2.1)] at h
            simp only [Option.some.injEq, Prod.mk.injEq] at h
            obtain ⟨rfl, rfl⟩ := h
            rw [decide_eq_false h4] at HDN
            clear h3
            go_enter Tryd.func27, Tryd.ntmps27
            go_wp2_with (first
              | (go_at_call 52; (with_reducible refine (impl_areLegs.calls K _ _ ls true _ ?s1 ?s2 HA.out).mono ?_); (case s1 => exact Kd.C_below HR.out (by (repeat (first | exact HB.out | exact Below.refl _ _ | apply below_alloc | apply pw_below_drewN | apply below_drew1)); done)); (case s2 => exact hc); rintro e w' ⟨rfl, hw⟩; replace HB := Aside0.mk (below_step (show Below w.heap.size w _ from by (repeat (first | exact HB.out | exact Below.refl _ _ | apply below_alloc | apply pw_below_drewN | apply below_drew1)); done) hw); clear hw)
              | (go_at_call 67; (with_reducible refine (impl_isAxis.calls _ _ _ HAX.out).mono ?_); rintro e w' ⟨rfl, ⟨nd, rfl⟩⟩)
              | (go_at_call 68; (with_reducible refine (impl_within.calls _ _ _ _ _ HDN.out).mono ?_); rintro e w' ⟨rfl, ⟨nd, rfl⟩⟩))
            exact bodyPost_ret (v := .tuple #[.bool false, .bool false]) (by simp [results, Tryd.results27, go_sem]) rfl ⟨rfl, by repeat (first | exact HB.out | apply pw_below_drewN | apply below_drew1)⟩
        · rw [if_neg (fun e => h3 e.2.2.1)] at h
          simp only [Option.some.injEq, Prod.mk.injEq] at h
          obtain ⟨rfl, rfl⟩ := h
          have h3' : ((cs.length : Int) != 8) = true := by rw [bne_iff_ne]; omega
          clear h3
          go_enter Tryd.func27, Tryd.ntmps27
          go_wp2_with (first
            | (go_at_call 52; (with_reducible refine (impl_areLegs.calls K _ _ ls true _ ?s1 ?s2 HA.out).mono ?_); (case s1 => exact Kd.C_below HR.out (by (repeat (first | exact HB.out | exact Below.refl _ _ | apply below_alloc | apply pw_below_drewN | apply below_drew1)); done)); (case s2 => exact hc); rintro e w' ⟨rfl, hw⟩; replace HB := Aside0.mk (below_step (show Below w.heap.size w _ from by (repeat (first | exact HB.out | exact Below.refl _ _ | apply below_alloc | apply pw_below_drewN | apply below_drew1)); done) hw); clear hw)
            | (go_at_call 67; (with_reducible refine (impl_isAxis.calls _ _ _ HAX.out).mono ?_); rintro e w' ⟨rfl, ⟨nd, rfl⟩⟩))
          exact bodyPost_ret (v := .tuple #[.bool false, .bool false]) (by simp [results, Tryd.results27, go_sem]) rfl ⟨rfl, by repeat (first | exact HB.out | apply pw_below_drewN | apply below_drew1)⟩
      · rw [if_neg (fun e => h2 e.2.1)] at h
        simp only [Option.some.injEq, Prod.mk.injEq] at h
        obtain ⟨rfl, rfl⟩ := h
        rw [decide_eq_false h2] at HAX
        go_enter Tryd.func27, Tryd.ntmps27
        go_wp2_with (first
          | (go_at_call 52; (with_reducible refine (impl_areLegs.calls K _ _ ls true _ ?s1 ?s2 HA.out).mono ?_); (case s1 => exact Kd.C_below HR.out (by (repeat (first | exact HB.out | exact Below.refl _ _ | apply below_alloc | apply pw_below_drewN | apply below_drew1)); done)); (case s2 => exact hc); rintro e w' ⟨rfl, hw⟩; replace HB := Aside0.mk (below_step (show Below w.heap.size w _ from by (repeat (first | exact HB.out | exact Below.refl _ _ | apply below_alloc | apply pw_below_drewN | apply below_drew1)); done) hw); clear hw)
          | (go_at_call 67; (with_reducible refine (impl_isAxis.calls _ _ _ HAX.out).mono ?_); rintro e w' ⟨rfl, ⟨nd, rfl⟩⟩))
        exact bodyPost_ret (v := .tuple #[.bool false, .bool false]) (by simp [results, Tryd.results27, go_sem]) rfl ⟨rfl, by repeat (first | exact HB.out | apply pw_below_drewN | apply below_drew1)⟩
    · rw [if_neg (fun e => h1 e.1)] at h
      simp only [Option.some.injEq, Prod.mk.injEq] at h
      obtain ⟨rfl, rfl⟩ := h
      rw [Bool.eq_false_iff.mpr h1] at HA
      go_enter Tryd.func27, Tryd.ntmps27
      go_wp2_with (go_at_call 52; (with_reducible refine (impl_areLegs.calls K _ _ ls false _ ?s1 ?s2 HA.out).mono ?_); (case s1 => exact Kd.C_below HR.out (by (repeat (first | exact HB.out | exact Below.refl _ _ | apply below_alloc | apply pw_below_drewN | apply below_drew1)); done)); (case s2 => exact hc); rintro e w' ⟨rfl, hw⟩; replace HB := Aside0.mk (below_step (show Below w.heap.size w _ from by (repeat (first | exact HB.out | exact Below.refl _ _ | apply below_alloc | apply pw_below_drewN | apply below_drew1)); done) hw); clear hw)
      exact bodyPost_ret (v := .tuple #[.bool false, .bool false]) (by simp [results, Tryd.results27, go_sem]) rfl ⟨rfl, by repeat (first | exact HB.out | apply pw_below_drewN | apply below_drew1)⟩
  · rw [if_neg hb] at h
    cases h
end Go.Proofs.YtiooiefjcbooeaaDoor.A
