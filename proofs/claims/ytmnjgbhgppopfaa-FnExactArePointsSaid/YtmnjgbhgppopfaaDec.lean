/- Declinations: what the program's and the reference's functions on points come to, as plain functions on lists. -/
import Derived.Test.YtmnjgbhgppopfaaPlain
import Derived.Test.YtmnjgbhgppopfaaA0
import Derived.Test.YtmnjgbhgppopfaaA1
import Derived.Test.YtmnjgbhgppopfaaA3
import Derived.Test.YtmnjgbhgppopfaaA9
import Derived.Test.YtmnjgbhgppopfaaA10
import Derived.Test.YtmnjgbhgppopfaaA13
import Derived.Test.YtmnjgbhgppopfaaA14
import Derived.Test.YtmnjgbhgppopfaaA15
import Derived.Test.YtmnjgbhgppopfaaA31
import Derived.Test.YtmnjgbhgppopfaaA32
import Derived.Test.YtmnjgbhgppopfaaA34
import Derived.Test.YtmnjgbhgppopfaaA35
namespace Go.Proofs.Ytmnjgbhgppopfaa.Dec
open Go.RowKit Go.Proofs.YtmnjgbhgppopfaaW.PrintWords Go.Proofs.Ytmnjgbhgppopfaa.Plain Go.Proofs.Ytmnjgbhgppopfaa.A
set_option linter.unusedVariables false

abbrev DP := S74
abbrev LP := S76
abbrev z : DP := z74
def cv (x : LP) : DP := ⟨x.f0, x.f1⟩

theorem within_eq (x a b : Int) : impl_within.f x a b = some (inR x a b) := by unfold impl_within.f inR; split <;> rfl
theorem in_eq (x a b : Int) : spec_l1In.f x a b = some (inR x a b) := by unfold spec_l1In.f inR; split <;> rfl
theorem isDay_eq (x : Int) : impl_isDay.f x = some (inR x 0 999) := by unfold impl_isDay.f; rw [within_eq]; rfl
theorem isDecl_eq (x : Int) : impl_isDeclination.f x = some (inR x (-900) 900) := by unfold impl_isDeclination.f; rw [within_eq]; rfl
theorem day_eq (x : Int) : spec_l11Day.f x = some (inR x 0 999) := by unfold spec_l11Day.f; rw [in_eq]; rfl
theorem tenths_eq (x : Int) : spec_l11Tenths.f x = some (inR x (-900) 900) := by unfold spec_l11Tenths.f; rw [in_eq]; rfl

def dayAt (l : List DP) (i : Nat) : Int := (l.getD i z).f0
def tenAt (l : List DP) (i : Nat) : Int := (l.getD i z).f1
def okP (l : List DP) (i : Nat) : Bool := inR (dayAt l i) 0 999 && (inR (tenAt l i) (-900) 900 && (decide (i = 0) || decide (dayAt l (i - 1) < dayAt l i)))
def rowB (l : List DP) : Bool := allFrom (okP l) 0 l.length
/-- The list is points. -/
def okL (l : List DP) : Bool := decide (0 < l.length) && (rowB l && decide (l.length ≤ 8))

theorem day_prev (l : List DP) (i : Nat) (h : 0 < i) : (rd_T74 l ((i : Int) - 1)).f0 = dayAt l (i - 1) := by
  show (l.getD ((i : Int) - 1).toNat z).f0 = _
  rw [show ((i : Int) - 1).toNat = i - 1 by omega]
  rfl
theorem ten_prev (l : List DP) (i : Nat) (h : 0 < i) : (rd_T74 l ((i : Int) - 1)).f1 = tenAt l (i - 1) := by
  show (l.getD ((i : Int) - 1).toNat z).f1 = _
  rw [show ((i : Int) - 1).toNat = i - 1 by omega]
  rfl

theorem isRow_ev (l : List DP) (hb : l.length ≤ 140737488351232) : Ev (fun k => impl_isRow.f k l) (rowB l && decide ((l.length : Int) ≤ 8)) := by
  obtain ⟨K, hK⟩ := all_ev (okP l) l.length hb (fun k i => impl_isRow.l0 k l l (l.length : Int) i) (some (decide ((l.length : Int) ≤ 8))) (by
      intro k i hi
      simp only [impl_isRow.l0]
      rw [if_pos (by omega), if_pos (by omega), if_pos (by omega), isDay_eq, isDecl_eq]
      simp only [Option.bind_some]
      have e1 : (rd_T74 l (i : Int)).f0 = dayAt l i := rfl
      have e2 : (rd_T74 l (i : Int)).f1 = tenAt l i := rfl
      rw [e1, e2]
      unfold okP
      cases h1 : inR (dayAt l i) 0 999
      · simp
      · cases h2 : inR (tenAt l i) (-900) 900
        · simp
        · by_cases h3 : i = 0
          · subst h3
            simp
          · rw [if_pos rfl, if_pos rfl, if_pos (by omega), w64 (x := (i : Int) - 1) (by omega) (by omega), if_pos (by omega), if_pos (by omega), day_prev l i (by omega)]
            by_cases h4 : dayAt l (i - 1) < dayAt l i
            · rw [if_neg (by omega)]
              simp [h3, h4]
            · rw [if_pos (by omega)]
              simp [h3, h4]) (by
      intro k
      simp only [impl_isRow.l0]
      rw [if_neg (by omega)])
  refine ⟨K, fun k hk => ?_⟩
  have := hK k hk
  simp only [impl_isRow.f]
  rw [this]
  unfold rowB
  cases allFrom (okP l) 0 l.length <;> simp

theorem arePoints_ev (l : List DP) (hb : l.length ≤ 140737488351232) : Ev (fun k => impl_ArePoints.f k l) (okL l) := by
  unfold impl_ArePoints.f okL
  by_cases h : 0 < l.length
  · refine Ev.pos (by omega) ?_
    rw [decide_eq_true h, Bool.true_and]
    refine Ev.bind (isRow_ev l hb) ?_
    refine Ev.some fun k => ?_
    congr 2
    exact decide_eq_decide.2 (by omega)
  · refine Ev.neg (by omega) ?_
    rw [decide_eq_false h, Bool.false_and]
    exact Ev.now _

theorem good_ev (l : List DP) (hb : l.length ≤ 140737488351232) : Ev (fun k => spec_l11Good.f k l) (okL l) := by
  obtain ⟨K, hK⟩ := all_ev (okP l) l.length hb (fun k i => spec_l11Good.l0 k l i) (some (inR (l.length : Int) 1 8)) (by
      intro k i hi
      simp only [spec_l11Good.l0]
      rw [if_pos (by omega), if_pos (by omega), day_eq, tenths_eq]
      simp only [Option.bind_some]
      have e1 : (rd_T74 l (i : Int)).f0 = dayAt l i := rfl
      have e2 : (rd_T74 l (i : Int)).f1 = tenAt l i := rfl
      rw [e1, e2]
      unfold okP
      cases h1 : inR (dayAt l i) 0 999
      · simp
      · cases h2 : inR (tenAt l i) (-900) 900
        · simp
        · by_cases h3 : i = 0
          · subst h3
            simp
          · rw [if_pos rfl, if_pos rfl, if_pos (by omega), w64 (x := (i : Int) - 1) (by omega) (by omega), if_pos (by omega), if_pos (by omega), day_prev l i (by omega)]
            by_cases h4 : dayAt l (i - 1) < dayAt l i
            · rw [if_neg (by omega)]
              simp [h3, h4]
            · rw [if_pos (by omega)]
              simp [h3, h4]) (by
      intro k
      simp only [spec_l11Good.l0]
      rw [if_neg (by omega), in_eq]
      rfl)
  refine ⟨K, fun k hk => ?_⟩
  have := hK k hk
  simp only [spec_l11Good.f]
  rw [this]
  have e : inR (l.length : Int) 1 8 = (decide (0 < l.length) && decide (l.length ≤ 8)) := by
    rw [Bool.eq_iff_iff, inR_iff]
    simp
    omega
  rw [e]
  unfold okL rowB
  cases allFrom (okP l) 0 l.length <;> simp

/-- What holds of points. -/
structure Pts (l : List DP) : Prop where
  pos : 0 < l.length
  few : l.length ≤ 8
  day : ∀ i, i < l.length → 0 ≤ dayAt l i ∧ dayAt l i ≤ 999
  ten : ∀ i, i < l.length → -900 ≤ tenAt l i ∧ tenAt l i ≤ 900
  up : ∀ i, 0 < i → i < l.length → dayAt l (i - 1) < dayAt l i
theorem okL_iff (l : List DP) : okL l = true ↔ Pts l := by
  unfold okL rowB
  simp only [Bool.and_eq_true, decide_eq_true_eq, allFrom_iff]
  constructor
  · rintro ⟨h1, h2, h3⟩
    refine ⟨h1, h3, fun i hi => ?_, fun i hi => ?_, fun i h0 hi => ?_⟩
    all_goals
      have h := h2 i (by omega) (by omega)
      unfold okP at h
      simp only [Bool.and_eq_true, Bool.or_eq_true, decide_eq_true_eq, inR_iff] at h
      omega
  · intro h
    refine ⟨h.pos, fun i _ hi => ?_, h.few⟩
    have h1 := h.day i (by omega)
    have h2 := h.ten i (by omega)
    unfold okP
    simp only [Bool.and_eq_true, Bool.or_eq_true, decide_eq_true_eq, inR_iff]
    refine ⟨h1, h2, ?_⟩
    by_cases e : i = 0
    · exact .inl e
    · exact .inr (h.up i (by omega) (by omega))
theorem Pts.lt {l : List DP} (h : Pts l) : ∀ (d i j : Nat), j = i + d + 1 → j < l.length → dayAt l i < dayAt l j
  | 0, i, j, e, hj => by
    have := h.up j (by omega) hj
    rwa [show j - 1 = i by omega] at this
  | d + 1, i, j, e, hj => by
    have h1 := h.up j (by omega) hj
    have h2 := h.lt d i (j - 1) (by omega) (by omega)
    omega

/-! ### Rounding -/
def rnd (a b : Int) : Int := if a < 0 then -((2 * (-a) + b) / (2 * b)) else (2 * a + b) / (2 * b)
theorem quot_bound {a b : Int} (ha : 0 ≤ a) (hb : 1 ≤ b) : 0 ≤ (2 * a + b) / (2 * b) ∧ (2 * a + b) / (2 * b) ≤ 2 * a + b :=
  ⟨Int.ediv_nonneg (by omega) (by omega), Int.ediv_le_self _ (by omega)⟩
theorem rounded_pos (k : Nat) (a b : Int) (h0 : 0 ≤ a) (h1 : a ≤ 1000000000000) (h2 : 1 ≤ b) (h3 : b ≤ 1000000000000) : impl_rounded.f (k + 1) a b = some ((2 * a + b) / (2 * b)) := by
  have hq := quot_bound h0 h2
  simp only [impl_rounded.f]
  rw [if_neg (by omega), w64 (x := 2 * b) (by omega) (by omega), if_neg (by omega), w64 (x := 2 * a) (by omega) (by omega), w64 (x := 2 * a + b) (by omega) (by omega), Int.tdiv_eq_ediv_of_nonneg (by omega), w64 (by omega) (by omega)]
theorem rounded_ev (a b : Int) (h0 : -1000000000000 ≤ a) (h1 : a ≤ 1000000000000) (h2 : 1 ≤ b) (h3 : b ≤ 1000000000000) : Ev (fun k => impl_rounded.f k a b) (rnd a b) := by
  refine ⟨2, fun k hk => ?_⟩
  obtain ⟨k, rfl⟩ : ∃ m, k = m + 1 + 1 := ⟨k - 2, by omega⟩
  show impl_rounded.f (k + 1 + 1) a b = _
  unfold rnd
  by_cases h : a < 0
  · have hq := quot_bound (a := -a) (by omega) h2
    rw [if_pos h]
    rw [impl_rounded.f]
    rw [if_pos h, w64 (x := -a) (by omega) (by omega), rounded_pos k (-a) b (by omega) (by omega) h2 h3]
    simp only [Option.bind_some]
    rw [w64 (by omega) (by omega)]
  · rw [if_neg h, rounded_pos (k + 1) a b (by omega) h1 h2 h3]
theorem round_pos (k : Nat) (a b : Int) (h0 : 0 ≤ a) (h1 : a ≤ 1000000000000) (h2 : 1 ≤ b) (h3 : b ≤ 1000000000000) : spec_l11Round.f (k + 1) a b = some ((2 * a + b) / (2 * b)) := by
  have hq := quot_bound h0 h2
  simp only [spec_l11Round.f]
  rw [if_neg (by omega), w64 (x := 2 * b) (by omega) (by omega), if_neg (by omega), w64 (x := 2 * a) (by omega) (by omega), w64 (x := 2 * a + b) (by omega) (by omega), Int.tdiv_eq_ediv_of_nonneg (by omega), w64 (by omega) (by omega)]
theorem round_ev (a b : Int) (h0 : -1000000000000 ≤ a) (h1 : a ≤ 1000000000000) (h2 : 1 ≤ b) (h3 : b ≤ 1000000000000) : Ev (fun k => spec_l11Round.f k a b) (rnd a b) := by
  refine ⟨2, fun k hk => ?_⟩
  obtain ⟨k, rfl⟩ : ∃ m, k = m + 1 + 1 := ⟨k - 2, by omega⟩
  show spec_l11Round.f (k + 1 + 1) a b = _
  unfold rnd
  by_cases h : a < 0
  · have hq := quot_bound (a := -a) (by omega) h2
    rw [if_pos h]
    rw [spec_l11Round.f]
    rw [if_pos h, w64 (x := -a) (by omega) (by omega), round_pos k (-a) b (by omega) (by omega) h2 h3]
    simp only [Option.bind_some]
    rw [w64 (by omega) (by omega)]
  · rw [if_neg h, round_pos (k + 1) a b (by omega) h1 h2 h3]
theorem quot_at {t D : Int} (hD : 1 ≤ D) : (2 * (t * D) + D) / (2 * D) = t := by
  rw [show 2 * (t * D) + D = D + (2 * D) * t by rw [Int.mul_assoc, Int.mul_comm D t, Int.add_comm], Int.add_mul_ediv_left _ _ (by omega), Int.ediv_eq_zero_of_lt (by omega) (by omega), Int.zero_add]
theorem rnd_at {t D : Int} (hD : 1 ≤ D) : rnd (t * D) D = t := by
  unfold rnd
  split
  · rw [show -(t * D) = (-t) * D by rw [Int.neg_mul], quot_at hD]
    omega
  · exact quot_at hD
theorem rnd_bound {a D M : Int} (hD : 1 ≤ D) (h1 : -(M * D) ≤ a) (h2 : a ≤ M * D) : -M ≤ rnd a D ∧ rnd a D ≤ M := by
  have key : ∀ x, x ≤ M * D → (2 * x + D) / (2 * D) ≤ M := by
    intro x hx
    have : (2 * x + D) / (2 * D) ≤ (2 * (M * D) + D) / (2 * D) := Int.ediv_le_ediv (by omega) (by omega)
    rwa [quot_at hD] at this
  unfold rnd
  split
  · have h3 := key (-a) (by omega)
    have h4 : 0 ≤ (2 * -a + D) / (2 * D) := Int.ediv_nonneg (by omega) (by omega)
    omega
  · have h3 := key a h2
    have h4 : 0 ≤ (2 * a + D) / (2 * D) := Int.ediv_nonneg (by omega) (by omega)
    omega

/-! ### The declination of a day -/
def interpN (l : List DP) (day : Int) (i : Nat) : Int := tenAt l (i - 1) * (dayAt l i - day) + tenAt l i * (day - dayAt l (i - 1))
def interp (l : List DP) (day : Int) (i : Nat) : Int := rnd (interpN l day i) (dayAt l i - dayAt l (i - 1))
def scan (l : List DP) (day : Int) : Nat → Nat → Int
  | _, 0 => tenAt l (l.length - 1)
  | i, d + 1 => if day ≤ dayAt l i then interp l day i else scan l day (i + 1) d
def decl (l : List DP) (day : Int) : Int := if day ≤ dayAt l 0 then tenAt l 0 else scan l day 1 (l.length - 1)

theorem interpN_bound {l : List DP} (h : Pts l) {day : Int} (hd : 0 ≤ day ∧ day ≤ 999) {i : Nat} (h0 : 0 < i) (hi : i < l.length) :
    (-899100 ≤ tenAt l (i - 1) * (dayAt l i - day) ∧ tenAt l (i - 1) * (dayAt l i - day) ≤ 899100) ∧ (-899100 ≤ tenAt l i * (day - dayAt l (i - 1)) ∧ tenAt l i * (day - dayAt l (i - 1)) ≤ 899100) := by
  have a1 := h.day i hi
  have a2 := h.day (i - 1) (by omega)
  have b1 := h.ten i hi
  have b2 := h.ten (i - 1) (by omega)
  have m1 := mul_bound (x := tenAt l (i - 1)) (y := dayAt l i - day) 900 999 (by omega) (by omega) (by omega) (by omega)
  have m2 := mul_bound (x := tenAt l i) (y := day - dayAt l (i - 1)) 900 999 (by omega) (by omega) (by omega) (by omega)
  omega

theorem decl_ev {l : List DP} (h : Pts l) {day : Int} (hd : 0 ≤ day ∧ day ≤ 999) : Ev (fun k => impl_declination.f k l day) (decl l day) := by
  have hp := h.pos
  have hf := h.few
  unfold impl_declination.f decl
  refine Ev.pos (by omega) ?_
  have e0 : rd_T74 l 0 = l.getD 0 z := rfl
  refine Ev.ite (fun _ => Ev.now _) fun _ => ?_
  have key : ∀ (d i : Nat), 0 < i → i + d = l.length → Ev (fun k => impl_declination.l0 k l day (i : Int)) (scan l day i d) := by
    intro d
    induction d with
    | zero =>
      intro i h0 hi
      refine ⟨1, fun k hk => ?_⟩
      obtain ⟨k, rfl⟩ : ∃ m, k = m + 1 := ⟨k - 1, by omega⟩
      simp only [impl_declination.l0]
      rw [if_neg (by omega), w64 (x := (l.length : Int) - 1) (by omega) (by omega), if_pos (by omega), if_pos (by omega), ten_prev l l.length hp, scan]
    | succ d ih =>
      intro i h0 hi
      have hb := interpN_bound h hd h0 (by omega)
      have hu := h.up i h0 (by omega)
      have a1 := h.day i (by omega)
      have a2 := h.day (i - 1) (by omega)
      obtain ⟨K1, h1⟩ := ih (i + 1) (by omega) (by omega)
      obtain ⟨K2, h2⟩ := rounded_ev (interpN l day i) (dayAt l i - dayAt l (i - 1)) (by unfold interpN; omega) (by unfold interpN; omega) (by omega) (by omega)
      refine ⟨max K1 K2 + 1, fun k hk => ?_⟩
      obtain ⟨k, rfl⟩ : ∃ m, k = m + 1 := ⟨k - 1, by omega⟩
      simp only [impl_declination.l0]
      have e1 : (rd_T74 l (i : Int)).f0 = dayAt l i := rfl
      have e2 : (rd_T74 l (i : Int)).f1 = tenAt l i := rfl
      rw [if_pos (by omega), w64 (x := (i : Int) - 1) (by omega) (by omega), if_pos (by omega), if_pos (by omega), if_pos (by omega), day_prev l i h0, ten_prev l i h0, e1, e2, scan]
      by_cases hc : day ≤ dayAt l i
      · rw [if_pos hc, if_pos hc, w64 (x := dayAt l i - day) (by omega) (by omega), w64 (x := day - dayAt l (i - 1)) (by omega) (by omega), w64 (x := tenAt l (i - 1) * (dayAt l i - day)) (by omega) (by omega),
          w64 (x := tenAt l i * (day - dayAt l (i - 1))) (by omega) (by omega), w64 (x := _ + _) (by omega) (by omega), w64 (x := dayAt l i - dayAt l (i - 1)) (by omega) (by omega)]
        have h2' := h2 k (by omega)
        dsimp only at h2'
        unfold interpN at h2'
        rw [h2']
        rfl
      · rw [if_neg hc, if_neg hc, w64 (x := (i : Int) + 1) (by omega) (by omega), show ((i : Int) + 1) = ((i + 1 : Nat) : Int) by omega]
        exact h1 k (by omega)
  exact key (l.length - 1) 1 (by omega) (by omega)

theorem interp_at {l : List DP} (h : Pts l) {i : Nat} (h0 : 0 < i) (hi : i < l.length) : interp l (dayAt l i) i = tenAt l i := by
  have hu := h.up i h0 hi
  unfold interp interpN
  rw [Int.sub_self, Int.mul_zero, Int.zero_add]
  exact rnd_at (by omega)

theorem scan_last {l : List DP} (h : Pts l) {day : Int} (hl : dayAt l (l.length - 1) ≤ day) : ∀ (d i : Nat), 0 < i → i + d = l.length → scan l day i d = tenAt l (l.length - 1)
  | 0, i, h0, hi => rfl
  | d + 1, i, h0, hi => by
    rw [scan]
    by_cases hc : day ≤ dayAt l i
    · rw [if_pos hc]
      have e : i = l.length - 1 := by
        by_cases e : i = l.length - 1
        · exact e
        · have := h.lt (l.length - 2 - i) i (l.length - 1) (by omega) (by omega)
          omega
      subst e
      have e2 : day = dayAt l (l.length - 1) := by omega
      rw [e2]
      exact interp_at h h0 (by omega)
    · rw [if_neg hc]
      exact scan_last h hl d (i + 1) (by omega) (by omega)

theorem on_ev {l : List DP} (h : Pts l) {day : Int} (hd : 0 ≤ day ∧ day ≤ 999) : Ev (fun k => spec_l11On.f k l day) (decl l day) := by
  have hp := h.pos
  have hf := h.few
  unfold spec_l11On.f decl
  refine Ev.pos (by omega) ?_
  have e0 : rd_T74 l 0 = l.getD 0 z := rfl
  refine Ev.ite (fun _ => Ev.now _) fun hn => ?_
  rw [w64 (x := (l.length : Int) - 1) (by omega) (by omega)]
  refine Ev.pos (by omega) ?_
  refine Ev.pos (by omega) ?_
  rw [day_prev l l.length hp, ten_prev l l.length hp]
  by_cases hl : day ≥ dayAt l (l.length - 1)
  · refine Ev.pos hl ?_
    rw [scan_last h hl _ 1 (by omega) (by omega)]
    exact Ev.now _
  · refine Ev.neg hl ?_
    have key : ∀ (d i : Nat), 0 < i → i + d = l.length → (i < l.length) → Ev (fun k => spec_l11On.l0 k l day (i : Int)) (scan l day i d) := by
      intro d
      induction d with
      | zero => intro i h0 hi hil; omega
      | succ d ih =>
        intro i h0 hi hil
        have hb := interpN_bound h hd h0 (by omega)
        have hu := h.up i h0 (by omega)
        have a1 := h.day i (by omega)
        have a2 := h.day (i - 1) (by omega)
        obtain ⟨K2, h2⟩ := round_ev (interpN l day i) (dayAt l i - dayAt l (i - 1)) (by unfold interpN; omega) (by unfold interpN; omega) (by omega) (by omega)
        have e1 : (rd_T74 l (i : Int)).f0 = dayAt l i := rfl
        have e2 : (rd_T74 l (i : Int)).f1 = tenAt l i := rfl
        by_cases hc : day ≤ dayAt l i
        · refine ⟨K2 + 1, fun k hk => ?_⟩
          obtain ⟨k, rfl⟩ : ∃ m, k = m + 1 := ⟨k - 1, by omega⟩
          simp only [spec_l11On.l0]
          rw [if_pos (by omega), if_pos (by omega), e1, e2, if_neg (by omega), w64 (x := (i : Int) - 1) (by omega) (by omega), if_pos (by omega), if_pos (by omega), day_prev l i h0, ten_prev l i h0, scan, if_pos hc]
          rw [w64 (x := dayAt l i - day) (by omega) (by omega), w64 (x := day - dayAt l (i - 1)) (by omega) (by omega), w64 (x := tenAt l (i - 1) * (dayAt l i - day)) (by omega) (by omega),
            w64 (x := tenAt l i * (day - dayAt l (i - 1))) (by omega) (by omega), w64 (x := _ + _) (by omega) (by omega), w64 (x := dayAt l i - dayAt l (i - 1)) (by omega) (by omega)]
          have h2' := h2 k (by omega)
          dsimp only at h2'
          unfold interpN at h2'
          rw [h2']
          rfl
        · have hil' : i + 1 < l.length := by
            by_cases e : i + 1 < l.length
            · exact e
            · have : i = l.length - 1 := by omega
              subst this
              omega
          obtain ⟨K1, h1⟩ := ih (i + 1) (by omega) (by omega) hil'
          refine ⟨K1 + 1, fun k hk => ?_⟩
          obtain ⟨k, rfl⟩ : ∃ m, k = m + 1 := ⟨k - 1, by omega⟩
          simp only [spec_l11On.l0]
          rw [if_pos (by omega), if_pos (by omega), e1, if_pos (by omega), scan, if_neg hc, w64 (x := (i : Int) + 1) (by omega) (by omega), show ((i : Int) + 1) = ((i + 1 : Nat) : Int) by omega]
          exact h1 k (by omega)
    by_cases e : l.length = 1
    · have hn' : ¬ day ≤ dayAt l 0 := hn
      have hl' : ¬ day ≥ dayAt l 0 := by
        rw [e] at hl
        exact hl
      omega
    · exact key (l.length - 1) 1 (by omega) (by omega) (by omega)

theorem interp_bound {l : List DP} (h : Pts l) {day : Int} {i : Nat} (h0 : 0 < i) (hi : i < l.length) (h1 : dayAt l (i - 1) ≤ day) (h2 : day ≤ dayAt l i) : -900 ≤ interp l day i ∧ interp l day i ≤ 900 := by
  have hu := h.up i h0 hi
  have b1 := h.ten i hi
  have b2 := h.ten (i - 1) (by omega)
  unfold interp
  refine rnd_bound (by omega) ?_ ?_
  all_goals
    unfold interpN
    have p1 : 0 ≤ (900 - tenAt l (i - 1)) * (dayAt l i - day) := Int.mul_nonneg (by omega) (by omega)
    have p2 : 0 ≤ (900 + tenAt l (i - 1)) * (dayAt l i - day) := Int.mul_nonneg (by omega) (by omega)
    have p3 : 0 ≤ (900 - tenAt l i) * (day - dayAt l (i - 1)) := Int.mul_nonneg (by omega) (by omega)
    have p4 : 0 ≤ (900 + tenAt l i) * (day - dayAt l (i - 1)) := Int.mul_nonneg (by omega) (by omega)
    rw [Int.sub_mul] at p1 p3
    rw [Int.add_mul] at p2 p4
    omega

theorem decl_bound {l : List DP} (h : Pts l) (day : Int) : -900 ≤ decl l day ∧ decl l day ≤ 900 := by
  have hp := h.pos
  unfold decl
  split
  · exact h.ten 0 hp
  · rename_i hn
    have key : ∀ (d i : Nat), 0 < i → i + d = l.length → dayAt l (i - 1) ≤ day → -900 ≤ scan l day i d ∧ scan l day i d ≤ 900 := by
      intro d
      induction d with
      | zero => intro i _ _ _; exact h.ten _ (by omega)
      | succ d ih =>
        intro i h0 hi hlo
        rw [scan]
        split
        · rename_i hc
          exact interp_bound h h0 (by omega) hlo hc
        · rename_i hc
          exact ih (i + 1) (by omega) (by omega) (by rw [Nat.add_sub_cancel]; omega)
    exact key _ 1 (by omega) (by omega) (by show dayAt l 0 ≤ day; omega)
end Go.Proofs.Ytmnjgbhgppopfaa.Dec
