/- slices.BinarySearchFunc over points by their days, walked. -/
import Derived.Lib.SliceRun
import Derived.Deep.RegionLaw
import Derived.Shelf.Spec.SlicesInsertGrow
import Derived.RangeFuncBox
import Derived.Shelf.SlSortCmp.QuietGrown
import Derived.Test.YtlipaiabjcaeiaaKFnPoints3
set_option maxHeartbeats 4000000
set_option maxRecDepth 1000000
set_option linter.unusedSimpArgs false
set_option linter.unusedVariables false
namespace Go.Proofs.Ytlipaiabjcaeiaa.Dec
open Go Go.RowKit YtlipaiabjcaeiaaW.PrintWords A
structure Off (g : Nat) (w w' : World) : Prop where
 os : w'.os = w.os
 tape : w'.tape = w.tape
 output : w'.output = w.output
 size : w.heap.size ≤ w'.heap.size
 block : ∀ k, k ≠ g → k < w.heap.size → w'.heap[k]? = w.heap[k]?
theorem Off.refl (g : Nat) (w : World) : Off g w w := ⟨rfl, rfl, rfl, Nat.le_refl _, fun _ _ _ => rfl⟩
theorem Off.trans {g : Nat} {a b c : World} (h : Off g a b) (k : Off g b c) : Off g a c :=
 ⟨k.os.trans h.os, k.tape.trans h.tape, k.output.trans h.output, Nat.le_trans h.size k.size, fun i hi hs => (k.block i hi (Nat.lt_of_lt_of_le hs h.size)).trans (h.block i hi hs)⟩
theorem Off.of {g : Nat} {w w' : World} (h : Below w.heap.size w w') : Off g w w' := ⟨h.os, h.tape, h.output, h.size, fun k _ hs => h.block k hs⟩
theorem Off.set {g i : Nat} {a w : World} (h : Off g a w) (u : Value) : Off g a (w.setCell ⟨g, i, none⟩ u) := by
 have hb := (Below.refl 0 w).setCell (p := ⟨g, i, none⟩) (Nat.zero_le _) u
 exact h.trans ⟨hb.os, hb.tape, hb.output, hb.size, fun k hk _ => Below.heap_setCell w _ u k hk⟩
theorem Off.below {g : Nat} {w w' : World} (h : Off g w w') (hg : g ≤ w.heap.size) : Below g w w' := ⟨h.os, h.tape, h.output, h.size, fun k hk => h.block k (by omega) (by omega)⟩
theorem Off.cell {g : Nat} {w w' : World} {p : Addr} {v : Value} (h : Off g w w') (hc : w.cell? p = some v) (hp : p.block ≠ g) : w'.cell? p = some v :=
 (World.cell?_of_block (w := w) (h.block p.block hp (World.block_lt_of_cell? w _ hc))).trans hc
theorem Off.step {g : Nat} {a w w' : World} (h : Off g a w) (hb : Below w.heap.size w w') : Off g a w' := h.trans (Off.of hb)
theorem Off.sets {g : Nat} {a : World} : ∀ (vs : List Value) (o : Nat) (w : World), Off g a w → Off g a (w.setCells g o vs)
 | [], _, _, h => h
 | v :: r, o, w, h => Off.sets r (o + 1) _ (h.set v)
end Go.Proofs.Ytlipaiabjcaeiaa.Dec
namespace Go.Proofs.Ytlipaiabjcaeiaa.Plain
open Go.RowKit YtlipaiabjcaeiaaW.PrintWords
theorem w64 {x : Int} (h1 : -9223372036854775808 ≤ x) (h2 : x ≤ 9223372036854775807) : wrap64 x = x := by
 unfold wrap64
 omega
theorem mul_bound {x y : Int} (A B : Int) (h1 : -A ≤ x) (h2 : x ≤ A) (h3 : -B ≤ y) (h4 : y ≤ B) : -(A * B) ≤ x * y ∧ x * y ≤ A * B := by
 have e1 : 0 ≤ (A - x) * (B - y) := Int.mul_nonneg (by omega) (by omega)
 have e2 : 0 ≤ (A + x) * (B + y) := Int.mul_nonneg (by omega) (by omega)
 have e3 : 0 ≤ (A - x) * (B + y) := Int.mul_nonneg (by omega) (by omega)
 have e4 : 0 ≤ (A + x) * (B - y) := Int.mul_nonneg (by omega) (by omega)
 simp only [Int.sub_mul, Int.mul_sub, Int.add_mul, Int.mul_add] at e1 e2 e3 e4
 omega
theorem Ev.some {α : Type} {g : Nat → Option α} {r : α} (h : ∀ k, g k = some r) : Ev g r := ⟨0, fun k _ => h k⟩
theorem Ev.ite {α : Type} {c : Prop} [Decidable c] {g f : Nat → Option α} {r q : α} (h : c → Ev g r) (k : ¬ c → Ev f q) : Ev (fun n => if c then g n else f n) (if c then r else q) := by
 by_cases hc : c
 ·
  obtain ⟨K, hK⟩ := h hc
  exact ⟨K, fun n hn => by simp only [if_pos hc]; exact hK n hn⟩
 ·
  obtain ⟨K, hK⟩ := k hc
  exact ⟨K, fun n hn => by simp only [if_neg hc]; exact hK n hn⟩
theorem Ev.pos {α : Type} {c : Prop} [Decidable c] {g f : Nat → Option α} {r : α} (hc : c) (h : Ev g r) : Ev (fun n => if c then g n else f n) r := by
 obtain ⟨K, hK⟩ := h
 exact ⟨K, fun n hn => by simp only [if_pos hc]; exact hK n hn⟩
theorem Ev.neg {α : Type} {c : Prop} [Decidable c] {g f : Nat → Option α} {r : α} (hc : ¬ c) (h : Ev f r) : Ev (fun n => if c then g n else f n) r := by
 obtain ⟨K, hK⟩ := h
 exact ⟨K, fun n hn => by simp only [if_neg hc]; exact hK n hn⟩
theorem Ev.bindc {α β : Type} {o : Option α} {f : Nat → α → Option β} {a : α} {r : β} (h : o = Option.some a) (k : Ev (fun n => f n a) r) : Ev (fun n => o.bind (f n)) r := by
 obtain ⟨K, hK⟩ := k
 exact ⟨K, fun n hn => by rw [h]; exact hK n hn⟩
def allFrom (P : Nat → Bool) : Nat → Nat → Bool
 | _, 0 => true
 | i, d + 1 => P i && allFrom P (i + 1) d
theorem allFrom_iff (P : Nat → Bool) : ∀ (d i : Nat), allFrom P i d = true ↔ ∀ j, i ≤ j → j < i + d → P j = true
 | 0, i => ⟨fun _ j h1 h2 => by omega, fun _ => rfl⟩
 | d + 1, i => by
  rw [allFrom, Bool.and_eq_true, allFrom_iff P d (i + 1)]
  constructor
  ·
   rintro ⟨h0, h1⟩ j hj hj2
   by_cases e : j = i
   ·
    subst e
    exact h0
   · exact h1 j (by omega) (by omega)
  ·
   intro h
   exact ⟨h i (by omega) (by omega), fun j hj hj2 => h j (by omega) (by omega)⟩
def inR (x a b : Int) : Bool := if x ≥ a then decide (x ≤ b) else false
theorem inR_iff {x a b : Int} : inR x a b = true ↔ a ≤ x ∧ x ≤ b := by
 unfold inR
 split
 ·
  simp
  omega
 ·
  simp
  omega
theorem eq_loop {α : Type} (L : Nat → List α → List α → Int → Option Bool) 
  (hL : ∀ k x0 x4, 0 ≤ x4 → L (k + 1) x0 x0 x4 = if x4 < (x0.length : Int) then L k x0 x0 (wrap64 (x4 + 1)) else some true)
  (x0 : List α) (hb : x0.length ≤ 140737488351232) : ∀ (d k i : Nat), i + d = x0.length → d < k → L k x0 x0 (i : Int) = some true
 | 0, k, i, hi, hk => by
  obtain ⟨k, rfl⟩ : ∃ m, k = m + 1 := ⟨k - 1, by omega⟩
  rw [hL _ _ _ (by omega), if_neg (by omega)]
 | d + 1, k, i, hi, hk => by
  obtain ⟨k, rfl⟩ : ∃ m, k = m + 1 := ⟨k - 1, by omega⟩
  rw [hL _ _ _ (by omega), if_pos (by omega), w64 (by omega) (by omega), show ((i : Int) + 1) = ((i + 1 : Nat) : Int) by omega]
  exact eq_loop L hL x0 hb d k (i + 1) (by omega) (by omega)
theorem eq_all {α : Type} (L : Nat → List α → List α → Int → Option Bool) 
  (hL : ∀ k x0 x4, 0 ≤ x4 → L (k + 1) x0 x0 x4 = if x4 < (x0.length : Int) then L k x0 x0 (wrap64 (x4 + 1)) else some true)
  (x0 : List α) (hb : x0.length ≤ 140737488351232) : Ev (fun k => L k x0 x0 0) true :=
 ⟨x0.length + 1, fun k hk => eq_loop L hL x0 hb x0.length k 0 (by omega) (by omega)⟩
theorem all_loop (P : Nat → Bool) (n : Nat) (hn : n ≤ 140737488351232) (L : Nat → Int → Option Bool) (fin : Option Bool)
  (hL : ∀ k i, i < n → L (k + 1) (i : Int) = if P i = true then L k (wrap64 (i + 1)) else some false) (hend : ∀ k, L (k + 1) (n : Int) = fin) :
  ∀ (d k i : Nat), i + d = n → d < k → L k (i : Int) = if allFrom P i d = true then fin else some false
 | 0, k, i, hi, hk => by
  obtain ⟨k, rfl⟩ : ∃ m, k = m + 1 := ⟨k - 1, by omega⟩
  obtain rfl : i = n := by omega
  rw [hend, allFrom, if_pos rfl]
 | d + 1, k, i, hi, hk => by
  obtain ⟨k, rfl⟩ : ∃ m, k = m + 1 := ⟨k - 1, by omega⟩
  rw [hL _ _ (by omega), w64 (by omega) (by omega), show ((i : Int) + 1) = ((i + 1 : Nat) : Int) by omega, all_loop P n hn L fin hL hend d k (i + 1) (by omega) (by omega), allFrom]
  cases P i <;> simp
theorem all_ev (P : Nat → Bool) (n : Nat) (hn : n ≤ 140737488351232) (L : Nat → Int → Option Bool) (fin : Option Bool)
  (hL : ∀ k i, i < n → L (k + 1) (i : Int) = if P i = true then L k (wrap64 (i + 1)) else some false) (hend : ∀ k, L (k + 1) (n : Int) = fin) :
  ∃ K, ∀ k, K ≤ k → L k 0 = if allFrom P 0 n = true then fin else some false :=
 ⟨n + 1, fun k hk => all_loop P n hn L fin hL hend n k 0 (by omega) (by omega)⟩
end Go.Proofs.Ytlipaiabjcaeiaa.Plain
namespace Go.Proofs.Ytlipaiabjcaeiaa.Dec
open Go.RowKit YtlipaiabjcaeiaaW.PrintWords Plain A
abbrev DP := S56
abbrev z : DP := z56
theorem within_eq (x a b : Int) : impl_within.f x a b = some (inR x a b) := by unfold impl_within.f inR; split <;> rfl
theorem in_eq (x a b : Int) : spec_l1In.f x a b = some (inR x a b) := by unfold spec_l1In.f inR; split <;> rfl
theorem isDay_eq (x : Int) : impl_isDay.f x = some (inR x 0 999) := by unfold impl_isDay.f; rw [within_eq]; rfl
theorem isDecl_eq (x : Int) : impl_isDeclination.f x = some (inR x (-900) 900) := by unfold impl_isDeclination.f; rw [within_eq]; rfl
theorem day_eq (x : Int) : spec_l11Day.f x = some (inR x 0 999) := by unfold spec_l11Day.f; rw [in_eq]; rfl
theorem tenths_eq (x : Int) : spec_l11Tenths.f x = some (inR x (-900) 900) := by unfold spec_l11Tenths.f; rw [in_eq]; rfl
def dayAt (l : List DP) (i : Nat) : Int := (l.getD i z).f0
def tenAt (l : List DP) (i : Nat) : Int := (l.getD i z).f1
def okP (l : List DP) (i : Nat) : Bool := inR (dayAt l i) 0 999 && (inR (tenAt l i) (-900) 900 && (decide (i = 0) || decide (dayAt l (i - 1) < dayAt l i)))
def rowB (l : List DP) : Bool := allFrom (okP l) 0 l.length
def okL (l : List DP) : Bool := decide (0 < l.length) && (rowB l && decide (l.length ≤ 8))
theorem day_prev (l : List DP) (i : Nat) (h : 0 < i) : (rd_T56 l ((i : Int) - 1)).f0 = dayAt l (i - 1) := by
 show (l.getD ((i : Int) - 1).toNat z).f0 = _
 rw [show ((i : Int) - 1).toNat = i - 1 by omega]
 rfl
theorem ten_prev (l : List DP) (i : Nat) (h : 0 < i) : (rd_T56 l ((i : Int) - 1)).f1 = tenAt l (i - 1) := by
 show (l.getD ((i : Int) - 1).toNat z).f1 = _
 rw [show ((i : Int) - 1).toNat = i - 1 by omega]
 rfl
theorem isRow_ev (l : List DP) (hb : l.length ≤ 140737488351232) : Ev (fun k => impl_isRow.f k l) (rowB l && decide ((l.length : Int) ≤ 8)) := by
 obtain ⟨K, hK⟩ := all_ev (okP l) l.length hb (fun k i => impl_isRow.l0 k l l (l.length : Int) i) (some (decide ((l.length : Int) ≤ 8))) (by
   intro k i hi
   simp only [impl_isRow.l0]
   rw [if_pos (by omega), if_pos (by omega), if_pos (by omega), isDay_eq, isDecl_eq]
   simp only [Option.bind_some]
   have e1 : (rd_T56 l (i : Int)).f0 = dayAt l i := rfl
   have e2 : (rd_T56 l (i : Int)).f1 = tenAt l i := rfl
   rw [e1, e2]
   unfold okP
   cases h1 : inR (dayAt l i) 0 999
   · simp
   ·
    cases h2 : inR (tenAt l i) (-900) 900
    · simp
    ·
     by_cases h3 : i = 0
     ·
      subst h3
      simp
     ·
      rw [if_pos rfl, if_pos rfl, if_pos (by omega), w64 (x := (i : Int) - 1) (by omega) (by omega), if_pos (by omega), if_pos (by omega), day_prev l i (by omega)]
      by_cases h4 : dayAt l (i - 1) < dayAt l i
      ·
       rw [if_neg (by omega)]
       simp [h3, h4]
      ·
       rw [if_pos (by omega)]
       simp [h3, h4]) (by
   intro k
   simp only [impl_isRow.l0]
   rw [if_neg (by omega)])
 refine ⟨K, fun k hk => ?_⟩
 have := hK k hk
 simp only [impl_isRow.f]
 rw [this]
 unfold rowB
 cases allFrom (okP l) 0 l.length <;> simp
theorem arePoints_ev (l : List DP) (hb : l.length ≤ 140737488351232) : Ev (fun k => impl_ArePoints.f k l) (okL l) := by
 unfold impl_ArePoints.f okL
 by_cases h : 0 < l.length
 ·
  refine Ev.pos (by omega) ?_
  rw [decide_eq_true h, Bool.true_and]
  refine Ev.bind (isRow_ev l hb) ?_
  refine Ev.some fun k => ?_
  congr 2
  exact decide_eq_decide.2 (by omega)
 ·
  refine Ev.neg (by omega) ?_
  rw [decide_eq_false h, Bool.false_and]
  exact Ev.now _
theorem good_ev (l : List DP) (hb : l.length ≤ 140737488351232) : Ev (fun k => spec_l11Good.f k l) (okL l) := by
 obtain ⟨K, hK⟩ := all_ev (okP l) l.length hb (fun k i => spec_l11Good.l0 k l i) (some (inR (l.length : Int) 1 8)) (by
   intro k i hi
   simp only [spec_l11Good.l0]
   rw [if_pos (by omega), if_pos (by omega), day_eq, tenths_eq]
   simp only [Option.bind_some]
   have e1 : (rd_T56 l (i : Int)).f0 = dayAt l i := rfl
   have e2 : (rd_T56 l (i : Int)).f1 = tenAt l i := rfl
   rw [e1, e2]
   unfold okP
   cases h1 : inR (dayAt l i) 0 999
   · simp
   ·
    cases h2 : inR (tenAt l i) (-900) 900
    · simp
    ·
     by_cases h3 : i = 0
     ·
      subst h3
      simp
     ·
      rw [if_pos rfl, if_pos rfl, if_pos (by omega), w64 (x := (i : Int) - 1) (by omega) (by omega), if_pos (by omega), if_pos (by omega), day_prev l i (by omega)]
      by_cases h4 : dayAt l (i - 1) < dayAt l i
      ·
       rw [if_neg (by omega)]
       simp [h3, h4]
      ·
       rw [if_pos (by omega)]
       simp [h3, h4]) (by
   intro k
   simp only [spec_l11Good.l0]
   rw [if_neg (by omega), in_eq]
   rfl)
 refine ⟨K, fun k hk => ?_⟩
 have := hK k hk
 simp only [spec_l11Good.f]
 rw [this]
 have e : inR (l.length : Int) 1 8 = (decide (0 < l.length) && decide (l.length ≤ 8)) := by
  rw [Bool.eq_iff_iff, inR_iff]
  simp
  omega
 rw [e]
 unfold okL rowB
 cases allFrom (okP l) 0 l.length <;> simp
structure Pts (l : List DP) : Prop where
 pos : 0 < l.length
 few : l.length ≤ 8
 day : ∀ i, i < l.length → 0 ≤ dayAt l i ∧ dayAt l i ≤ 999
 ten : ∀ i, i < l.length → -900 ≤ tenAt l i ∧ tenAt l i ≤ 900
 up : ∀ i, 0 < i → i < l.length → dayAt l (i - 1) < dayAt l i
theorem okL_iff (l : List DP) : okL l = true ↔ Pts l := by
 unfold okL rowB
 simp only [Bool.and_eq_true, decide_eq_true_eq, allFrom_iff]
 constructor
 ·
  rintro ⟨h1, h2, h3⟩
  refine ⟨h1, h3, fun i hi => ?_, fun i hi => ?_, fun i h0 hi => ?_⟩
  all_goals
   have h := h2 i (by omega) (by omega)
   unfold okP at h
   simp only [Bool.and_eq_true, Bool.or_eq_true, decide_eq_true_eq, inR_iff] at h
   omega
 ·
  intro h
  refine ⟨h.pos, fun i _ hi => ?_, h.few⟩
  have h1 := h.day i (by omega)
  have h2 := h.ten i (by omega)
  unfold okP
  simp only [Bool.and_eq_true, Bool.or_eq_true, decide_eq_true_eq, inR_iff]
  refine ⟨h1, h2, ?_⟩
  by_cases e : i = 0
  · exact .inl e
  · exact .inr (h.up i (by omega) (by omega))
theorem Pts.lt {l : List DP} (h : Pts l) : ∀ (d i j : Nat), j = i + d + 1 → j < l.length → dayAt l i < dayAt l j
 | 0, i, j, e, hj => by
  have := h.up j (by omega) hj
  rwa [show j - 1 = i by omega] at this
 | d + 1, i, j, e, hj => by
  have h1 := h.up j (by omega) hj
  have h2 := h.lt d i (j - 1) (by omega) (by omega)
  omega
def rnd (a b : Int) : Int := if a < 0 then -((2 * (-a) + b) / (2 * b)) else (2 * a + b) / (2 * b)
theorem quot_bound {a b : Int} (ha : 0 ≤ a) (hb : 1 ≤ b) : 0 ≤ (2 * a + b) / (2 * b) ∧ (2 * a + b) / (2 * b) ≤ 2 * a + b :=
 ⟨Int.ediv_nonneg (by omega) (by omega), Int.ediv_le_self _ (by omega)⟩
theorem rounded_pos (k : Nat) (a b : Int) (h0 : 0 ≤ a) (h1 : a ≤ 1000000000000) (h2 : 1 ≤ b) (h3 : b ≤ 1000000000000) : impl_rounded.f (k + 1) a b = some ((2 * a + b) / (2 * b)) := by
 have hq := quot_bound h0 h2
 simp only [impl_rounded.f]
 rw [if_neg (by omega), w64 (x := 2 * b) (by omega) (by omega), if_neg (by omega), w64 (x := 2 * a) (by omega) (by omega), w64 (x := 2 * a + b) (by omega) (by omega), Int.tdiv_eq_ediv_of_nonneg (by omega), w64 (by omega) (by omega)]
theorem rounded_ev (a b : Int) (h0 : -1000000000000 ≤ a) (h1 : a ≤ 1000000000000) (h2 : 1 ≤ b) (h3 : b ≤ 1000000000000) : Ev (fun k => impl_rounded.f k a b) (rnd a b) := by
 refine ⟨2, fun k hk => ?_⟩
 obtain ⟨k, rfl⟩ : ∃ m, k = m + 1 + 1 := ⟨k - 2, by omega⟩
 show impl_rounded.f (k + 1 + 1) a b = _
 unfold rnd
 by_cases h : a < 0
 ·
  have hq := quot_bound (a := -a) (by omega) h2
  rw [if_pos h]
  rw [impl_rounded.f]
  rw [if_pos h, w64 (x := -a) (by omega) (by omega), rounded_pos k (-a) b (by omega) (by omega) h2 h3]
  simp only [Option.bind_some]
  rw [w64 (by omega) (by omega)]
 · rw [if_neg h, rounded_pos (k + 1) a b (by omega) h1 h2 h3]
theorem round_pos (k : Nat) (a b : Int) (h0 : 0 ≤ a) (h1 : a ≤ 1000000000000) (h2 : 1 ≤ b) (h3 : b ≤ 1000000000000) : spec_l11Round.f (k + 1) a b = some ((2 * a + b) / (2 * b)) := by
 have hq := quot_bound h0 h2
 simp only [spec_l11Round.f]
 rw [if_neg (by omega), w64 (x := 2 * b) (by omega) (by omega), if_neg (by omega), w64 (x := 2 * a) (by omega) (by omega), w64 (x := 2 * a + b) (by omega) (by omega), Int.tdiv_eq_ediv_of_nonneg (by omega), w64 (by omega) (by omega)]
theorem round_ev (a b : Int) (h0 : -1000000000000 ≤ a) (h1 : a ≤ 1000000000000) (h2 : 1 ≤ b) (h3 : b ≤ 1000000000000) : Ev (fun k => spec_l11Round.f k a b) (rnd a b) := by
 refine ⟨2, fun k hk => ?_⟩
 obtain ⟨k, rfl⟩ : ∃ m, k = m + 1 + 1 := ⟨k - 2, by omega⟩
 show spec_l11Round.f (k + 1 + 1) a b = _
 unfold rnd
 by_cases h : a < 0
 ·
  have hq := quot_bound (a := -a) (by omega) h2
  rw [if_pos h]
  rw [spec_l11Round.f]
  rw [if_pos h, w64 (x := -a) (by omega) (by omega), round_pos k (-a) b (by omega) (by omega) h2 h3]
  simp only [Option.bind_some]
  rw [w64 (by omega) (by omega)]
 · rw [if_neg h, round_pos (k + 1) a b (by omega) h1 h2 h3]
theorem quot_at {t D : Int} (hD : 1 ≤ D) : (2 * (t * D) + D) / (2 * D) = t := by
 rw [show 2 * (t * D) + D = D + (2 * D) * t by rw [Int.mul_assoc, Int.mul_comm D t, Int.add_comm], Int.add_mul_ediv_left _ _ (by omega), Int.ediv_eq_zero_of_lt (by omega) (by omega), Int.zero_add]
theorem rnd_at {t D : Int} (hD : 1 ≤ D) : rnd (t * D) D = t := by
 unfold rnd
 split
 ·
  rw [show -(t * D) = (-t) * D by rw [Int.neg_mul], quot_at hD]
  omega
 · exact quot_at hD
def interpN (l : List DP) (day : Int) (i : Nat) : Int := tenAt l (i - 1) * (dayAt l i - day) + tenAt l i * (day - dayAt l (i - 1))
def interp (l : List DP) (day : Int) (i : Nat) : Int := rnd (interpN l day i) (dayAt l i - dayAt l (i - 1))
def scan (l : List DP) (day : Int) : Nat → Nat → Int
 | _, 0 => tenAt l (l.length - 1)
 | i, d + 1 => if day ≤ dayAt l i then interp l day i else scan l day (i + 1) d
def decl (l : List DP) (day : Int) : Int := if day ≤ dayAt l 0 then tenAt l 0 else scan l day 1 (l.length - 1)
theorem interpN_bound {l : List DP} (h : Pts l) {day : Int} (hd : 0 ≤ day ∧ day ≤ 999) {i : Nat} (h0 : 0 < i) (hi : i < l.length) :
  (-899100 ≤ tenAt l (i - 1) * (dayAt l i - day) ∧ tenAt l (i - 1) * (dayAt l i - day) ≤ 899100) ∧ (-899100 ≤ tenAt l i * (day - dayAt l (i - 1)) ∧ tenAt l i * (day - dayAt l (i - 1)) ≤ 899100) := by
 have a1 := h.day i hi
 have a2 := h.day (i - 1) (by omega)
 have b1 := h.ten i hi
 have b2 := h.ten (i - 1) (by omega)
 have m1 := mul_bound (x := tenAt l (i - 1)) (y := dayAt l i - day) 900 999 (by omega) (by omega) (by omega) (by omega)
 have m2 := mul_bound (x := tenAt l i) (y := day - dayAt l (i - 1)) 900 999 (by omega) (by omega) (by omega) (by omega)
 omega
theorem decl_ev {l : List DP} (h : Pts l) {day : Int} (hd : 0 ≤ day ∧ day ≤ 999) : Ev (fun k => impl_declination.f k l day) (decl l day) := by
 have hp := h.pos
 have hf := h.few
 unfold impl_declination.f decl
 refine Ev.pos (by omega) ?_
 have e0 : rd_T56 l 0 = l.getD 0 z := rfl
 refine Ev.ite (fun _ => Ev.now _) fun _ => ?_
 have key : ∀ (d i : Nat), 0 < i → i + d = l.length → Ev (fun k => impl_declination.l0 k l day (i : Int)) (scan l day i d) := by
  intro d
  induction d with
  | zero =>
   intro i h0 hi
   refine ⟨1, fun k hk => ?_⟩
   obtain ⟨k, rfl⟩ : ∃ m, k = m + 1 := ⟨k - 1, by omega⟩
   simp only [impl_declination.l0]
   rw [if_neg (by omega), w64 (x := (l.length : Int) - 1) (by omega) (by omega), if_pos (by omega), if_pos (by omega), ten_prev l l.length hp, scan]
  | succ d ih =>
   intro i h0 hi
   have hb := interpN_bound h hd h0 (by omega)
   have hu := h.up i h0 (by omega)
   have a1 := h.day i (by omega)
   have a2 := h.day (i - 1) (by omega)
   obtain ⟨K1, h1⟩ := ih (i + 1) (by omega) (by omega)
   obtain ⟨K2, h2⟩ := rounded_ev (interpN l day i) (dayAt l i - dayAt l (i - 1)) (by unfold interpN; omega) (by unfold interpN; omega) (by omega) (by omega)
   refine ⟨max K1 K2 + 1, fun k hk => ?_⟩
   obtain ⟨k, rfl⟩ : ∃ m, k = m + 1 := ⟨k - 1, by omega⟩
   simp only [impl_declination.l0]
   have e1 : (rd_T56 l (i : Int)).f0 = dayAt l i := rfl
   have e2 : (rd_T56 l (i : Int)).f1 = tenAt l i := rfl
   rw [if_pos (by omega), w64 (x := (i : Int) - 1) (by omega) (by omega), if_pos (by omega), if_pos (by omega), if_pos (by omega), day_prev l i h0, ten_prev l i h0, e1, e2, scan]
   by_cases hc : day ≤ dayAt l i
   ·
    rw [if_pos hc, if_pos hc, w64 (x := dayAt l i - day) (by omega) (by omega), w64 (x := day - dayAt l (i - 1)) (by omega) (by omega), w64 (x := tenAt l (i - 1) * (dayAt l i - day)) (by omega) (by omega),
     w64 (x := tenAt l i * (day - dayAt l (i - 1))) (by omega) (by omega), w64 (x := _ + _) (by omega) (by omega), w64 (x := dayAt l i - dayAt l (i - 1)) (by omega) (by omega)]
    have h2' := h2 k (by omega)
    dsimp only at h2'
    unfold interpN at h2'
    rw [h2']
    rfl
   ·
    rw [if_neg hc, if_neg hc, w64 (x := (i : Int) + 1) (by omega) (by omega), show ((i : Int) + 1) = ((i + 1 : Nat) : Int) by omega]
    exact h1 k (by omega)
 exact key (l.length - 1) 1 (by omega) (by omega)
theorem interp_at {l : List DP} (h : Pts l) {i : Nat} (h0 : 0 < i) (hi : i < l.length) : interp l (dayAt l i) i = tenAt l i := by
 have hu := h.up i h0 hi
 unfold interp interpN
 rw [Int.sub_self, Int.mul_zero, Int.zero_add]
 exact rnd_at (by omega)
theorem scan_last {l : List DP} (h : Pts l) {day : Int} (hl : dayAt l (l.length - 1) ≤ day) : ∀ (d i : Nat), 0 < i → i + d = l.length → scan l day i d = tenAt l (l.length - 1)
 | 0, i, h0, hi => rfl
 | d + 1, i, h0, hi => by
  rw [scan]
  by_cases hc : day ≤ dayAt l i
  ·
   rw [if_pos hc]
   have e : i = l.length - 1 := by
    by_cases e : i = l.length - 1
    · exact e
    ·
     have := h.lt (l.length - 2 - i) i (l.length - 1) (by omega) (by omega)
     omega
   subst e
   have e2 : day = dayAt l (l.length - 1) := by omega
   rw [e2]
   exact interp_at h h0 (by omega)
  ·
   rw [if_neg hc]
   exact scan_last h hl d (i + 1) (by omega) (by omega)
theorem on_ev {l : List DP} (h : Pts l) {day : Int} (hd : 0 ≤ day ∧ day ≤ 999) : Ev (fun k => spec_l11On.f k l day) (decl l day) := by
 have hp := h.pos
 have hf := h.few
 unfold spec_l11On.f decl
 refine Ev.pos (by omega) ?_
 have e0 : rd_T56 l 0 = l.getD 0 z := rfl
 refine Ev.ite (fun _ => Ev.now _) fun hn => ?_
 rw [w64 (x := (l.length : Int) - 1) (by omega) (by omega)]
 refine Ev.pos (by omega) ?_
 refine Ev.pos (by omega) ?_
 rw [day_prev l l.length hp, ten_prev l l.length hp]
 by_cases hl : day ≥ dayAt l (l.length - 1)
 ·
  refine Ev.pos hl ?_
  rw [scan_last h hl _ 1 (by omega) (by omega)]
  exact Ev.now _
 ·
  refine Ev.neg hl ?_
  have key : ∀ (d i : Nat), 0 < i → i + d = l.length → (i < l.length) → Ev (fun k => spec_l11On.l0 k l day (i : Int)) (scan l day i d) := by
   intro d
   induction d with
   | zero => intro i h0 hi hil; omega
   | succ d ih =>
    intro i h0 hi hil
    have hb := interpN_bound h hd h0 (by omega)
    have hu := h.up i h0 (by omega)
    have a1 := h.day i (by omega)
    have a2 := h.day (i - 1) (by omega)
    obtain ⟨K2, h2⟩ := round_ev (interpN l day i) (dayAt l i - dayAt l (i - 1)) (by unfold interpN; omega) (by unfold interpN; omega) (by omega) (by omega)
    have e1 : (rd_T56 l (i : Int)).f0 = dayAt l i := rfl
    have e2 : (rd_T56 l (i : Int)).f1 = tenAt l i := rfl
    by_cases hc : day ≤ dayAt l i
    ·
     refine ⟨K2 + 1, fun k hk => ?_⟩
     obtain ⟨k, rfl⟩ : ∃ m, k = m + 1 := ⟨k - 1, by omega⟩
     simp only [spec_l11On.l0]
     rw [if_pos (by omega), if_pos (by omega), e1, e2, if_neg (by omega), w64 (x := (i : Int) - 1) (by omega) (by omega), if_pos (by omega), if_pos (by omega), day_prev l i h0, ten_prev l i h0, scan, if_pos hc]
     rw [w64 (x := dayAt l i - day) (by omega) (by omega), w64 (x := day - dayAt l (i - 1)) (by omega) (by omega), w64 (x := tenAt l (i - 1) * (dayAt l i - day)) (by omega) (by omega),
      w64 (x := tenAt l i * (day - dayAt l (i - 1))) (by omega) (by omega), w64 (x := _ + _) (by omega) (by omega), w64 (x := dayAt l i - dayAt l (i - 1)) (by omega) (by omega)]
     have h2' := h2 k (by omega)
     dsimp only at h2'
     unfold interpN at h2'
     rw [h2']
     rfl
    ·
     have hil' : i + 1 < l.length := by
      by_cases e : i + 1 < l.length
      · exact e
      ·
       have : i = l.length - 1 := by omega
       subst this
       omega
     obtain ⟨K1, h1⟩ := ih (i + 1) (by omega) (by omega) hil'
     refine ⟨K1 + 1, fun k hk => ?_⟩
     obtain ⟨k, rfl⟩ : ∃ m, k = m + 1 := ⟨k - 1, by omega⟩
     simp only [spec_l11On.l0]
     rw [if_pos (by omega), if_pos (by omega), e1, if_pos (by omega), scan, if_neg hc, w64 (x := (i : Int) + 1) (by omega) (by omega), show ((i : Int) + 1) = ((i + 1 : Nat) : Int) by omega]
     exact h1 k (by omega)
  by_cases e : l.length = 1
  ·
   have hn' : ¬ day ≤ dayAt l 0 := hn
   have hl' : ¬ day ≥ dayAt l 0 := by
    rw [e] at hl
    exact hl
   omega
  · exact key (l.length - 1) 1 (by omega) (by omega) (by omega)
def lessP (ls : List DP) (i : Nat) : List DP := ls.take i ++ ls.drop (i + 1)
theorem lessP_len (ls : List DP) (i : Nat) (h : i < ls.length) : (lessP ls i).length + 1 = ls.length := by
 unfold lessP
 rw [List.length_append, List.length_take, List.length_drop]
 omega
theorem lessP_get (ls : List DP) (i : Nat) (h : i < ls.length) (j : Nat) : (lessP ls i).getD j z = if j < i then ls.getD j z else ls.getD (j + 1) z := by
 unfold lessP
 rw [List.getD_eq_getElem?_getD, List.getElem?_append, List.length_take, Nat.min_eq_left (by omega)]
 split
 ·
  rename_i c
  rw [List.getElem?_take, if_pos c, List.getD_eq_getElem?_getD]
 ·
  rename_i c
  rw [List.getElem?_drop, List.getD_eq_getElem?_getD, show i + 1 + (j - i) = j + 1 by omega]
def needTo (l r : List DP) : Nat → Bool
 | 0 => decide (0 < r.length)
 | d + 1 => needTo l r d && decide (decl l (d : Int) = decl r (d : Int))
def needB (l : List DP) (i : Nat) : Bool := needTo l (lessP l i) 1000
theorem needTo_false {l r : List DP} {d : Nat} (h : needTo l r d = false) : ∀ e, needTo l r (d + e) = false
 | 0 => h
 | e + 1 => by
  show (needTo l r (d + e) && _) = false
  rw [needTo_false h e]
  rfl
theorem needTo_pos {l r : List DP} : ∀ {d : Nat}, needTo l r d = true → 0 < r.length
 | 0, h => of_decide_eq_true h
 | d + 1, h => by
  have h2 : (needTo l r d && decide (decl l (d : Int) = decl r (d : Int))) = true := h
  rw [Bool.and_eq_true] at h2
  exact needTo_pos h2.1
def needL (l : List DP) : Nat → List Int
 | 0 => []
 | i + 1 => if needB l i = true then needL l i ++ [(i : Int)] else needL l i
theorem needL_len (l : List DP) : ∀ i, (needL l i).length ≤ i
 | 0 => Nat.le_refl _
 | i + 1 => by
  have := needL_len l i
  unfold needL
  split
  · rw [List.length_append, List.length_singleton]; omega
  · omega
theorem lessP_day (l : List DP) (i : Nat) (h : i < l.length) (j : Nat) : dayAt (lessP l i) j = dayAt l (if j < i then j else j + 1) := by
 unfold dayAt
 rw [lessP_get l i h]
 split <;> rfl
theorem lessP_ten (l : List DP) (i : Nat) (h : i < l.length) (j : Nat) : tenAt (lessP l i) j = tenAt l (if j < i then j else j + 1) := by
 unfold tenAt
 rw [lessP_get l i h]
 split <;> rfl
theorem lessP_pts {l : List DP} (h : Pts l) (i : Nat) (hi : i < l.length) (h2 : 0 < (lessP l i).length) : Pts (lessP l i) := by
 have hl := lessP_len l i hi
 have hf := h.few
 refine ⟨h2, by omega, fun j hj => ?_, fun j hj => ?_, fun j h0 hj => ?_⟩
 ·
  rw [lessP_day l i hi]
  exact h.day _ (by split <;> omega)
 ·
  rw [lessP_ten l i hi]
  exact h.ten _ (by split <;> omega)
 ·
  rw [lessP_day l i hi, lessP_day l i hi]
  by_cases c : j < i
  ·
   rw [if_pos c, if_pos (by omega)]
   exact h.lt 0 _ _ (by omega) (by omega)
  ·
   rw [if_neg c]
   by_cases c2 : j - 1 < i
   ·
    rw [if_pos c2]
    exact h.lt 1 _ _ (by omega) (by omega)
   ·
    rw [if_neg c2]
    exact h.lt 0 _ _ (by omega) (by omega)
def needM (l : List DP) : List Int × Bool := if okL l = true then (needL l l.length, true) else ([], false)
end Go.Proofs.Ytlipaiabjcaeiaa.Dec
namespace Go.Proofs.Ytlipaiabjcaeiaa.Dec
open Go Go.RowKit YtlipaiabjcaeiaaW.PrintWords YtlipaiabjcaeiaaW.PrintLast YtlipaiabjcaeiaaW.PrintMore A
def legC (x : S56) : List Value := [.int .i64 x.f0, .int .i64 x.f1]
def flat (ls : List DP) : List Value := ls.flatMap legC
theorem flat_cons (x : S56) (ls : List DP) : flat (x :: ls) = legC x ++ flat ls := rfl
theorem flat_len : ∀ ls : List DP, (flat ls).length = ls.length * 2
 | [] => rfl
 | x :: ls => by rw [flat_cons, List.length_append, flat_len ls, List.length_cons]; show 2 + _ = _; omega
theorem flat_get : ∀ (ls : List DP) (j i : Nat), i < 2 → (flat ls)[j * 2 + i]? = ls[j]?.bind (fun x => (legC x)[i]?)
 | [], j, i, h => by show ([] : List Value)[_]? = _; simp
 | x :: ls, 0, i, h => by
  rw [flat_cons, List.getElem?_append_left (by show _ < 2; omega), Nat.zero_mul, Nat.zero_add]
  rfl
 | x :: ls, j + 1, i, h => by
  rw [flat_cons, List.getElem?_append_right (by show 2 ≤ _; omega)]
  show (flat ls)[(j + 1) * 2 + i - 2]? = _
  rw [show (j + 1) * 2 + i - 2 = j * 2 + i by omega, flat_get ls j i h, List.getElem?_cons_succ]
theorem flat_mem {ls : List DP} {u : Value} (h : u ∈ flat ls) : u.oneCell' = true := by
 obtain ⟨x, _, hx⟩ := List.mem_flatMap.mp h
 simp only [legC, List.mem_cons, List.not_mem_nil, or_false] at hx
 rcases hx with rfl | rfl <;> rfl
def LegsAt (w : World) (g : Nat) (ls : List DP) : Prop := ∀ t u, (flat ls)[t]? = some u → w.cell? ⟨g, t, none⟩ = some u
theorem LegsAt.of {w : World} {base g n cap : Nat} {ok : Nat → Prop} {ls : List DP} (h : Kd.R k56 56 w base ok (.slice (some ⟨g, 0, none⟩) n cap) ls) : LegsAt w g ls ∧ ∀ t, t < ls.length * 2 → w.frozen? ⟨g, t, none⟩ = false := by
 have hn : n = ls.length := (Kd.R_reads' h).1
 have hE : ∀ j i : Nat, j < ls.length → i < 2 → w.cell? ⟨g, j * 2 + i, none⟩ = (flat ls)[j * 2 + i]? ∧ w.frozen? ⟨g, j * 2 + i, none⟩ = false := fun j i hj hi => by
  obtain ⟨ce, hcl, hM, hcc, hfr⟩ := Kd.R_elem h z56 (j : Int) (by omega) (by omega)
  obtain rfl := k56_openM hM
  rw [Int.toNat_natCast] at hcc hfr
  refine ⟨?_, hfr i⟩
  rw [flat_get ls j i hi, List.getElem?_eq_getElem hj]
  have e : ls.getD j z56 = ls[j] := by rw [List.getD_eq_getElem?_getD, List.getElem?_eq_getElem hj]; rfl
  rw [e] at hcc
  have h5 : i < (legC ls[j]).length := hi
  rw [Option.bind_some, List.getElem?_eq_getElem h5]
  exact hcc i _ (List.getElem?_eq_getElem h5)
 have hs : ∀ t : Nat, t / 2 * 2 + t % 2 = t := fun t => by omega
 refine ⟨fun t u hu => ?_, fun t ht => ?_⟩
 ·
  have ht : t < ls.length * 2 := by
   have := (List.getElem?_eq_some_iff.mp hu).1
   rwa [flat_len] at this
  have := (hE (t / 2) (t % 2) (by omega) (by omega)).1
  rw [hs] at this
  rw [this]; exact hu
 ·
  have := (hE (t / 2) (t % 2) (by omega) (by omega)).2
  rwa [hs] at this
theorem LegsAt.reads {w : World} {g : Nat} {ls : List DP} (h : LegsAt w g ls) (hl : ls.length ≤ 1000) : Kd.C k56 w (some ⟨g, 0, none⟩) ls.length ls := by
 refine ⟨rfl, by omega, fun _ => ⟨⟨g, 0, none⟩, rfl, fun j p hj => ⟨legC p, rfl, k56_mk w p, fun i u hu => ?_⟩⟩⟩
 have h5 : i < 2 := (List.getElem?_eq_some_iff.mp hu).1
 rw [Addr.add_lit, Nat.zero_add]
 refine h (j * 2 + i) u ?_
 rw [flat_get ls j i h5, hj]
 exact hu
theorem LegsAt.less {w : World} {g i : Nat} {ls : List DP} (h : LegsAt w g ls) (hi : i < ls.length) {zs : List Value} {d : World} (hd : ∀ t, d.cell? ⟨g, t, none⟩ = w.cell? ⟨g, t, none⟩) (hs : ∀ t, t < ls.length * 2 → (w.cell? ⟨g, t, none⟩).isSome = true) : LegsAt ((d.setCells g (i * 2) (flat (ls.drop (i + 1)))).setCells g ((ls.length - 1) * 2) zs) g (lessP ls i) := by
 have hfl : (flat (ls.drop (i + 1))).length = (ls.length - (i + 1)) * 2 := by rw [flat_len, List.length_drop]
 intro t u hu
 have hlen := lessP_len ls i hi
 have ht : t < (lessP ls i).length * 2 := by
  have := (List.getElem?_eq_some_iff.mp hu).1
  rwa [flat_len] at this
 have hdm : t / 2 * 2 + t % 2 = t := by omega
 rw [World.cell?_setCells_out g zs _ _ _ (fun _ _ => Or.inl (by show t < _; omega))]
 rw [← hdm, flat_get _ _ _ (by omega)] at hu
 by_cases c : t / 2 < i
 ·
  rw [World.cell?_setCells_out g _ _ _ _ (fun _ _ => Or.inl (by show t < _; omega)), hd]
  refine h t u ?_
  rw [← hdm, flat_get _ _ _ (by omega), ← hu]
  congr 1
  unfold lessP
  rw [List.getElem?_append_left (by rw [List.length_take]; omega), List.getElem?_take, if_pos c]
 ·
  have hin := World.cell?_setCells_in g (flat (ls.drop (i + 1))) (i * 2) d (fun j hj => by rw [hd]; exact hs _ (by rw [hfl] at hj; omega)) (t - i * 2) (by rw [hfl]; omega)
  rw [show i * 2 + (t - i * 2) = t by omega] at hin
  rw [hin, ← List.getElem?_eq_getElem, show t - i * 2 = (t / 2 - i) * 2 + t % 2 by omega, flat_get _ _ _ (by omega), ← hu]
  congr 1
  unfold lessP
  rw [List.getElem?_append_right (by rw [List.length_take]; omega), List.length_take, Nat.min_eq_left (by omega)]
def DelLPost (g cap : Nat) (ls : List DP) (w : World) (e : Ending) (w' : World) : Prop := e = .returned (.slice (some ⟨g, 0, none⟩) ls.length cap) ∧ Kd.C k56 w' (some ⟨g, 0, none⟩) ls.length ls ∧ Off g w w'
theorem run_clear_leg (w : World) (ty : TypeId) (b o c : Nat) (hc : ∀ j, j < 2 → (w.cell? ⟨b, o + j, none⟩).isSome = true) (hf : ∀ j, j < 2 → w.frozen? ⟨b, o + j, none⟩ = false) :
  (Builtin.clear_ #[24] ty #[.slice (some ⟨b, o, none⟩) 1 c]).run Try.prog w = .ok (.tuple #[]) (w.setCells b o [.int .i64 0, .int .i64 0]) := by
 obtain ⟨ii, hii, hz, _, _⟩ := info_parts info56
 have hst := run_storeCells_cells (P := Try.prog) b o [.int .i64 0, .int .i64 0] 0 w (by simpa using hc) (by simpa using hf) (by intro v hv'; simp at hv'; rw [hv']; rfl)
 simp only [Nat.add_zero] at hst
 have hzc : (Builtin.zeroCells (Value.agg #[.int .i64 0, .int .i64 0]).cells 1).toList = [.int .i64 0, .int .i64 0] := by simp [Builtin.zeroCells, Value.cells]; rfl
 simp [Builtin.clear_, run_underlying Try.underlying24, zeroValue, typeInfo, hii, hz, hzc, hst]
theorem deleteLW (g base cap i : Nat) (ok : Nat → Prop) (ls : List DP) (w : World) (hr : Kd.R k56 56 w base ok (.slice (some ⟨g, 0, none⟩) ls.length cap) ls) (hi : i < ls.length) (hn : ls.length ≤ 12) :
  Calls Try.prog 83 #[.slice (some ⟨g, 0, none⟩) ls.length cap, .int .i64 (i : Int), .int .i64 ((i : Int) + 1)] w (DelLPost g cap (lessP ls i) w) := by
 have hcap : ls.length ≤ cap := (Kd.R_reads' hr).2.1
 obtain ⟨hcell, hfroz⟩ := LegsAt.of hr
 have hlen := lessP_len ls i hi
 obtain ⟨ii, hii, hz0, hz1, hz2⟩ := info_parts info56
 obtain ⟨news, hnews⟩ : ∃ news, news = flat (ls.drop (i + 1)) := ⟨_, rfl⟩
 have hnl : news.length = (ls.length - (i + 1)) * 2 := by rw [hnews, flat_len, List.length_drop]
 have hget : ∀ t u, news[t]? = some u → w.cell? ⟨g, (i + 1) * 2 + t, none⟩ = some u := fun t u hu => by
  have ht : t < (ls.length - (i + 1)) * 2 := by
   have := (List.getElem?_eq_some_iff.mp hu).1
   rwa [hnl] at this
  refine hcell _ u ?_
  have hdm : t / 2 * 2 + t % 2 = t := by omega
  rw [hnews, ← hdm, flat_get _ _ _ (by omega), List.getElem?_drop] at hu
  rw [show (i + 1) * 2 + t = (i + 1 + t / 2) * 2 + t % 2 by omega, flat_get _ _ _ (by omega)]
  exact hu
 obtain ⟨A, hA, hsrc⟩ : ∃ A : Addr, (if cap = i + 1 then some (⟨g, 0, none⟩ : Addr) else some ⟨g, (i + 1) * 2, none⟩) = some A ∧ Hid (∀ t u, news[t]? = some u → w.drew.cell? (A.add t) = some u) := by
  by_cases h : cap = i + 1
  ·
   refine ⟨⟨g, 0, none⟩, by simp [h], fun t u hu => ?_⟩
   have h0 : news.length = 0 := by rw [hnl]; omega
   rw [List.length_eq_zero_iff.1 h0] at hu
   simp at hu
  ·
   refine ⟨⟨g, (i + 1) * 2, none⟩, by simp [h], fun t u hu => ?_⟩
   rw [Addr.add_lit]
   exact hget t u hu
 have hsome : ∀ t, t < ls.length * 2 → (w.cell? ⟨g, t, none⟩).isSome = true := fun t ht => by
  rw [hcell t _ (List.getElem?_eq_getElem (by rw [flat_len]; exact ht))]; rfl
 have s1 : Hid (news.length = (ls.length - (i + 1)) * 2) := hnl
 have s2 : Hid (∀ u ∈ news, u.oneCell' = true) := fun u hu => flat_mem (by rw [hnews] at hu; exact hu)
 have s3 : Hid (∀ t, t < news.length → (w.drew.cell? ⟨g, 0 + i * 2 + t, none⟩).isSome = true ∧ w.drew.frozen? ⟨g, 0 + i * 2 + t, none⟩ = false) := by
  intro t ht
  rw [hnl] at ht
  rw [Nat.zero_add]
  exact ⟨hsome _ (by omega), hfroz _ (by omega)⟩
 obtain ⟨W1, hW1⟩ : ∃ W1, W1 = w.drew.setCells g (0 + i * 2) news := ⟨_, rfl⟩
 have hc1 : ∀ t, t < 2 → (W1.cell? ⟨g, (ls.length - 1) * 2 + t, none⟩).isSome = true := fun t ht => by
  rw [hW1]
  by_cases c : (ls.length - 1) * 2 + t < 0 + i * 2 + news.length
  ·
   have hin := World.cell?_setCells_in g news (0 + i * 2) w.drew (fun j hj => (s3 j hj).1) ((ls.length - 1) * 2 + t - i * 2) (by omega)
   rw [show 0 + i * 2 + ((ls.length - 1) * 2 + t - i * 2) = (ls.length - 1) * 2 + t by omega] at hin
   rw [hin]; rfl
  ·
   rw [World.cell?_setCells_out g _ _ _ _ (fun _ _ => Or.inr (by show 0 + i * 2 + news.length ≤ (ls.length - 1) * 2 + t; omega))]
   exact hsome _ (by omega)
 have hf1 : ∀ t, t < 2 → W1.frozen? ⟨g, (ls.length - 1) * 2 + t, none⟩ = false := fun t ht => by
  rw [hW1, World.frozen?_setCells]
  exact hfroz _ (by omega)
 have e1 : i + (ls.length - (i + 1)) = ls.length - 1 := by omega
 have e2 : ls.length - (ls.length - 1) = 1 := by omega
 have hcl : ∀ ty, (Builtin.clear_ #[24] ty #[.slice (some ⟨g, (i + (ls.length - (i + 1))) * 2, none⟩) (ls.length - (i + (ls.length - (i + 1)))) (cap - (i + (ls.length - (i + 1))))]).run Try.prog W1 = .ok (.tuple #[]) (W1.setCells g ((ls.length - 1) * 2) [.int .i64 0, .int .i64 0]) :=
  fun ty => by rw [e1, e2]; exact run_clear_leg W1 ty g _ _ hc1 hf1
 have HE1 := Aside0.mk e1
 clear e1 e2
 have hpost : DelLPost g cap (lessP ls i) w (.returned (.slice (some ⟨g, 0, none⟩) (lessP ls i).length cap)) (W1.setCells g ((ls.length - 1) * 2) [.int .i64 0, .int .i64 0]) := by
  refine ⟨rfl, LegsAt.reads ?_ (by omega), Off.sets _ _ _ ?_⟩
  ·
   have h := LegsAt.less (zs := [.int .i64 0, .int .i64 0]) (d := w.drew) hcell hi (fun _ => rfl) hsome
   rw [hW1, hnews, Nat.zero_add]
   exact h
  ·
   rw [hW1]
   exact Off.sets _ _ _ (Off.of (below_drew1 (Below.refl _ _)))
 have hfin : DelLPost g cap (lessP ls i) w (.returned (.slice (some ⟨g, 0, none⟩) (i + (ls.length - (i + 1))) cap)) (W1.setCells g ((ls.length - 1) * 2) [.int .i64 0, .int .i64 0]) := by
  rw [show i + (ls.length - (i + 1)) = (lessP ls i).length by omega]; exact hpost
 have HP := Aside0.mk hfin
 have hW : Hid (W1 = w.drew.setCells g (0 + i * 2) news) := hW1
 have hic : i ≤ cap := by omega
 have hjc : i + 1 ≤ cap := by omega
 have HLN := Aside0.mk hlen
 clear hfin hlen hW1 hpost hc1 hf1 hget hnews hnl hcell hfroz hsome hr
 have hp0 : (0 : Int) ≤ (i : Int) + 1 := by omega
 have hp1 : (i : Int) + 1 ≤ (ls.length : Int) := by omega
 have hne : ((i : Int) == (i : Int) + 1) = false := by rw [beq_eq_false_iff_ne]; omega
 go_enter Try.func83, Try.ntmps83
 go_wp2
 go_region_law (refine step_append_room rfl (.tmp 22) (.tmp 25) 24 rfl 56 ii 2 Try.underlying24 hii hz1 g 0 i cap (by simp [Act.eval, Act.put]) A (ls.length - (i + 1)) (cap - (i + 1)) news (by simp [Act.eval, Act.put]) s1.out hsrc.out s2.out (by omega) s3.out ?_; rw [← hW.out])
 all_goals go_wp2
 all_goals exact bodyPost_ret (v := .slice (some ⟨g, 0, none⟩) (i + (ls.length - (i + 1))) cap) (by simp [results, Try.results83, go_sem]) rfl HP.out
end Go.Proofs.Ytlipaiabjcaeiaa.Dec
namespace Go.Proofs.Ytlipaiabjcaeiaa.Net
open Go Go.RowKit YtlipaiabjcaeiaaW.PrintWords
def Sine.Laid (_ : World) : Prop := True
theorem Sine.Laid.keep {w W : World} (_ : Sine.Laid w) (_ : Below w.heap.size w W) : Sine.Laid W := trivial
end Go.Proofs.Ytlipaiabjcaeiaa.Net
namespace Go.Proofs.Ytlipaiabjcaeiaa.Dec
open Go Go.RowKit YtlipaiabjcaeiaaW.PrintWords YtlipaiabjcaeiaaW.PrintLast YtlipaiabjcaeiaaW.PrintMore A
theorem eqNilP (la : Addr) (n c : Nat) (w : World) : (binOp .eql 24 (.slice (some la) n c) (.slice none 0 0)).run Try.prog w = .ok (.bool false) w := by
 have h : ∀ d : Nat, (Op.equalIn (d + 1) 24 (.slice (some la) n c) (.slice none 0 0)).run Try.prog w = .ok false w := fun d => by simp [Op.equalIn, run_underlying Try.underlying24]
 simp [binOp, Op.equal, Op.maxDepth, h]
attribute [local go_sem] eqNilP
theorem cloneP (la : Addr) (c : Nat) (ls : List DP) (w : World) (hr0 : Kd.C k56 w (some la) ls.length ls) (hn : ls.length ≤ 12) :
  Calls Try.prog 79 #[.slice (some la) ls.length c] w fun e w' => ∃ v, e = .returned v ∧ Kd.R k56 56 w' w.heap.size (fun b => w.heap.size ≤ b) v ls ∧ Below w.heap.size w w' := by
 have HR0 := Aside0.mk hr0
 have HB := Aside0.mk (Below.refl w.heap.size w)
 clear hr0
 go_enter Try.func79, Try.ntmps79
 go_wp2_with (first
  | ((with_reducible refine gate_dst (N := 5) rfl ?_); refine Kd.R_lit k56 _ 56 ?hg (N := 5) ?hd (xs := ([] : List DP)) (inner := []) (ok := fun b => w.heap.size ≤ b) (okp := fun b => w.heap.size ≤ b) ?hr ?hp (fun _ hk => hk) (Nat.le_refl _) (Below.refl _ _) (Nat.le_refl _) (by simp) ?_; (case hd => rfl); (case hg => rfl); (case hr => first | (go_simp; done) | (go_simp; rfl)); (case hp => exact (Reps.none _ _)); intro v1 w1 ho1 hb hg_ hnew_; clear hg_ hnew_; have HO := Aside0.mk ho1; replace HB := Aside0.mk (below_step HB.out hb); clear hb ho1)
  | ((with_reducible refine gate_builtin (b := .append) (xs := #[.tmp 5, .tmp 6]) rfl ?_); at_builtin; refine Kd.R_append_rows k56 (w0 := w) w.heap.size rfl (.tmp 5) (.tmp 6) 24 56 (.agg #[(.int .i64 0), (.int .i64 0)]) 16 rfl Try.underlying24 info56 rfl (by decide) (by omega) v1 [] ls _ _ _ (fun b => w.heap.size ≤ b) (fun _ => False) rfl rfl ?aO ?aR (fun _ _ h => h) (fun _ h => h.elim) ?aF ?aB ?aS ?aL ?_; (case aR => exact (Kd.C_below HR0.out HB.out)); (case aB => exact HB.out); (case aF => intro b hb; have := below_size HB.out; omega); (case aO => exact HO.out); (case aS => exact (below_size HB.out)); (case aL => simp; omega); intro v2 w2 ho hb hg hat; have HP1 := Aside0.mk ho; have HP2 := Aside0.mk hb; clear ho hb hg hat))
 go_ret
 exact ⟨_, rfl, HP1.out, HP2.out⟩
end Go.Proofs.Ytlipaiabjcaeiaa.Dec
namespace Go.Proofs.Ytlipaiabjcaeiaa.A
open Go Go.RowKit YtlipaiabjcaeiaaW.PrintWords YtlipaiabjcaeiaaW.PrintLast YtlipaiabjcaeiaaW.PrintMore
open Net (Sine.Laid)
open Dec
def impl_NeedlessPoints.f (l0 : List DP) : Option (List Int × Bool) := if l0.length ≤ 140737488351232 then some (needM l0) else none
theorem impl_NeedlessPoints.calls (A0 : Option Addr) (c : Nat) (ls : List DP) (r1 : List Int) (r2 : Bool) (w : World) (hr0 : Kd.C k56 w A0 ls.length ls) (hc : ls.length ≤ c) (h : impl_NeedlessPoints.f ls = some (r1, r2)) (hL : Sine.Laid w) :
  Calls Try.prog 43 #[.slice A0 ls.length c] w fun e w' => ∃ v0_ : Value, e = .returned (.tuple #[v0_, .bool r2]) ∧ Kd.R (Kd.int .i64) 3 w' w.heap.size (fun _ => True) v0_ r1 ∧ Below w.heap.size w w' := by
 unfold impl_NeedlessPoints.f at h
 by_cases hb : ls.length ≤ 140737488351232
 case neg => rw [if_neg hb] at h; cases h
 rw [if_pos hb] at h
 obtain ⟨K, hK⟩ := arePoints_ev ls hb
 have HA := Aside0.mk (hK K (Nat.le_refl _))
 have HR := Aside0.mk hr0
 have HB := Aside0.mk (Below.refl w.heap.size w)
 unfold needM at h
 cases hv : okL ls
 ·
  rw [if_neg (by rw [hv]; simp)] at h
  simp only [Option.some.injEq, Prod.mk.injEq] at h
  obtain ⟨rfl, rfl⟩ := h
  rw [hv] at HA
  clear hK hr0 hL hb hv
  go_enter Try.func43, Try.ntmps43
  go_wp2_with (go_at_call 22; (with_reducible refine (impl_ArePoints.calls K _ _ ls false _ ?s1 hc HA.out).mono ?_); (case s1 => exact HR.out); rintro e w' ⟨rfl, hw⟩; replace HB := Aside0.mk hw; clear hw)
  exact bodyPost_ret (v := .tuple #[.slice none 0 0, .bool false]) (by simp [results, Try.results43, go_sem]) rfl ⟨_, rfl, Kd.R_nil _ _ _ _ _, by repeat (first | exact HB.out | apply below_drew1)⟩
 ·
  rw [hv] at HA
  rw [if_pos hv] at h
  simp only [Option.some.injEq, Prod.mk.injEq] at h
  obtain ⟨rfl, rfl⟩ := h
  have hp := (okL_iff ls).mp hv
  have HPT := Aside0.mk hp
  have hn := hp.few
  obtain ⟨la, e2, _⟩ := at_T56 hr0 0 (by omega) (by have := hp.pos; omega)
  cases e2
  clear hK hr0 hL hb hv hp
  go_enter Try.func43, Try.ntmps43
  go_wp2_with (go_at_call 22; (with_reducible refine (impl_ArePoints.calls K _ _ ls true _ ?s1 hc HA.out).mono ?_); (case s1 => exact HR.out); rintro e w' ⟨rfl, hw⟩; replace HB := Aside0.mk hw; clear hw)
  go_loopw [4, 14] (fun v4 v14 W => ∃ i : Nat, i ≤ ls.length ∧ v14 = .int .i64 i ∧ Aside0 (Kd.R (Kd.int .i64) 3 W w.heap.size (fun _ => True) v4 (needL ls i)) ∧ Aside0 (Below w.heap.size w W)) (fun _ v14 _ => ls.length - (intOf v14).toNat)
  case atStart => exact ⟨0, Nat.zero_le _, rfl, ⟨Kd.R_nil _ _ _ _ _⟩, HB⟩
  case round =>
   obtain ⟨i, hi, rfl, HV, HW⟩ := hrel
   clear HB
   by_cases hlt : i < ls.length
   ·
    have i0 : (0 : Int) ≤ (i : Int) := by omega
    have i1 : (i : Int) < (ls.length : Int) := by omega
    have i2 : (i : Int) ≤ 8 := by omega
    obtain ⟨vA, vC, ev⟩ := Kd.R_slice HV.out
    subst ev
    have HNL := needL_len ls i
    have hll := lessP_len ls i hlt
    have HST : Aside0 (needL ls (i + 1) = if needTo ls (lessP ls i) 1000 = true then needL ls i ++ [(i : Int)] else needL ls i) := ⟨rfl⟩
    have HPR : Aside0 (0 < (lessP ls i).length → Pts (lessP ls i)) := ⟨lessP_pts HPT.out i hlt⟩
    have HLL := Aside0.mk hll
    have HCL : Aside0 (∀ W', Below w.heap.size w W' → Calls Try.prog 79 #[.slice (some la) ls.length c] W' fun e w' => ∃ v, e = .returned v ∧ Kd.R k56 56 w' W'.heap.size (fun b => W'.heap.size ≤ b) v ls ∧ Below W'.heap.size W' w') := ⟨fun W' hW => cloneP la c ls W' (Kd.C_below HR.out hW) (by omega)⟩
    have HDL : Aside0 (∀ (g base cap : Nat) (ok : Nat → Prop) (W' : World), Kd.R k56 56 W' base ok (.slice (some ⟨g, 0, none⟩) ls.length cap) ls → Calls Try.prog 83 #[.slice (some ⟨g, 0, none⟩) ls.length cap, .int .i64 (i : Int), .int .i64 ((i : Int) + 1)] W' (DelLPost g cap (lessP ls i) W')) := ⟨fun g base cap ok W' h => deleteLW g base cap i ok ls W' h hlt (by omega)⟩
    have hle : (lessP ls i).length ≤ 8 := by omega
    have HD1 : Aside0 (∀ (d : Nat) (W' : World), d < 1000 → Below w.heap.size w W' → Calls Try.prog 53 #[.slice (some la) ls.length c, .int .i64 (d : Int)] W' fun e w' => e = .returned (.int .i64 (decl ls (d : Int))) ∧ Below W'.heap.size W' w') := ⟨fun d W' hd hW => by
     obtain ⟨K, hK⟩ := decl_ev HPT.out (day := (d : Int)) (by omega)
     exact impl_declination.calls K _ _ ls _ _ W' (Kd.C_below HR.out hW) hc (hK K (Nat.le_refl _))⟩
    have HD2 : Aside0 (∀ (g cap d : Nat) (W' : World), d < 1000 → 0 < (lessP ls i).length → (lessP ls i).length ≤ cap → Kd.C k56 W' (some ⟨g, 0, none⟩) (lessP ls i).length (lessP ls i) → Calls Try.prog 53 #[.slice (some ⟨g, 0, none⟩) (lessP ls i).length cap, .int .i64 (d : Int)] W' fun e w' => e = .returned (.int .i64 (decl (lessP ls i) (d : Int))) ∧ Below W'.heap.size W' w') := ⟨fun g cap d W' hd h0 hcap hC => by
     obtain ⟨K, hK⟩ := decl_ev (HPR.out h0) (day := (d : Int)) (by omega)
     exact impl_declination.calls K _ _ _ _ _ W' hC hcap (hK K (Nat.le_refl _))⟩
    clear hll HPR
    generalize lessP ls i = rs at *
    go_wp2_with (first
     | (go_at_call 79; (with_reducible refine (HCL.out _ HW.out).mono ?_); rintro e w1 ⟨v, rfl, hv, hw⟩; obtain ⟨g, cap, rfl, hg1, hg2, _⟩ := Kd.R_form hv (by omega); have hcap := (Kd.R_reads' hv).2.1; have HV1 := Aside0.mk hv; have HB1 := Aside0.mk hw; clear hv hw)
     | (go_at_call 83; (with_reducible refine (HDL.out g _ cap _ _ HV1.out).mono ?_); rintro e w2 ⟨rfl, hcc, hoff⟩; have HC := Aside0.mk hcc; have HBW := Aside0.mk (HB1.out.trans ((hoff.below (Nat.le_of_lt hg2)).mono hg1)); clear hcc hoff))
    have hcp : rs.length ≤ cap := by have := HLL.out; omega
    have HV2 := Aside0.mk (Kd.R_below HV.out HBW.out)
    have HW2 := Aside0.mk (below_step HW.out HBW.out)
    clear HV1 HB1 HBW HCL HDL HV HW
    go_loopw [7, 8] (fun v7 v8 W => ∃ d : Nat, d ≤ 1000 ∧ v8 = .int .i64 d ∧ v7 = .bool (needTo ls rs d) ∧ Aside0 (Below w2.heap.size w2 W)) (fun _ v8 _ => 1000 - (intOf v8).toNat)
    case atStart => exact ⟨0, by omega, rfl, by unfold needTo; simp, ⟨Below.refl _ _⟩⟩
    case round =>
     obtain ⟨d, hd, rfl, rfl, HD⟩ := hrel
     by_cases hd1 : d < 1000
     ·
      have d0 : (0 : Int) ≤ (d : Int) := by omega
      have d1 : (d : Int) ≤ 999 := by omega
      cases hnt : needTo ls rs d
      ·
       have hf := needTo_false hnt (1000 - d)
       rw [show d + (1000 - d) = 1000 by omega] at hf
       have HE := Aside0.mk (HST.out.trans (if_neg (by rw [hf]; decide)))
       clear hf hnt
       go_wp2
       exact ⟨⟨i + 1, hlt, by go_num, ⟨by rw [HE.out]; exact Kd.R_below HV2.out HD.out⟩, ⟨below_step HW2.out HD.out⟩⟩, by simp [intOf]; omega⟩
      ·
       have HPS := Aside0.mk (needTo_pos hnt)
       have HE : Aside0 (needTo ls rs (d + 1) = (decl ls (d : Int) == decl rs (d : Int))) := ⟨by show (needTo ls rs d && decide (decl ls (d : Int) = decl rs (d : Int))) = _; rw [hnt, Bool.true_and]; rfl⟩
       clear hnt
       go_wp2_with (first
        | (go_at_call 53; (with_reducible refine (HD1.out d _ hd1 (below_step HW2.out HD.out)).mono ?_); rintro e w5 ⟨rfl, hw⟩; replace HD := Aside0.mk (below_step HD.out hw); clear hw)
        | (go_at_call 53; (with_reducible refine (HD2.out g cap d _ hd1 HPS.out hcp (Kd.C_below HC.out HD.out)).mono ?_); rintro e w6 ⟨rfl, hw⟩; replace HD := Aside0.mk (below_step HD.out hw); clear hw))
       exact ⟨⟨d + 1, by omega, by go_num, by rw [HE.out], HD⟩, by simp [intOf]; omega⟩
     ·
      obtain rfl : d = 1000 := by omega
      cases hnt : needTo ls rs 1000
      ·
       have HE := Aside0.mk (HST.out.trans (if_neg (by rw [hnt]; decide)))
       clear hnt
       go_wp2
       exact ⟨⟨i + 1, hlt, by go_num, ⟨by rw [HE.out]; exact Kd.R_below HV2.out HD.out⟩, ⟨below_step HW2.out HD.out⟩⟩, by simp [intOf]; omega⟩
      ·
       have HE := Aside0.mk (HST.out.trans (if_pos hnt))
       clear hnt
       have HV3 := Aside0.mk (Kd.R_below HV2.out HD.out)
       have HW3 := Aside0.mk (below_step HW2.out HD.out)
       go_wp2_with ((with_reducible refine gate_builtin (b := .append) (xs := #[.tmp 41, .tmp 43]) rfl ?_); at_builtin; refine Kd.R_append (Kd.int .i64) (w0 := w) w.heap.size rfl (.tmp 41) (.tmp 43) 32 3 (.int .i64 0) 8 rfl Try.underlying32 info3 rfl (by decide) (by omega) (.slice vA (needL ls i).length vC) (needL ls i) (i : Int) [.int .i64 (i : Int)] (fun _ => True) (fun _ => False) rfl rfl ?aP (fun _ hk => hk.elim) ?aF ?aO ?aB ?aS ?aL ?_; (case aP => exact rfl); (case aF => intro b hb; trivial); (case aO => exact HV3.out); (case aB => exact HW3.out); (case aS => exact below_size HW3.out); (case aL => omega); intro v7_ w7_ ho hb hg hat; have HP2 := Aside0.mk ho; have HP3 := Aside0.mk hb; clear ho hb hg hat)
       exact ⟨⟨i + 1, hlt, by go_num, by rw [HE.out]; exact HP2, HP3⟩, by simp [intOf]; omega⟩
   ·
    obtain rfl : i = ls.length := by omega
    go_wp2
    obtain ⟨vA, vC, ev⟩ := Kd.R_slice HV.out
    subst ev
    exact bodyPost_ret (v := .tuple #[.slice vA (needL ls ls.length).length vC, .bool true]) (by simp [results, Try.results43, go_sem]) rfl ⟨_, rfl, HV.out, HW.out⟩
end Go.Proofs.Ytlipaiabjcaeiaa.A
namespace Go.Proofs.Ytlipaiabjcaeiaa.Dec
open Go Go.RowKit Go.Lib YtlipaiabjcaeiaaW.PrintWords YtlipaiabjcaeiaaW.PrintLast YtlipaiabjcaeiaaW.PrintMore A
theorem setCells_row (g : Nat) {t : TypeId} {fr : Nat × Nat} : ∀ (vs : List Value) (o : Nat) (w : World) (cur : Array Value), w.heap[g]? = Option.some (.cells cur t fr) → ∃ cur', (w.setCells g o vs).heap[g]? = some (.cells cur' t fr) ∧ cur'.size = cur.size
 | [], _, _, cur, h => ⟨cur, h, rfl⟩
 | v :: r, o, w, cur, h => by
  have h2 : (w.setCell ⟨g, o, none⟩ v).heap[g]? = some (.cells (cur.setIfInBounds o v) t fr) := by
   obtain ⟨hlt, hk⟩ := Array.getElem?_eq_some_iff.1 h
   show (w.heap.modify g _)[g]? = _
   rw [Array.getElem?_eq_getElem (by rw [Array.size_modify]; exact hlt), Array.getElem_modify_self, hk]
   rfl
  obtain ⟨c, h3, h4⟩ := setCells_row g r (o + 1) _ _ h2
  exact ⟨c, h3, by rw [h4, Array.size_setIfInBounds]⟩
theorem row_cell {w : World} {g : Nat} {cur : Array Value} {e : TypeId} (hg : w.heap[g]? = Option.some (.cells cur e (0, 0))) (j : Nat) : w.cell? ⟨g, j, none⟩ = cur[j]? := by simp [World.cell?, hg]
theorem row_frozen {w : World} {g : Nat} {cur : Array Value} {e : TypeId} (hg : w.heap[g]? = Option.some (.cells cur e (0, 0))) (j : Nat) : w.frozen? ⟨g, j, none⟩ = false := by simp [World.frozen?, hg]
theorem own_of {w : World} {g base cap n : Nat} {cur : Array Value} {xs : List Value} {e : TypeId} (hg : w.heap[g]? = Option.some (.cells cur e (0, 0))) (hb : base ≤ g) (hn : n ≤ cap) (hm : cap ≤ maxLen) (hs : cur.size = cap * 2) (hl : xs.length = n * 2) (hc : ∀ j u, xs[j]? = some u → w.cell? ⟨g, j, none⟩ = some u) : w.ownsRow base e 2 (.slice (some ⟨g, 0, none⟩) n cap) n xs := by
 refine ⟨hl, .inr ⟨g, cap, cur, rfl, hb, hg, hn, hm, hs, ?_⟩⟩
 apply List.ext_getElem?
 intro j
 rw [List.getElem?_take]
 by_cases h : j < n * 2
 ·
  rw [if_pos h]
  have hj := hc j xs[j] (List.getElem?_eq_getElem (by omega))
  rw [List.getElem?_eq_getElem (by omega : j < xs.length), ← hj, row_cell hg, Array.getElem?_toList]
 · rw [if_neg h, List.getElem?_eq_none (by omega)]
theorem flat_reps : ∀ (ls : List DP) (w : World) (base : Nat) (ok : Nat → Prop), Reps (Kd.M k56 w base ok) 2 ls (flat ls) := by
 intro ls w base ok
 refine ⟨flat_len ls, ?_⟩
 induction ls with
 | nil => intro j p h; simp at h
 | cons x ls ih =>
  intro j p h
  cases j with
  | zero =>
   obtain rfl : x = p := by simpa using h
   rw [Nat.zero_mul, List.drop_zero]
   show Kd.M _ _ _ _ _ ((legC x ++ flat ls).take 2)
   rw [List.take_append_of_le_length (by show 2 ≤ 2; omega)]
   exact k56_mkM w base ok x
  | succ j =>
   have := ih j p (by simpa using h)
   rw [show (j + 1) * 2 = 2 + j * 2 by omega, ← List.drop_drop]
   exact this
structure RowP (w : World) (base g cap : Nat) (ls : List DP) : Prop where
 block : ∃ cur, w.heap[g]? = Option.some (.cells cur 56 (0, 0)) ∧ cur.size = cap * 2
 le : base ≤ g
 len : ls.length ≤ cap
 max : cap ≤ maxLen
 cells : ∀ j u, (flat ls)[j]? = some u → w.cell? ⟨g, j, none⟩ = some u
theorem RowP.kd {w : World} {base g cap : Nat} {ls : List DP} (h : RowP w base g cap ls) (ok : Nat → Prop) (hk : ok g) : Kd.R k56 56 w base ok (.slice (some ⟨g, 0, none⟩) ls.length cap) ls := by
 obtain ⟨cur, h1, h2⟩ := h.block
 refine ⟨fun k e => ?_, flat ls, own_of h1 h.le h.len h.max h2 (flat_len ls) h.cells, flat_reps _ _ _ _⟩
 obtain rfl : g = k := by simpa [Value.ownBlock] using e
 exact hk
theorem RowP.room {w : World} {base g cap : Nat} {ls : List DP} (h : RowP w base g cap ls) (j : Nat) (hj : j < cap * 2) : (w.cell? ⟨g, j, none⟩).isSome = true ∧ w.frozen? ⟨g, j, none⟩ = false := by
 obtain ⟨cur, h1, h2⟩ := h.block
 rw [row_cell h1, row_frozen h1]
 exact ⟨by rw [Array.getElem?_eq_getElem (by omega)]; rfl, rfl⟩
theorem run_copy2 (w : World) (ty : TypeId) (b o dLen dCap : Nat) (a : Addr) (sLen sCap : Nat) (cs : List Value) (hn : cs.length = Nat.min sLen dLen * 2)
  (hsrc : ∀ j v, cs[j]? = some v → w.cell? (a.add j) = some v) (hc : ∀ j, j < cs.length → (w.cell? ⟨b, o + j, none⟩).isSome = true) (hf : ∀ j, j < cs.length → w.frozen? ⟨b, o + j, none⟩ = false) (h1 : ∀ v ∈ cs, v.oneCell' = true) :
  (Builtin.copy_ #[24, 24] ty #[.slice (some ⟨b, o, none⟩) dLen dCap, .slice (some a) sLen sCap]).run Try.prog w = .ok (goInt (Nat.min sLen dLen)) (w.setCells b o cs) := by
 obtain ⟨i0, hi, hz0, hz1, hz2⟩ := info_parts info56
 have hl := run_loadCells_list (P := Try.prog) w a cs hsrc
 have hst := run_storeCells_cells (P := Try.prog) b o cs 0 w (by simpa using hc) (by simpa using hf) h1
 simp [Builtin.copy_, run_underlying Try.underlying24, Builtin.lenOf, Builtin.firstCells, sizeOf, typeInfo, hi, hz1, ← hn, hl, hst]
def insL (ls : List DP) (i : Nat) (p : DP) : List DP := ls.take i ++ p :: ls.drop i
theorem insL_len (ls : List DP) (i : Nat) (p : DP) (h : i ≤ ls.length) : (insL ls i p).length = ls.length + 1 := by
 unfold insL
 rw [List.length_append, List.length_cons, List.length_take, List.length_drop]
 omega
theorem flat_app : ∀ a b : List DP, flat (a ++ b) = flat a ++ flat b
 | [], _ => rfl
 | x :: a, b => by rw [List.cons_append, flat_cons, flat_cons, flat_app a b, List.append_assoc]
theorem insL_cell (ls : List DP) (i : Nat) (p : DP) (h : i ≤ ls.length) (t : Nat) : (flat (insL ls i p))[t]? = if t < i * 2 then (flat ls)[t]? else if t < (i + 1) * 2 then (legC p)[t - i * 2]? else (flat (ls.drop i))[t - (i + 1) * 2]? := by
 unfold insL
 rw [flat_app, flat_cons]
 have hl : (flat (ls.take i)).length = i * 2 := by rw [flat_len, List.length_take, Nat.min_eq_left h]
 have hs : flat ls = flat (ls.take i) ++ flat (ls.drop i) := by rw [← flat_app, List.take_append_drop]
 have hp : (legC p).length = 2 := rfl
 rw [List.getElem?_append]
 split
 ·
  rename_i c
  rw [hl] at c
  rw [if_pos c, hs, List.getElem?_append_left (by omega)]
 ·
  rename_i c
  rw [hl] at c ⊢
  rw [if_neg c, List.getElem?_append]
  split
  ·
   rename_i d
   rw [if_pos (by omega)]
  ·
   rename_i d
   rw [if_neg (by omega), hp]
   congr 1
   omega
def InsPost (base : Nat) (w : World) (ls : List DP) (e : Ending) (w' : World) : Prop := ∃ g cap, e = .returned (.slice (some ⟨g, 0, none⟩) ls.length cap) ∧ RowP w' base g cap ls ∧ Below base w w'
theorem Off.below' {g base : Nat} {w w' : World} (h : Off g w w') (hb : base ≤ g) (hg : g < w.heap.size) : Below base w w' := by
 refine ⟨h.os, h.tape, h.output, h.size, fun k hk => ?_⟩
 exact h.block k (by omega) (by omega)
theorem RowP.of_own {w : World} {base g cap : Nat} {ls : List DP} (h : w.ownsRow base 56 2 (.slice (some ⟨g, 0, none⟩) ls.length cap) ls.length (flat ls)) : RowP w base g cap ls := by
 obtain ⟨h0, ⟨h1, _⟩ | ⟨g', cap', cur, h1, h2, h3, h4, h5, h6, h7⟩⟩ := h
 · cases h1
 ·
  obtain ⟨rfl, rfl⟩ : g = g' ∧ cap = cap' := by injection h1 with a b c; injection a with a; injection a with a; exact ⟨a, c⟩
  refine ⟨⟨cur, h3, h6⟩, h2, h4, h5, fun j u hj => ?_⟩
  rw [← h7, List.getElem?_take] at hj
  split at hj
  · rw [row_cell h3, ← Array.getElem?_toList]; exact hj
  · cases hj
theorem RowP.own {w : World} {base g cap : Nat} {ls : List DP} (h : RowP w base g cap ls) : w.ownsRow base 56 2 (.slice (some ⟨g, 0, none⟩) ls.length cap) ls.length (flat ls) := by
 obtain ⟨cur, h1, h2⟩ := h.block
 exact own_of h1 h.le h.len h.max h2 (flat_len ls) h.cells
def PtAt (w : World) (b : Nat) (p : DP) : Prop := w.heap[b]? = some (.cells #[.int .i64 p.f0, .int .i64 p.f1] 56 (0, 0))
theorem PtAt.cells {w : World} {b : Nat} {p : DP} (h : PtAt w b p) : ∀ j u, (legC p)[j]? = some u → w.cell? ((⟨b, 0, none⟩ : Addr).add j) = some u := by
 intro j u hj
 rw [Addr.add_lit, Nat.zero_add, row_cell (show w.heap[b]? = _ from h)]
 have hl : j < 2 := (List.getElem?_eq_some_iff.1 hj).1
 match j, hl with
 | 0, _ => exact hj
 | 1, _ => exact hj
theorem insEnd_post {base g g1 c1 : Nat} {ls : List DP} {p : DP} {w w1 : World} (hgb : base ≤ g) (hb : base ≤ w.heap.size) (hown : w1.ownsRow base 56 2 (.slice (some ⟨g1, 0, none⟩) (ls.length + 1) c1) (ls.length + 1) (flat ls ++ legC p)) (hgrow : w.grownBy w1 (some g)) : InsPost base w (insL ls ls.length p) (.returned (.slice (some ⟨g1, 0, none⟩) (ls.length + 1) c1)) w1 := by
 have e : insL ls ls.length p = ls ++ [p] := by unfold insL; rw [List.take_length, List.drop_length]
 have hl : (ls ++ [p]).length = ls.length + 1 := by simp
 have hf : flat (ls ++ [p]) = flat ls ++ legC p := by rw [flat_app]; show _ ++ (legC p ++ []) = _; rw [List.append_nil]
 rw [e]
 refine ⟨g1, c1, by rw [hl], RowP.of_own (by rw [hl, hf]; exact hown), (Below.refl base w).grown hgrow hb (fun k e => ?_)⟩
 obtain rfl : g = k := by injection e
 exact hgb
theorem insEnd (base g vb cap : Nat) (ls : List DP) (p : DP) (w : World) (hr : RowP w base g cap ls) (hv : PtAt w vb p) (hn : ls.length ≤ 8) (hb : base ≤ w.heap.size) :
  Calls Try.prog 82 #[.slice (some ⟨g, 0, none⟩) ls.length cap, .int .i64 (ls.length : Int), .slice (some ⟨vb, 0, none⟩) 1 1] w (InsPost base w (insL ls ls.length p)) := by
 obtain ⟨i0, hi, hz0, hz1, hz2⟩ := info_parts info56
 have HO := Aside0.mk hr.own
 have HV := Aside0.mk hv.cells
 have hgb := hr.le
 have hll : (ls.length : Int) ≤ (ls.length : Int) := Int.le_refl _
 have hcap := hr.len
 have hmax := hr.max
 unfold maxLen at hmax
 clear hr hv
 go_enter Try.func82, Try.ntmps82
 go_wp2_with (at_builtin; refine wpList_append_own _ rfl _ _ 24 rfl base 56 i0 _ 2 16 Try.underlying24 hi hz0 hz1 hz2 rfl (by decide) _ _ _ rfl HO.out ⟨vb, 0, none⟩ 1 1 (legC p) rfl rfl HV.out (by simp [legC, Value.oneCell']) (Nat.le_trans (show ls.length + 1 ≤ 9 by omega) (by decide)) (by omega) hb ?_; intro v1 w1 hown hgrow _; obtain ⟨g1, c1, rfl⟩ := ownsRow_succ hown; have HN := Aside0.mk (insEnd_post hgb hb hown hgrow); clear hown hgrow)
 all_goals exact bodyPost_ret (v := .slice (some ⟨g1, 0, none⟩) (ls.length + 1) c1) (by simp [results, Try.results82, go_sem]) rfl HN.out
theorem overP (g vb o : Nat) (p : DP) (w : World) (cur : Array Value) (hg : w.heap[g]? = some (.cells cur 56 (0, 0))) (hc : 0 < cur.size) (hv : PtAt w vb p) (hne : vb ≠ g) : ∀ lb cb, (callFunc 106 #[.slice (some ⟨vb, 0, none⟩) 1 1, .slice (some ⟨g, o, none⟩) lb cb]).run Try.prog w = .ok (.value (.bool false)) w := fun lb cb => by
 obtain ⟨i0, hi, hz0, hz1, hz2⟩ := info_parts info56
 have hsa : w.shape? vb = some (56, 2) := by simp [World.shape?, show w.heap[vb]? = _ from hv]
 have hsb : w.shape? g = some (56, cur.size) := by simp [World.shape?, hg]
 rw [run_callFunc_extern Try.func106 qz10 qz10 qz10 (e := Extern.SlicesOverlaps.overlaps #[24, 24] #[4]) qz10,
  Lib.run_overlaps_apart w 24 4 56 Try.underlying24 2 (fun w => by simp [sizeOf, typeInfo, hi, hz1]) ⟨vb, 0, none⟩ ⟨g, o, none⟩ 1 1 lb cb hne _ _ 2 cur.size hsa hsb (by omega) (row_frozen (show w.heap[vb]? = _ from hv) _) (row_frozen (show w.heap[vb]? = _ from hv) _)]
 rfl
theorem insShift_post {base g cap i : Nat} {ls : List DP} {p : DP} {w : World} (hr : RowP w base g cap ls) (hi : i < ls.length) (hroom : ls.length + 1 ≤ cap) (hb : base ≤ g) :
  RowP ((w.drew.setCells g ((i + 1) * 2) (flat (ls.drop i))).setCells g (i * 2) (legC p)) base g cap (insL ls i p) ∧ Below base w ((w.drew.setCells g ((i + 1) * 2) (flat (ls.drop i))).setCells g (i * 2) (legC p)) := by
 obtain ⟨cur, hg, hcs⟩ := hr.block
 have hfl : (flat (ls.drop i)).length = (ls.length - i) * 2 := by rw [flat_len, List.length_drop]
 obtain ⟨c1, h1, e1⟩ := setCells_row g (flat (ls.drop i)) ((i + 1) * 2) w.drew cur hg
 obtain ⟨c2, h2, e2⟩ := setCells_row g (legC p) (i * 2) _ c1 h1
 have hin := insL_len ls i p (by omega)
 have hs1 : ∀ j, j < cap * 2 → ((w.drew.setCells g ((i + 1) * 2) (flat (ls.drop i))).cell? ⟨g, j, none⟩).isSome = true := fun j hj => by
  rw [row_cell h1, Array.getElem?_eq_getElem (by omega)]; rfl
 refine ⟨⟨⟨c2, h2, by omega⟩, hr.le, by omega, hr.max, fun t u hu => ?_⟩, ?_⟩
 ·
  rw [insL_cell ls i p (by omega)] at hu
  split at hu
  ·
   rename_i c
   rw [World.cell?_setCells_out g _ _ _ _ (fun _ _ => Or.inl (by show t < _; omega)), World.cell?_setCells_out g _ _ _ _ (fun _ _ => Or.inl (by show t < _; omega))]
   exact hr.cells t u hu
  ·
   rename_i c
   split at hu
   ·
    rename_i d
    have hlp : (legC p).length = 2 := rfl
    have := World.cell?_setCells_in g (legC p) (i * 2) _ (fun j hj => hs1 _ (by omega)) (t - i * 2) (by omega)
    rw [show i * 2 + (t - i * 2) = t by omega] at this
    rw [this, ← List.getElem?_eq_getElem]
    exact hu
   ·
    rename_i d
    have hlp : (legC p).length = 2 := rfl
    have ht := (List.getElem?_eq_some_iff.1 hu).1
    rw [World.cell?_setCells_out g _ _ _ _ (fun _ _ => Or.inr (by show _ ≤ t; omega))]
    have := World.cell?_setCells_in g (flat (ls.drop i)) ((i + 1) * 2) w.drew (fun j hj => (hr.room _ (by omega)).1) (t - (i + 1) * 2) ht
    rw [show (i + 1) * 2 + (t - (i + 1) * 2) = t by omega] at this
    rw [this, ← List.getElem?_eq_getElem]
    exact hu
 · exact (Off.sets _ _ _ (Off.sets _ _ _ (Off.of (below_drew1 (Below.refl _ _))))).below' hb (Array.getElem?_eq_some_iff.1 hg).1
theorem insShift (base g vb cap i : Nat) (ls : List DP) (p : DP) (w : World) (hr : RowP w base g cap ls) (hv : PtAt w vb p) (hne : vb ≠ g) (hn : ls.length ≤ 8) (hi : i < ls.length) (hroom : ls.length + 1 ≤ cap) :
  Calls Try.prog 82 #[.slice (some ⟨g, 0, none⟩) ls.length cap, .int .i64 (i : Int), .slice (some ⟨vb, 0, none⟩) 1 1] w (InsPost base w (insL ls i p)) := by
 obtain ⟨cur, hg, hcs⟩ := hr.block
 have hov := overP g vb ((i + 1) * 2) p w cur hg (by omega) hv hne
 have hmax := hr.max
 unfold maxLen at hmax
 have hz2 : ¬ ((i : Int) = (ls.length : Int)) := by omega
 have hw1 : IntKind.i64.wrap ((i : Int) + 1) = (i : Int) + 1 := by rw [IntKind.wrap_i64]; omega
 have hb1 : (0 : Int) ≤ (i : Int) + 1 := by omega
 have hin : i ≤ ls.length := by omega
 have htn : ((i : Int) + 1).toNat = i + 1 := by omega
 have hb2 : ¬ (cap = i + 1) := by omega
 have hb3 : (i : Int) ≤ (ls.length : Int) + 1 := by omega
 have hb4 : ¬ (cap = i) := by omega
 have hfl : (flat (ls.drop i)).length = (ls.length - i) * 2 := by rw [flat_len, List.length_drop]
 have hcells := hr.cells
 have hroomc := hr.room
 obtain ⟨W1, hW1⟩ : ∃ W1, W1 = w.drew.setCells g ((i + 1) * 2) (flat (ls.drop i)) := ⟨_, rfl⟩
 have hcp1 : ∀ ty dLen sLen dc sc, Nat.min sLen dLen = ls.length - i → (Builtin.copy_ #[24, 24] ty #[.slice (some ⟨g, (i + 1) * 2, none⟩) dLen dc, .slice (some ⟨g, i * 2, none⟩) sLen sc]).run Try.prog w.drew = .ok (goInt (Nat.min sLen dLen)) W1 := fun ty dLen sLen dc sc hm => by
  rw [hW1]
  refine run_copy2 w.drew ty g _ dLen dc ⟨g, i * 2, none⟩ sLen sc (flat (ls.drop i)) (by rw [hfl, hm]) (fun j v hj => ?_) (fun j hj => (hroomc _ (by omega)).1) (fun j hj => (hroomc _ (by omega)).2) (fun v hv => flat_mem hv)
  rw [Addr.add_lit]
  refine hcells _ v ?_
  have hs : flat ls = flat (ls.take i) ++ flat (ls.drop i) := by rw [← flat_app, List.take_append_drop]
  have hl : (flat (ls.take i)).length = i * 2 := by rw [flat_len, List.length_take, Nat.min_eq_left (by omega)]
  rw [hs, List.getElem?_append_right (by omega), hl, show i * 2 + j - i * 2 = j by omega]
  exact hj
 have hvb : ∀ j u, (legC p)[j]? = some u → W1.cell? ((⟨vb, 0, none⟩ : Addr).add j) = some u := fun j u hj => by
  have h := hv.cells j u hj
  rw [Addr.add_lit] at h ⊢
  rw [hW1, World.cell?_setCells_out g _ _ _ _ (fun e _ => absurd e hne)]
  exact h
 obtain ⟨c1, h1, e1⟩ := setCells_row g (flat (ls.drop i)) ((i + 1) * 2) w.drew cur hg
 rw [← hW1] at h1
 have hcp2 : ∀ ty dc, (Builtin.copy_ #[24, 24] ty #[.slice (some ⟨g, i * 2, none⟩) (ls.length + 1 - i) dc, .slice (some ⟨vb, 0, none⟩) 1 1]).run Try.prog W1 = .ok (goInt 1) (W1.setCells g (i * 2) (legC p)) := fun ty dc => by
  have hm : Nat.min 1 (ls.length + 1 - i) = 1 := Nat.min_eq_left (by omega)
  have hlp : (legC p).length = 2 := rfl
  have := run_copy2 W1 ty g (i * 2) (ls.length + 1 - i) dc ⟨vb, 0, none⟩ 1 1 (legC p) (by rw [hlp, hm]) hvb (fun j hj => by rw [row_cell h1, Array.getElem?_eq_getElem (by omega)]; rfl) (fun j hj => row_frozen h1 _) (by simp [legC, Value.oneCell'])
  rw [hm] at this
  exact this
 have hpost := insShift_post (p := p) hr hi hroom hr.le
 rw [← hW1] at hpost
 have hpo : InsPost base w (insL ls i p) (.returned (.slice (some ⟨g, 0, none⟩) (ls.length + 1) cap)) (W1.setCells g (i * 2) (legC p)) := ⟨g, cap, by rw [insL_len ls i p (by omega)], hpost.1, hpost.2⟩
 have HP := Aside0.mk hpo
 have HC1 := Aside0.mk hcp1
 have HC2 := Aside0.mk hcp2
 clear hpost hpo hcp1 hcp2 hvb h1 hW1 hcells hroomc hfl hr hv hg
 go_enter Try.func82, Try.ntmps82
 go_wp2_with (simp only [hov])
 go_region_law (refine step_copy_runI rfl _ _ 24 24 rfl (.slice (some ⟨g, (i + 1) * 2, none⟩) (ls.length + 1 - (i + 1)) (cap - (i + 1))) (.slice (some ⟨g, i * 2, none⟩) (ls.length + 1 - i) (cap - i)) (by simp [Act.eval, Act.put]) (by simp [Act.eval, Act.put]) (HC1.out _ _ _ _ _ (by simp only [Nat.min_def]; split <;> omega)) ?_)
 go_wp2_with (simp only [HC2.out])
 all_goals exact bodyPost_ret (v := .slice (some ⟨g, 0, none⟩) (ls.length + 1) cap) (by simp [results, Try.results82, go_sem]) rfl HP.out
theorem insGrow_post {base g cap i G : Nat} {ls : List DP} {p : DP} {w W1 : World} {ROW : Array Value} (hr : RowP w base g cap ls) (hi : i < ls.length) (hb : base ≤ w.heap.size) (hG : ls.length + 1 ≤ G) (hG2 : G ≤ maxLen) (hRs : ROW.size = G * 2) (hRc : ∀ j, j < i * 2 → ROW[j]? = (flat ls)[j]?)
  (hW1 : W1 = w.drew.alloc (.cells ROW 56)) :
  RowP (((W1.setCells w.heap.size (i * 2) (legC p)).drew).setCells w.heap.size ((i + 1) * 2) (flat (ls.drop i))) base w.heap.size G (insL ls i p) ∧ Below base w (((W1.setCells w.heap.size (i * 2) (legC p)).drew).setCells w.heap.size ((i + 1) * 2) (flat (ls.drop i))) := by
 have hg : W1.heap[w.heap.size]? = some (.cells ROW 56 (0, 0)) := by rw [hW1]; exact World.alloc_heap_new w.drew _
 have hfl : (flat (ls.drop i)).length = (ls.length - i) * 2 := by rw [flat_len, List.length_drop]
 have hlp : (legC p).length = 2 := rfl
 obtain ⟨c1, h1, e1⟩ := setCells_row w.heap.size (legC p) (i * 2) W1 ROW hg
 obtain ⟨c2, h2, e2⟩ := setCells_row w.heap.size (flat (ls.drop i)) ((i + 1) * 2) ((W1.setCells w.heap.size (i * 2) (legC p)).drew) c1 h1
 have hin := insL_len ls i p (by omega)
 refine ⟨⟨⟨c2, h2, by omega⟩, hb, by omega, hG2, fun t u hu => ?_⟩, ?_⟩
 ·
  rw [insL_cell ls i p (by omega)] at hu
  split at hu
  ·
   rename_i c
   rw [World.cell?_setCells_out _ _ _ _ _ (fun _ _ => Or.inl (by show t < _; omega))]
   show (W1.setCells w.heap.size (i * 2) (legC p)).cell? _ = _
   rw [World.cell?_setCells_out _ _ _ _ _ (fun _ _ => Or.inl (by show t < _; omega)), row_cell hg, hRc t c]
   exact hu
  ·
   rename_i c
   split at hu
   ·
    rename_i d
    rw [World.cell?_setCells_out _ _ _ _ _ (fun _ _ => Or.inl (by show t < _; omega))]
    show (W1.setCells w.heap.size (i * 2) (legC p)).cell? _ = _
    have := World.cell?_setCells_in w.heap.size (legC p) (i * 2) W1 (fun j hj => by rw [row_cell hg, Array.getElem?_eq_getElem (by omega)]; rfl) (t - i * 2) (by omega)
    rw [show i * 2 + (t - i * 2) = t by omega] at this
    rw [this, ← List.getElem?_eq_getElem]
    exact hu
   ·
    rename_i d
    have ht := (List.getElem?_eq_some_iff.1 hu).1
    have := World.cell?_setCells_in w.heap.size (flat (ls.drop i)) ((i + 1) * 2) ((W1.setCells w.heap.size (i * 2) (legC p)).drew) (fun j hj => by rw [row_cell (w := (W1.setCells w.heap.size (i * 2) (legC p)).drew) h1, Array.getElem?_eq_getElem (by omega)]; rfl) (t - (i + 1) * 2) ht
    rw [show (i + 1) * 2 + (t - (i + 1) * 2) = t by omega] at this
    rw [this, ← List.getElem?_eq_getElem]
    exact hu
 ·
  have hB1 : Below w.heap.size w W1 := by rw [hW1]; exact (below_drew1 (Below.refl _ _)).alloc (Nat.le_refl _) _
  have hz : w.heap.size ≤ w.heap.size := Nat.le_refl _
  exact (Off.sets _ _ _ (Off.step (Off.sets _ _ _ (Off.of hB1)) (below_drew1 (Below.refl _ _)))).below (Nat.le_refl _) |>.mono hb
theorem insGrow (base g vb cap i : Nat) (ls : List DP) (p : DP) (w : World) (hr : RowP w base g cap ls) (hv : PtAt w vb p) (hne : vb ≠ g) (hn : ls.length ≤ 8) (hi : i < ls.length) (hroom : cap < ls.length + 1) (hb : base ≤ w.heap.size) :
  Calls Try.prog 82 #[.slice (some ⟨g, 0, none⟩) ls.length cap, .int .i64 (i : Int), .slice (some ⟨vb, 0, none⟩) 1 1] w (InsPost base w (insL ls i p)) := by
 obtain ⟨i0, hii, hz0, hzs, hzb⟩ := info_parts info56
 obtain ⟨cur, hg, hcs⟩ := hr.block
 have hlen := hr.len
 have hgw : g < w.heap.size := (Array.getElem?_eq_some_iff.1 hg).1
 have hvw : vb < w.heap.size := (Array.getElem?_eq_some_iff.1 hv).1
 have hz2 : ¬ ((i : Int) = (ls.length : Int)) := by omega
 have hw1 : IntKind.i64.wrap ((i : Int) + 1) = (i : Int) + 1 := by rw [IntKind.wrap_i64]; omega
 have hb1 : (0 : Int) ≤ (i : Int) + 1 := by omega
 have hin : i ≤ ls.length := by omega
 have htn : ((i : Int) + 1).toNat = i + 1 := by omega
 have hz3 : (cap : Int) < (ls.length : Int) + 1 := by omega
 have hkk : (ls.length : Int) + 1 - (i : Int) = ((ls.length + 1 - i : Nat) : Int) := by omega
 have hik : i + (ls.length + 1 - i) = ls.length + 1 := by omega
 have hold : (Builtin.firstCells i0.size i (.slice (some ⟨g, 0, none⟩) i cap)).run Try.prog w.drew = .ok ((flat ls).take (i * 2)).toArray w.drew := by
  rw [hzs]
  exact run_firstCells_some w.drew 2 i ⟨g, 0, none⟩ i cap ((flat ls).take (i * 2)) (by rw [List.length_take, flat_len]; omega) (fun j v hj => by
   rw [Addr.add_lit, Nat.zero_add]
   rw [List.getElem?_take] at hj
   split at hj
   · exact hr.cells j v hj
   · cases hj)
 have hrz : ∀ ty, (Builtin.append_ #[24, 3] ty #[.slice (some ⟨g, 0, none⟩) i cap, .int .i64 ((ls.length : Int) + 1 - (i : Int))]).run Try.prog w =
   .ok (.slice (some ⟨w.heap.size, 0, none⟩) (ls.length + 1) (grownCap w (ls.length + 1) cap 56)) (w.drew.alloc (.cells (((flat ls).take (i * 2)).toArray ++ Builtin.zeroCells (Value.agg #[.int .i64 0, .int .i64 0]).cells (ls.length + 1 - i) ++ Builtin.zeroCells (Value.agg #[.int .i64 0, .int .i64 0]).cells (grownCap w (ls.length + 1) cap 56 - (ls.length + 1))) 56)) := fun ty => by
  have h := Lib.run_append_grow_zeros w 24 3 ty 56 i0 _ .i64 .i64 Try.underlying24 Try.underlying3 hii hz0 (some ⟨g, 0, none⟩) i cap ((flat ls).take (i * 2)) hold (ls.length + 1 - i) (by omega) (by omega) (by omega) (by omega) (by rw [hzb]; omega) (by rw [hzb, hik]; exact growslice_fits hroom (by omega))
  rw [hik] at h
  rw [hkk]
  exact h
 obtain ⟨G, hG⟩ : ∃ G, G = grownCap w (ls.length + 1) cap 56 := ⟨_, rfl⟩
 have hGn : ls.length + 1 ≤ G := by rw [hG]; exact grownCap_ge w _ _ _
 have hGm : G ≤ maxLen := by rw [hG]; exact grownCap_le_maxLen w _ _ _ (Nat.le_trans (show ls.length + 1 ≤ 9 by omega) (by decide))
 obtain ⟨ROW, hROW⟩ : ∃ ROW : Array Value, ROW = ((flat ls).take (i * 2)).toArray ++ Builtin.zeroCells (Value.agg #[.int .i64 0, .int .i64 0]).cells (ls.length + 1 - i) ++ Builtin.zeroCells (Value.agg #[.int .i64 0, .int .i64 0]).cells (G - (ls.length + 1)) := ⟨_, rfl⟩
 rw [← hG] at hrz
 rw [← hROW] at hrz
 have htl : ((flat ls).take (i * 2)).length = i * 2 := by rw [List.length_take, flat_len]; omega
 have hRs : ROW.size = G * 2 := by
  rw [hROW]
  simp only [Array.size_append, List.size_toArray, size_zeroCells, htl, Value.cells]
  show i * 2 + (ls.length + 1 - i) * 2 + (G - (ls.length + 1)) * 2 = G * 2
  omega
 have hRc : ∀ j, j < i * 2 → ROW[j]? = (flat ls)[j]? := fun j hj => by
  rw [hROW, Array.append_assoc, Array.getElem?_append_left (by simp [htl]; omega)]
  simp [List.getElem?_take, hj]
 obtain ⟨W1, hW1⟩ : ∃ W1, W1 = w.drew.alloc (.cells ROW 56) := ⟨_, rfl⟩
 rw [← hW1] at hrz
 have hpost := insGrow_post (p := p) hr hi hb hGn hGm hRs hRc hW1
 have hfl : (flat (ls.drop i)).length = (ls.length - i) * 2 := by rw [flat_len, List.length_drop]
 have hlp : (legC p).length = 2 := rfl
 have hgn : W1.heap[w.heap.size]? = some (.cells ROW 56 (0, 0)) := by rw [hW1]; exact World.alloc_heap_new w.drew _
 obtain ⟨c1, h1, e1⟩ := setCells_row w.heap.size (legC p) (i * 2) W1 ROW hgn
 have hB1 : Below w.heap.size w W1 := by rw [hW1]; exact (below_drew1 (Below.refl _ _)).alloc (Nat.le_refl _) _
 have hcpA : ∀ ty dc, (Builtin.copy_ #[24, 24] ty #[.slice (some ⟨w.heap.size, i * 2, none⟩) (ls.length + 1 - i) dc, .slice (some ⟨vb, 0, none⟩) 1 1]).run Try.prog W1 = .ok (goInt 1) (W1.setCells w.heap.size (i * 2) (legC p)) := fun ty dc => by
  have hm : Nat.min 1 (ls.length + 1 - i) = 1 := Nat.min_eq_left (by omega)
  have := run_copy2 W1 ty w.heap.size (i * 2) (ls.length + 1 - i) dc ⟨vb, 0, none⟩ 1 1 (legC p) (by rw [hlp, hm]) (fun j u hj => by
   have h := hv.cells j u hj
   rw [Addr.add_lit] at h ⊢
   exact (hB1.cell (p := ⟨vb, 0 + j, none⟩) hvw).trans h) (fun j hj => by rw [row_cell hgn, Array.getElem?_eq_getElem (by omega)]; rfl) (fun j hj => row_frozen hgn _) (by simp [legC, Value.oneCell'])
  rw [hm] at this
  exact this
 obtain ⟨W2, hW2⟩ : ∃ W2, W2 = W1.setCells w.heap.size (i * 2) (legC p) := ⟨_, rfl⟩
 rw [← hW2] at h1 hcpA hpost
 have hcpB : ∀ ty dLen sLen dc sc, Nat.min sLen dLen = ls.length - i → (Builtin.copy_ #[24, 24] ty #[.slice (some ⟨w.heap.size, (i + 1) * 2, none⟩) dLen dc, .slice (some ⟨g, i * 2, none⟩) sLen sc]).run Try.prog W2.drew = .ok (goInt (Nat.min sLen dLen)) (W2.drew.setCells w.heap.size ((i + 1) * 2) (flat (ls.drop i))) := fun ty dLen sLen dc sc hm => by
  refine run_copy2 W2.drew ty w.heap.size _ dLen dc ⟨g, i * 2, none⟩ sLen sc (flat (ls.drop i)) (by rw [hfl, hm]) (fun j v hj => ?_) (fun j hj => by rw [row_cell (w := W2.drew) h1, Array.getElem?_eq_getElem (by omega)]; rfl) (fun j hj => row_frozen (w := W2.drew) h1 _) (fun v hv => flat_mem hv)
  rw [Addr.add_lit]
  show W2.cell? _ = _
  rw [hW2, World.cell?_setCells_out _ _ _ _ _ (fun e _ => absurd e (by show ¬ (g = w.heap.size); omega))]
  refine (hB1.cell (p := ⟨g, i * 2 + j, none⟩) hgw).trans (hr.cells _ v ?_)
  have hs : flat ls = flat (ls.take i) ++ flat (ls.drop i) := by rw [← flat_app, List.take_append_drop]
  have hl : (flat (ls.take i)).length = i * 2 := by rw [flat_len, List.length_take, Nat.min_eq_left (by omega)]
  rw [hs, List.getElem?_append_right (by omega), hl, show i * 2 + j - i * 2 = j by omega]
  exact hj
 have hpo : InsPost base w (insL ls i p) (.returned (.slice (some ⟨w.heap.size, 0, none⟩) (ls.length + 1) G)) (W2.drew.setCells w.heap.size ((i + 1) * 2) (flat (ls.drop i))) := ⟨w.heap.size, G, by rw [insL_len ls i p (by omega)], hpost.1, hpost.2⟩
 have HP := Aside0.mk hpo
 have HCA := Aside0.mk hcpA
 have HCB := Aside0.mk hcpB
 have hG63 : G ≤ 9223372036854775807 := by unfold maxLen at hGm; omega
 have hGi : ¬ (G = i) := by omega
 have hGim : ¬ (G = i + 1) := by omega
 have hci : ¬ (cap = i) := by omega
 have hb3 : (i : Int) ≤ (ls.length : Int) := by omega
 have hb5 : (i : Int) ≤ (ls.length : Int) + 1 := by omega
 have hb6 : (i : Int) + 1 ≤ (ls.length : Int) + 1 := by omega
 have HRZ := Aside0.mk hrz
 clear hpost hpo hcpA hcpB hrz h1 hW1 hW2 hgn hfl hlp hr hv hg hold hkk hik hRs hRc hROW hG htl e1 hB1
 go_enter Try.func82, Try.ntmps82
 go_wp2_with (first
  | (at_builtin; refine Lib.wpList_append_run _ rfl _ _ _ _ rfl _ _ rfl rfl _ _ (HRZ.out _) ?_)
  | (simp only [HCA.out]))
 go_region_law (refine step_copy_runI rfl _ _ 24 24 rfl (.slice (some ⟨w.heap.size, (i + 1) * 2, none⟩) (ls.length + 1 - (i + 1)) (G - (i + 1))) (.slice (some ⟨g, i * 2, none⟩) (ls.length - i) (cap - i)) (by simp [Act.eval, Act.put]) (by simp [Act.eval, Act.put]) (HCB.out _ _ _ _ _ (by simp only [Nat.min_def]; split <;> omega)) ?_)
 go_wp2
 all_goals exact bodyPost_ret (v := .slice (some ⟨w.heap.size, 0, none⟩) (ls.length + 1) G) (by simp [results, Try.results82, go_sem]) rfl HP.out
theorem insNil_post {base g1 c1 : Nat} {p : DP} {w w1 : World} (hb : base ≤ w.heap.size) (hown : w1.ownsRow base 56 2 (.slice (some ⟨g1, 0, none⟩) (0 + 1) c1) (0 + 1) ([] ++ legC p)) (hgrow : w.grownBy w1 (Value.slice none 0 0).ownBlock) : InsPost base w [p] (.returned (.slice (some ⟨g1, 0, none⟩) (0 + 1) c1)) w1 := by
 refine ⟨g1, c1, rfl, RowP.of_own ?_, (Below.refl base w).grown hgrow hb (fun k e => by cases e)⟩
 show w1.ownsRow _ _ _ _ _ (legC p ++ [])
 rw [List.append_nil]
 exact hown
theorem insNil (base vb : Nat) (p : DP) (w : World) (hv : PtAt w vb p) (hb : base ≤ w.heap.size) :
  Calls Try.prog 82 #[.slice none 0 0, .int .i64 0, .slice (some ⟨vb, 0, none⟩) 1 1] w (InsPost base w [p]) := by
 obtain ⟨i0, hi, hz0, hz1, hz2⟩ := info_parts info56
 have HO := Aside0.mk (World.ownsRow_nil w base 56 2)
 have HV := Aside0.mk hv.cells
 clear hv
 go_enter Try.func82, Try.ntmps82
 go_wp2_with (at_builtin; refine wpList_append_own _ rfl _ _ 24 rfl base 56 i0 _ 2 16 Try.underlying24 hi hz0 hz1 hz2 rfl (by decide) _ _ _ rfl HO.out ⟨vb, 0, none⟩ 1 1 (legC p) rfl rfl HV.out (by simp [legC, Value.oneCell']) (by decide) (by omega) hb ?_; intro v1 w1 hown hgrow _; obtain ⟨g1, c1, rfl⟩ := ownsRow_succ hown; have HN := Aside0.mk (insNil_post hb hown hgrow); clear hown hgrow)
 all_goals exact bodyPost_ret (v := .slice (some ⟨g1, 0, none⟩) (0 + 1) c1) (by simp [results, Try.results82, go_sem]) rfl HN.out
end Go.Proofs.Ytlipaiabjcaeiaa.Dec
namespace Go.Proofs.Ytlipaiabjcaeiaa.Dec
open Go Go.RowKit Go.Sort YtlipaiabjcaeiaaW.PrintWords YtlipaiabjcaeiaaW.PrintLast YtlipaiabjcaeiaaW.PrintMore A
def lowB : List DP → Int → Nat
 | [], _ => 0
 | x :: r, d => if x.f0 < d then lowB r d + 1 else 0
theorem low_uniq : ∀ (l : List DP) (d : Int) (i : Nat), i ≤ l.length → (∀ t, t < i → dayAt l t < d) → (i < l.length → d ≤ dayAt l i) → i = lowB l d
 | [], d, i, h, _, _ => by simp at h; simp [lowB, h]
 | x :: r, d, 0, h, _, h2 => by
  have := h2 (by simp)
  have hx : ¬ x.f0 < d := by have e : dayAt (x :: r) 0 = x.f0 := rfl; omega
  rw [lowB, if_neg hx]
 | x :: r, d, i + 1, h, h1, h2 => by
  have hx : x.f0 < d := h1 0 (by omega)
  rw [lowB, if_pos hx, ← low_uniq r d i (by simpa using h) (fun t ht => h1 (t + 1) (by omega)) (fun hi => h2 (by simpa using hi))]
theorem cmpP (a b : DP) (w : World) (ha : 0 ≤ a.f0 ∧ a.f0 ≤ 999) (hb : 0 ≤ b.f0 ∧ b.f0 ≤ 999) : Calls Try.prog 81 #[.agg #[.int .i64 a.f0, .int .i64 a.f1], .agg #[.int .i64 b.f0, .int .i64 b.f1]] w fun e w' => e = .returned (.int .i64 (a.f0 - b.f0)) ∧ w' = (w.alloc (.cells #[.int .i64 a.f0, .int .i64 a.f1] 56)).alloc (.cells #[.int .i64 b.f0, .int .i64 b.f1] 56) := by
 obtain ⟨a0, a1⟩ := ha
 obtain ⟨b0, b1⟩ := hb
 go_enter Try.func81, Try.ntmps81
 go_wp2
 go_ret
 exact ⟨rfl, rfl⟩
theorem cmpG (a b : DP) (w : World) (ha : 0 ≤ a.f0 ∧ a.f0 ≤ 999) (hb : 0 ≤ b.f0 ∧ b.f0 ≤ 999) : Calls Try.prog 81 #[.agg #[.int .i64 a.f0, .int .i64 a.f1], .agg #[.int .i64 b.f0, .int .i64 b.f1]] w fun e w' => e = .returned (.int .i64 (a.f0 - b.f0)) ∧ ∃ q os', w' = grow (w.drewN q) os' :=
 (cmpP a b w ha hb).mono fun _ _ ⟨he, hw⟩ => ⟨he, 0, #[.cells #[.int .i64 a.f0, .int .i64 a.f1] 56, .cells #[.int .i64 b.f0, .int .i64 b.f1] 56], by rw [hw, alloc_eq_grow, alloc_eq_grow, grow_grow]; rfl⟩
theorem below_drew (w : World) (n : Nat) : Below w.heap.size w (w.drewN n) := ⟨rfl, rfl, rfl, Nat.le_refl _, fun _ _ => rfl⟩
theorem below_grown (w : World) (n : Nat) (os : Array Obj) : Below w.heap.size w (grow (w.drewN n) os) := ⟨rfl, rfl, rfl, by show _ ≤ (w.heap ++ os).size; simp, fun k hk => heap_grow_old (w.drewN n) os hk⟩
theorem searchP (A0 : Option Addr) (c : Nat) (l : List DP) (p : DP) (w : World) (hC : Kd.C k56 w A0 l.length l) (hn : l.length ≤ 8) (hd : ∀ t, t < l.length → 0 ≤ dayAt l t ∧ dayAt l t ≤ 999) (hm : ∀ s t, s ≤ t → t < l.length → dayAt l s ≤ dayAt l t) (hp : 0 ≤ p.f0 ∧ p.f0 ≤ 999) :
  Calls Try.prog 80 #[.slice A0 l.length c, .agg #[.int .i64 p.f0, .int .i64 p.f1], .func (.func 81) #[] #[]] w fun e w' =>
   e = .returned (.tuple #[.int .i64 (lowB l p.f0 : Nat), .bool (decide (lowB l p.f0 < l.length) && decide (dayAt l (lowB l p.f0) = p.f0))]) ∧ Below w.heap.size w w' := by
 have HC := Aside0.mk hC
 have HD := Aside0.mk hd
 have HM := Aside0.mk hm
 have HPP := Aside0.mk hp
 have mixed : Try.prog.follows .mixedOrders = true := by kernel_rfl
 clear hC hd hm hp
 go_enter Try.func80, Try.ntmps80
 go_wp2
 obtain ⟨wA, hwA⟩ : ∃ wA, wA = w.alloc (.cells #[.int .i64 p.f0, .int .i64 p.f1] 56) := ⟨_, rfl⟩
 have hBA : Below w.heap.size w wA := by rw [hwA]; exact (Below.refl _ _).alloc (Nat.le_refl _) _
 have hbx : PtAt wA w.heap.size p := by rw [hwA]; exact World.alloc_heap_new w _
 rw [← hwA]
 have HBA := Aside0.mk hBA
 have HBX := Aside0.mk hbx
 have hlt := (Array.getElem?_eq_some_iff.1 hbx).1
 clear hwA hBA hbx
 go_loopw [9, 10] (fun v9 v10 W => ∃ lo hi : Nat, v9 = .int .i64 lo ∧ v10 = .int .i64 hi ∧ lo ≤ hi ∧ hi ≤ l.length ∧ Aside0 (Below wA.heap.size wA W) ∧ Aside0 ((∀ t, t < lo → dayAt l t < p.f0) ∧ (∀ t, hi ≤ t → t < l.length → p.f0 ≤ dayAt l t))) (fun v9 v10 _ => (intOf v10 - intOf v9).toNat)
 case atStart => exact ⟨0, l.length, rfl, rfl, Nat.zero_le _, Nat.le_refl _, ⟨Below.refl _ _⟩, ⟨fun t ht => absurd ht (Nat.not_lt_zero _), fun t h1 h2 => by omega⟩⟩
 case round =>
  obtain ⟨lo, hi, rfl, rfl, hlh, hhn, HW, HI⟩ := hrel
  have hb0' := (HW.out.cell (p := ⟨w.heap.size, 0, none⟩) hlt).trans (HBX.out.cells 0 _ rfl)
  have hb1' := (HW.out.cell (p := ⟨w.heap.size, 1, none⟩) hlt).trans (HBX.out.cells 1 _ rfl)
  have hws := Nat.lt_of_lt_of_le hlt HW.out.size
  have hb0 := cell_grown (a := ⟨w.heap.size, 0, none⟩) hws hb0'
  have hb1 := cell_grown (a := ⟨w.heap.size, 1, none⟩) hws hb1'
  clear hb0' hb1'
  have HCW := Aside0.mk (Kd.C_below HC.out (HBA.out.trans (HW.out.mono HBA.out.size)))
  by_cases hlt2 : lo < hi
  ·
   obtain ⟨m, hmm⟩ : ∃ m : Nat, m = (lo + hi) / 2 := ⟨_, rfl⟩
   have HMM := Aside0.mk hmm
   have HME : Aside0 (((lo : Int) + (hi : Int)) / 2 = (m : Int)) := ⟨by omega⟩
   have hmid : m < l.length := by omega
   clear hmm
   have hdm := HD.out _ hmid
   obtain ⟨ad, rfl, c0, c1⟩ := at_T56 HCW.out (m : Int) (by omega) (by omega)
   rw [Int.toNat_natCast] at c0 c1
   replace c0 := cell_grown (World.block_lt_of_cell? _ _ c0) c0
   replace c1 := cell_grown (World.block_lt_of_cell? _ _ c1) c1
   have hx : dayAt l m = (rd_T56 l (m : Int)).f0 := rfl
   rw [hx] at hdm
   have HX := Aside0.mk hx
   clear hx
   generalize rd_T56 l (m : Int) = y at *
   go_wp2
   rw [HME.out]
   have hm0 : (0 : Int) ≤ (m : Int) := by omega
   have hm1 : (m : Int) < (l.length : Int) := by omega
   by_cases c3 : y.f0 - p.f0 < 0
   ·
    have HI2 : Aside0 ((∀ t, t < m + 1 → dayAt l t < p.f0) ∧ (∀ t, hi ≤ t → t < l.length → p.f0 ≤ dayAt l t)) := ⟨fun t ht => by
     have := HM.out t m (by omega) hmid
     rw [HX.out] at this
     omega, HI.out.2⟩
    have hmh : m + 1 ≤ hi := by have := HMM.out; omega
    have hlm : lo ≤ m := by have := HMM.out; omega
    go_quiet_grown ((go_at_call 81; exact Calls.grown_of (cmpG y p _ hdm HPP.out)))
    all_goals go_wp2
    all_goals exact ⟨⟨m + 1, hi, by go_num, rfl, hmh, hhn, ⟨below_step HW.out (below_grown _ _ _)⟩, HI2⟩, by simp [intOf]; omega⟩
   ·
    have HI2 : Aside0 ((∀ t, t < lo → dayAt l t < p.f0) ∧ (∀ t, m ≤ t → t < l.length → p.f0 ≤ dayAt l t)) := ⟨HI.out.1, fun t ht htl => by
     have := HM.out m t ht htl
     rw [HX.out] at this
     omega⟩
    have hlm : lo ≤ m := by have := HMM.out; omega
    have hmh : m < hi := by have := HMM.out; omega
    go_quiet_grown ((go_at_call 81; exact Calls.grown_of (cmpG y p _ hdm HPP.out)))
    all_goals go_wp2
    all_goals exact ⟨⟨lo, m, rfl, rfl, hlm, by omega, ⟨below_step HW.out (below_grown _ _ _)⟩, HI2⟩, by simp [intOf]; omega⟩
  ·
   obtain rfl : hi = lo := by omega
   have HLO := Aside0.mk (low_uniq l p.f0 hi hhn HI.out.1 (fun h => HI.out.2 hi (Nat.le_refl _) h))
   by_cases hlt3 : hi < l.length
   ·
    have hdm := HD.out _ hlt3
    obtain ⟨ad, rfl, c0, c1⟩ := at_T56 HCW.out (hi : Int) (by omega) (by omega)
    rw [Int.toNat_natCast] at c0 c1
    replace c0 := cell_grown (World.block_lt_of_cell? _ _ c0) c0
    replace c1 := cell_grown (World.block_lt_of_cell? _ _ c1) c1
    have hx : dayAt l hi = (rd_T56 l (hi : Int)).f0 := rfl
    rw [hx] at hdm
    have HX := Aside0.mk hx
    clear hx
    generalize rd_T56 l (hi : Int) = y at *
    have HRES : Aside0 ((decide (lowB l p.f0 < l.length) && decide (dayAt l (lowB l p.f0) = p.f0)) = decide (y.f0 - p.f0 = 0)) := ⟨by
     rw [← HLO.out, decide_eq_true hlt3, Bool.true_and, HX.out]
     exact decide_eq_decide.mpr ⟨fun h => by omega, fun h => by omega⟩⟩
    have hm0 : (0 : Int) ≤ (hi : Int) := by omega
    have hm1 : (hi : Int) < (l.length : Int) := by omega
    go_wp2
    go_quiet_grown ((go_at_call 81; exact Calls.grown_of (cmpG y p _ hdm HPP.out)))
    all_goals go_wp2
    exact bodyPost_ret (v := .tuple #[.int .i64 (hi : Int), .bool (y.f0 - p.f0 == 0)]) (by simp [results, Try.results80, go_sem]) rfl ⟨by rw [HRES.out, ← HLO.out]; cases h : decide (y.f0 - p.f0 = 0) <;> simp_all, ((HBA.out.trans (HW.out.mono HBA.out.size)).trans ((below_grown _ _ _).mono (HBA.out.trans (HW.out.mono HBA.out.size)).size))⟩
   ·
    have HRES : Aside0 ((decide (lowB l p.f0 < l.length) && decide (dayAt l (lowB l p.f0) = p.f0)) = false) := ⟨by
     rw [← HLO.out, decide_eq_false hlt3, Bool.false_and]⟩
    have hnl : ¬ ((hi : Int) < (l.length : Int)) := by omega
    go_wp2
    go_big_quiet (fail)
    all_goals go_wp2
    exact bodyPost_ret (v := .tuple #[.int .i64 (hi : Int), .bool false]) (by simp [results, Try.results80, go_sem]) rfl ⟨by rw [HRES.out, ← HLO.out], ((HBA.out.trans (HW.out.mono HBA.out.size)).trans ((below_drew wr nq).mono (HBA.out.trans (HW.out.mono HBA.out.size)).size))⟩
end Go.Proofs.Ytlipaiabjcaeiaa.Dec
