/- The program's ReverseBook, walked. -/
import Derived.RangeFuncNested
import Derived.RangeFuncBound
import Derived.RangeFuncCalls
import Derived.RangeFuncLeaves
import Derived.Shelf.Abstract
import Derived.OwnWalkIn
import Derived.TacticsInMore
import Derived.LoopNIn
import Derived.LoopIn
import Derived.Test.YtlipaiabjcaeiaaKFnReverses4
set_option maxHeartbeats 4000000
set_option maxRecDepth 100000
set_option linter.unusedSimpArgs false
set_option linter.unusedVariables false
namespace Go.Proofs.Ytlipaiabjcaeiaa.Plain
open Go.RowKit YtlipaiabjcaeiaaW.PrintWords
theorem w64 {x : Int} (h1 : -9223372036854775808 ≤ x) (h2 : x ≤ 9223372036854775807) : wrap64 x = x := by
 unfold wrap64; omega
theorem mul_bound {x y : Int} (A B : Int) (h1 : -A ≤ x) (h2 : x ≤ A) (h3 : -B ≤ y) (h4 : y ≤ B) : -(A * B) ≤ x * y ∧ x * y ≤ A * B := by
 have e1 : 0 ≤ (A - x) * (B - y) := Int.mul_nonneg (by omega) (by omega); have e2 : 0 ≤ (A + x) * (B + y) := Int.mul_nonneg (by omega) (by omega); have e3 : 0 ≤ (A - x) * (B + y) := Int.mul_nonneg (by omega) (by omega); have e4 : 0 ≤ (A + x) * (B - y) := Int.mul_nonneg (by omega) (by omega); simp only [Int.sub_mul, Int.mul_sub, Int.add_mul, Int.mul_add] at e1 e2 e3 e4; omega
theorem Ev.some {α : Type} {g : Nat → Option α} {r : α} (h : ∀ k, g k = some r) : Ev g r := ⟨0, fun k _ => h k⟩
theorem Ev.ite {α : Type} {c : Prop} [Decidable c] {g f : Nat → Option α} {r q : α} (h : c → Ev g r) (k : ¬ c → Ev f q) : Ev (fun n => if c then g n else f n) (if c then r else q) := by
 by_cases hc : c
 ·
  obtain ⟨K, hK⟩ := h hc; exact ⟨K, fun n hn => by simp only [if_pos hc]; exact hK n hn⟩
 ·
  obtain ⟨K, hK⟩ := k hc; exact ⟨K, fun n hn => by simp only [if_neg hc]; exact hK n hn⟩
theorem Ev.pos {α : Type} {c : Prop} [Decidable c] {g f : Nat → Option α} {r : α} (hc : c) (h : Ev g r) : Ev (fun n => if c then g n else f n) r := by
 obtain ⟨K, hK⟩ := h; exact ⟨K, fun n hn => by simp only [if_pos hc]; exact hK n hn⟩
theorem Ev.neg {α : Type} {c : Prop} [Decidable c] {g f : Nat → Option α} {r : α} (hc : ¬ c) (h : Ev f r) : Ev (fun n => if c then g n else f n) r := by
 obtain ⟨K, hK⟩ := h; exact ⟨K, fun n hn => by simp only [if_neg hc]; exact hK n hn⟩
theorem Ev.bindc {α β : Type} {o : Option α} {f : Nat → α → Option β} {a : α} {r : β} (h : o = Option.some a) (k : Ev (fun n => f n a) r) : Ev (fun n => o.bind (f n)) r := by
 obtain ⟨K, hK⟩ := k; exact ⟨K, fun n hn => by rw [h]; exact hK n hn⟩
def allFrom (P : Nat → Bool) : Nat → Nat → Bool
 | _, 0 => true
 | i, d + 1 => P i && allFrom P (i + 1) d
theorem allFrom_iff (P : Nat → Bool) : ∀ (d i : Nat), allFrom P i d = true ↔ ∀ j, i ≤ j → j < i + d → P j = true
 | 0, i => ⟨fun _ j h1 h2 => by omega, fun _ => rfl⟩
 | d + 1, i => by
  rw [allFrom, Bool.and_eq_true, allFrom_iff P d (i + 1)]
  constructor
  ·
   rintro ⟨h0, h1⟩ j hj hj2; by_cases e : j = i
   ·
    subst e; exact h0
   · exact h1 j (by omega) (by omega)
  ·
   intro h; exact ⟨h i (by omega) (by omega), fun j hj hj2 => h j (by omega) (by omega)⟩
theorem allFrom_all {α : Type} (l : List α) (d : α) (p : α → Bool) : allFrom (fun i => p (l.getD i d)) 0 l.length = l.all p := by
 rw [Bool.eq_iff_iff, allFrom_iff, List.all_eq_true]
 constructor
 ·
  intro h x hx; obtain ⟨j, hj, rfl⟩ := List.getElem_of_mem hx; have := h j (by omega) (by omega); simpa [List.getD, hj] using this
 ·
  intro h j _ hj; have hj' : j < l.length := by omega
  have := h l[j] (List.getElem_mem hj'); simpa [List.getD, hj'] using this
def inR (x a b : Int) : Bool := if x ≥ a then decide (x ≤ b) else false
theorem inR_iff {x a b : Int} : inR x a b = true ↔ a ≤ x ∧ x ≤ b := by
 unfold inR; split
 ·
  simp; omega
 ·
  simp; omega
theorem eq_loop {α : Type} (L : Nat → List α → List α → Int → Option Bool) 
  (hL : ∀ k x0 x4, 0 ≤ x4 → L (k + 1) x0 x0 x4 = if x4 < (x0.length : Int) then L k x0 x0 (wrap64 (x4 + 1)) else some true)
  (x0 : List α) (hb : x0.length ≤ 140737488351232) : ∀ (d k i : Nat), i + d = x0.length → d < k → L k x0 x0 (i : Int) = some true
 | 0, k, i, hi, hk => by
  obtain ⟨k, rfl⟩ : ∃ m, k = m + 1 := ⟨k - 1, by omega⟩
  rw [hL _ _ _ (by omega), if_neg (by omega)]
 | d + 1, k, i, hi, hk => by
  obtain ⟨k, rfl⟩ : ∃ m, k = m + 1 := ⟨k - 1, by omega⟩
  rw [hL _ _ _ (by omega), if_pos (by omega), w64 (by omega) (by omega), show ((i : Int) + 1) = ((i + 1 : Nat) : Int) by omega]; exact eq_loop L hL x0 hb d k (i + 1) (by omega) (by omega)
theorem eq_all {α : Type} (L : Nat → List α → List α → Int → Option Bool) 
  (hL : ∀ k x0 x4, 0 ≤ x4 → L (k + 1) x0 x0 x4 = if x4 < (x0.length : Int) then L k x0 x0 (wrap64 (x4 + 1)) else some true)
  (x0 : List α) (hb : x0.length ≤ 140737488351232) : Ev (fun k => L k x0 x0 0) true :=
 ⟨x0.length + 1, fun k hk => eq_loop L hL x0 hb x0.length k 0 (by omega) (by omega)⟩
theorem all_loop (P : Nat → Bool) (n : Nat) (hn : n ≤ 140737488351232) (L : Nat → Int → Option Bool) (fin : Option Bool)
  (hL : ∀ k i, i < n → L (k + 1) (i : Int) = if P i = true then L k (wrap64 (i + 1)) else some false) (hend : ∀ k, L (k + 1) (n : Int) = fin) :
  ∀ (d k i : Nat), i + d = n → d < k → L k (i : Int) = if allFrom P i d = true then fin else some false
 | 0, k, i, hi, hk => by
  obtain ⟨k, rfl⟩ : ∃ m, k = m + 1 := ⟨k - 1, by omega⟩
  obtain rfl : i = n := by omega
  rw [hend, allFrom, if_pos rfl]
 | d + 1, k, i, hi, hk => by
  obtain ⟨k, rfl⟩ : ∃ m, k = m + 1 := ⟨k - 1, by omega⟩
  rw [hL _ _ (by omega), w64 (by omega) (by omega), show ((i : Int) + 1) = ((i + 1 : Nat) : Int) by omega, all_loop P n hn L fin hL hend d k (i + 1) (by omega) (by omega), allFrom]; cases P i <;> simp
theorem all_ev (P : Nat → Bool) (n : Nat) (hn : n ≤ 140737488351232) (L : Nat → Int → Option Bool) (fin : Option Bool)
  (hL : ∀ k i, i < n → L (k + 1) (i : Int) = if P i = true then L k (wrap64 (i + 1)) else some false) (hend : ∀ k, L (k + 1) (n : Int) = fin) :
  ∃ K, ∀ k, K ≤ k → L k 0 = if allFrom P 0 n = true then fin else some false :=
 ⟨n + 1, fun k hk => all_loop P n hn L fin hL hend n k 0 (by omega) (by omega)⟩
end Go.Proofs.Ytlipaiabjcaeiaa.Plain
namespace Go.Proofs.Ytlipaiabjcaeiaa.Ent
open Go.RowKit YtlipaiabjcaeiaaW.PrintWords Plain A
theorem within_eq (x a b : Int) : impl_within.f x a b = some (inR x a b) := by unfold impl_within.f inR; split <;> rfl
theorem in_eq (x a b : Int) : spec_l1In.f x a b = some (inR x a b) := by unfold spec_l1In.f inR; split <;> rfl
theorem station_eq (x : Int) : impl_isStation.f x = some (inR x 0 7) := by unfold impl_isStation.f; rw [within_eq]; rfl
theorem bearing_eq (x : Int) : impl_isBearing.f x = some (inR x 0 359) := by unfold impl_isBearing.f; rw [within_eq]; rfl
theorem l4Station_eq (x : Int) : spec_l4Station.f x = some (inR x 0 7) := by unfold spec_l4Station.f; rw [in_eq]; rfl
theorem l2Bearing_eq (x : Int) : spec_l2Bearing.f x = some (inR x 0 359) := by unfold spec_l2Bearing.f; rw [in_eq]; rfl
def legB (a b c d e : Int) : Bool := inR a 0 7 && (inR b 0 7 && (decide (a ≠ b) && (inR c 1 500 && (inR d 0 359 && inR e (-90) 90))))
theorem isLeg_eq (a b c d e : Int) : impl_IsLeg.f a b c d e = some (legB a b c d e) := by
 unfold impl_IsLeg.f legB; simp only [station_eq, within_eq, bearing_eq, Option.bind_some]; cases inR a 0 7 <;> cases inR b 0 7 <;> by_cases h : a = b <;> cases inR c 1 500 <;> cases inR d 0 359 <;> simp [h]
theorem l4Leg_eq (a b c d e : Int) : spec_l4Leg.f a b c d e = some (legB a b c d e) := by
 unfold spec_l4Leg.f legB; simp only [l4Station_eq, in_eq, l2Bearing_eq, Option.bind_some]; cases inR a 0 7 <;> cases inR b 0 7 <;> by_cases h : a = b <;> cases inR c 1 500 <;> cases inR d 0 359 <;> simp [h]
theorem isEntry_eq (a b c d e : Int) (f : Bool) : impl_IsEntry.f a b c d e f = some (legB a b c d e) := by
 simp only [impl_IsEntry.f, impl_Entry_leg.f, Option.bind_some, isLeg_eq]
theorem l7One_eq (a b c d e : Int) (f : Bool) : spec_l7One.f a b c d e f = some (legB a b c d e) := by
 simp only [spec_l7One.f, Option.bind_some, l4Leg_eq]
end Go.Proofs.Ytlipaiabjcaeiaa.Ent
namespace Go.Proofs.Ytlipaiabjcaeiaa.Book
open Go.RowKit YtlipaiabjcaeiaaW.PrintWords Plain A Ent
abbrev EN := S52
abbrev z : EN := z52
def okE (x : EN) : Bool := legB x.f0 x.f1 x.f2 x.f3 x.f4
def bookB (l : List EN) : Bool := l.all okE && decide (l.length ≤ 12)
theorem bad_eq (x : EN) : impl_isBook.bad x = !okE x := by
 unfold impl_isBook.bad okE; rw [isEntry_eq]; cases legB x.f0 x.f1 x.f2 x.f3 x.f4 <;> rfl
theorem isBook_eq (l : List EN) : impl_isBook.f l = some (bookB l) := by
 unfold impl_isBook.f bookB
 have e : (!(l.any impl_isBook.bad)) = l.all okE := by
  induction l with
  | nil => rfl
  | cons x l ih => rw [List.any_cons, List.all_cons, Bool.not_or, ih, bad_eq, Bool.not_not]
 by_cases h : l.length ≤ 12
 · rw [if_pos h, e, decide_eq_true h, Bool.and_true]
 · rw [if_neg h, decide_eq_false h, Bool.and_false]
theorem l7Book_ev (l : List EN) (hb : l.length ≤ 140737488351232) : Ev (fun k => spec_l7Book.f k l) (bookB l) := by
 obtain ⟨K, hK⟩ := all_ev (fun i => okE (l.getD i z)) l.length hb (fun k i => spec_l7Book.l0 k l i) (some (decide ((l.length : Int) ≤ 12))) (by
   intro k i hi; simp only [spec_l7Book.l0]; rw [if_pos (by omega), if_pos (by omega), l7One_eq, Option.bind_some]
   rfl) (by
   intro k; simp only [spec_l7Book.l0]
   rw [if_neg (by omega)])
 refine ⟨K, fun k hk => ?_⟩; have := hK k hk; simp only [spec_l7Book.f]; rw [this, allFrom_all]; unfold bookB; have e : decide ((l.length : Int) ≤ 12) = decide (l.length ≤ 12) := decide_eq_decide.2 (by omega); rw [e]; cases l.all okE <;> simp
theorem okE_iff {x : EN} (h : okE x = true) : (0 ≤ x.f0 ∧ x.f0 ≤ 7) ∧ (0 ≤ x.f1 ∧ x.f1 ≤ 7) ∧ x.f0 ≠ x.f1 ∧ (1 ≤ x.f2 ∧ x.f2 ≤ 500) ∧ (0 ≤ x.f3 ∧ x.f3 ≤ 359) ∧ (-90 ≤ x.f4 ∧ x.f4 ≤ 90) := by
 unfold okE legB at h; simp only [Bool.and_eq_true, inR_iff, decide_eq_true_eq] at h; exact ⟨h.1, h.2.1, h.2.2.1, h.2.2.2.1, h.2.2.2.2.1, h.2.2.2.2.2⟩
theorem book_at {l : List EN} (h : bookB l = true) {i : Nat} (hi : i < l.length) : okE (l.getD i z) = true := by
 unfold bookB at h; rw [Bool.and_eq_true, List.all_eq_true] at h; rw [List.getD_eq_getElem?_getD, List.getElem?_eq_getElem hi]; exact h.1 _ (List.getElem_mem hi)
theorem book_len {l : List EN} (h : bookB l = true) : l.length ≤ 12 := by
 unfold bookB at h; rw [Bool.and_eq_true, decide_eq_true_eq] at h; exact h.2
end Go.Proofs.Ytlipaiabjcaeiaa.Book
namespace Go.Proofs.Ytlipaiabjcaeiaa.Book
open Go Go.RowKit Go.Shelf YtlipaiabjcaeiaaW.PrintWords A
attribute [local go_sem] Oper.semAt_some
def entC (x : EN) : List Value := [.int .i64 x.f0, .int .i64 x.f1, .int .i64 x.f2, .int .i64 x.f3, .int .i64 x.f4, .bool x.f5]
def entV (x : EN) : Value := .agg #[.int .i64 x.f0, .int .i64 x.f1, .int .i64 x.f2, .int .i64 x.f3, .int .i64 x.f4, .bool x.f5]
def encE (p : Int × EN) : Array Value := #[.int .i64 p.1, entV p.2]
def upB (zs : List EN) : Nat → List (Int × EN)
 | 0 => []
 | k + 1 => upB zs k ++ [(((zs.length - 1 - k : Nat) : Int), zs.getD (zs.length - 1 - k) z)]
theorem upB_len (zs : List EN) : ∀ k, (upB zs k).length = k
 | 0 => rfl
 | k + 1 => by rw [upB, List.length_append, upB_len zs k, List.length_singleton]
def KeptB (n B : Nat) (W W' : World) : Prop := Below n W W' ∧ W'.heap[B]? = W.heap[B]?
theorem KeptB.trans {n B : Nat} {a b c : World} (h : KeptB n B a b) (k : KeptB n B b c) : KeptB n B a c := ⟨h.1.trans k.1, k.2.trans h.2⟩
theorem back1_in (F : Fence) (n : Nat) (h47 : F.fn 93) (hro : F.round = none) (hn : 1 ≤ n) (l Bs : Nat) (A0 : Option Addr) (cap : Nat) (zs : List EN) (w : World) (hC : Kd.C k52 w A0 zs.length zs) (hl : zs.length ≤ 12) (J Jx : List (Int × EN) → World → Prop)
  (hY : ∀ pre x W, J pre W → pre.length < zs.length → YieldAt F (n - 1) Try.prog l (encE x) W fun e W' =>
   (e = .returned (.bool true) ∧ J (pre ++ [x]) W' ∧ KeptB w.heap.size Bs W W') ∨ (e = .returned (.bool false) ∧ Jx (pre ++ [x]) W'))
  (W : World) (hW : Below w.heap.size w W) (hBc : W.cell? ⟨Bs, 0, none⟩ = some (.slice A0 zs.length cap)) (h0 : J [] W) :
  CallsIn F n Try.prog 93 #[.func (.yield l) #[] #[], .pointer (some ⟨Bs, 0, none⟩)] W fun e W' => (∃ v, e = .returned v) ∧
   ((∃ ys, ys = upB zs zs.length ∧ J ys W') ∨ (∃ pre, True ∧ Jx pre W')) := by
 refine callsIn_of_wp Try.func93 rfl h47 ?_ hro; simp only [Try.ntmps93, List.size_toArray, List.length_cons, List.length_nil, Nat.reduceAdd, Nat.reduceSub, Array.replicate_succ, Array.replicate_zero, List.push_toArray, List.append_toArray, List.nil_append, List.cons_append]; have HCW := ak hC; have HBC := ak hBc; have HYY := ak hY; have hbx := hBc
 clear hC hBc hY 
 gi_wp2
 clear hbx
 gi_loopw [3] (fun i wr => ∃ j : Nat, j ≤ zs.length ∧ i = .int .i64 ((j : Int) - 1) ∧ J (upB zs (zs.length - j)) wr ∧ Below w.heap.size w wr ∧ wr.heap[Bs]? = W.heap[Bs]?)
  (fun i _ => (intOf i + 1).toNat)
 case atStart => exact ⟨zs.length, Nat.le_refl _, rfl, (by rw [Nat.sub_self]; exact h0), hW, rfl⟩
 case round =>
  obtain ⟨j, hk, rfl, hJs, hnx, hbk⟩ := hrel; have hbx := (World.cell?_of_block (a := ⟨Bs, 0, none⟩) hbk).trans HBC.out
  cases j with
  | succ j =>
   have i0 : (0 : Int) ≤ (j : Int) := by omega
   have i1 : (j : Int) < (zs.length : Int) := by omega
   have ei : ((j + 1 : Nat) : Int) - 1 = (j : Int) := by omega
   rw [ei]; obtain ⟨ad, rfl, c0, c1, c2, c3, c4, c5⟩ := at_T52 (Kd.C_below HCW.out hnx) (j : Int) i0 i1; have hx : rd_T52 zs (j : Int) = zs.getD j z := rfl
   have hup : upB zs (zs.length - j) = upB zs (zs.length - (j + 1)) ++ [((j : Int), rd_T52 zs (j : Int))] := by
    rw [show zs.length - j = zs.length - (j + 1) + 1 by omega, upB, hx, show zs.length - 1 - (zs.length - (j + 1)) = j by omega]
   obtain ⟨fn, tmps, assign, body, hy, hR⟩ := HYY.out _ ((j : Int), rd_T52 zs (j : Int)) wr hJs (by rw [upB_len]; omega); have HUP := ak hup; clear hup hx ei; generalize rd_T52 zs (j : Int) = x at *
   dsimp only [encE, entV] at hy
   rw [Int.toNat_natCast] at c0 c1 c2 c3 c4 c5
   gi_wp2
   refine hR.mono ?_; rintro e W3 (⟨rfl, hJ3, hk3⟩ | ⟨rfl, hJx3⟩)
   ·
    gi_wp2
    go_roundw
    (case rel => exact ⟨j, by omega, rfl, (by rw [HUP.out]; exact hJ3), hnx.trans hk3.1, hk3.2.trans hbk⟩); (case measure => simp [intOf])
   ·
    gi_wp2
    refine bodyPost_ret (results_none rfl _ _ _) rfl ?_; exact ⟨⟨_, rfl⟩, .inr ⟨_, trivial, hJx3⟩⟩
  | zero =>
   rw [show ((0 : Nat) : Int) - 1 = -1 from rfl]
   gi_wp2
   go_end0
   exact ⟨⟨_, rfl⟩, .inl ⟨_, rfl, hJs⟩⟩
theorem back_in (F : Fence) (n : Nat) (h29 : F.fn 65) (hro : F.round = none) (a : Option Addr) (len cap : Nat) (w : World) :
  CallsIn F n Try.prog 65 #[.slice a len cap] w fun e w' => e = .returned (.func (.func 93) #[] #[.pointer (some ⟨w.heap.size, 0, none⟩)]) ∧ w' = w.alloc (.cells #[.slice a len cap] 41) := by
 refine callsIn_of_wp Try.func65 rfl h29 ?_ hro; simp only [Try.ntmps65, List.size_toArray, List.length_cons, List.length_nil, Nat.reduceAdd, Nat.reduceSub, Array.replicate_succ, Array.replicate_zero, List.push_toArray, List.append_toArray, List.nil_append, List.cons_append]
 gi_wp2
 go_ret; exact ⟨rfl, rfl⟩
theorem back_stops (F : Fence) (n : Nat) (h47 : F.fn 93) (hro : F.round = none) (hn : 1 ≤ n) (Bs : Nat) (A0 : Option Addr) (cap : Nat) (zs : List EN) (w w1 : World) (hC : Kd.C k52 w A0 zs.length zs) (hl : zs.length ≤ 12) (hB1 : Bs < w1.heap.size) (hw : Below w.heap.size w w1) (hc : w1.cell? ⟨Bs, 0, none⟩ = some (.slice A0 zs.length cap)) :
  SeqStopsK F n Try.prog 93 #[.pointer (some ⟨Bs, 0, none⟩)] encE (KeptB w.heap.size Bs) (fun ys => ys = upB zs zs.length) (fun _ => True) zs.length w1 := fun l J Jx W hW _ _ hY h0 =>
 back1_in F n h47 hro hn l Bs A0 cap zs w hC hl J Jx hY W (hw.trans (hW.mono hw.size)) ((hW.cell (p := ⟨Bs, 0, none⟩) hB1).trans hc) h0
end Go.Proofs.Ytlipaiabjcaeiaa.Book
namespace Go.Proofs.Ytlipaiabjcaeiaa.Net
open Go Go.RowKit YtlipaiabjcaeiaaW.PrintWords
def Sine.Laid (_ : World) : Prop := True
theorem Sine.Laid.keep {w W : World} (_ : Sine.Laid w) (_ : Below w.heap.size w W) : Sine.Laid W := trivial
end Go.Proofs.Ytlipaiabjcaeiaa.Net
namespace Go.Proofs.Ytlipaiabjcaeiaa.Book
open Go Go.RowKit Go.Shelf YtlipaiabjcaeiaaW.PrintWords A
attribute [local go_sem] Oper.semAt_some
def revE (x : EN) : EN := ⟨x.f1, x.f0, x.f2, x.f3, x.f4, !x.f5⟩
def flatE (ls : List EN) : List Value := ls.flatMap entC
theorem flatE_snoc (ls : List EN) (x : EN) : flatE (ls ++ [x]) = flatE ls ++ entC x := by unfold flatE; rw [List.flatMap_append]; simp
theorem flatE_len : ∀ ls : List EN, (flatE ls).length = ls.length * 6
 | [] => rfl
 | x :: ls => by
  show (entC x ++ flatE ls).length = _; rw [List.length_append, flatE_len ls, List.length_cons]; show 6 + _ = _; omega
def gotE (pre : List (Int × EN)) : List EN := pre.map (fun p => revE p.2)
theorem gotE_snoc (pre : List (Int × EN)) (p : Int × EN) : gotE (pre ++ [p]) = gotE pre ++ [revE p.2] := by simp [gotE]
theorem gotE_len (pre : List (Int × EN)) : (gotE pre).length = pre.length := by simp [gotE]
theorem flat_reps : ∀ (ls : List EN) (w : World) (base : Nat) (ok : Nat → Prop), Reps (Kd.M k52 w base ok) 6 ls (flatE ls) := by
 intro ls w base ok; refine ⟨flatE_len ls, ?_⟩
 induction ls with
 | nil => intro j p h; simp at h
 | cons x ls ih =>
  intro j p h
  cases j with
  | zero =>
   obtain rfl : x = p := by simpa using h
   rw [Nat.zero_mul, List.drop_zero]; show Kd.M _ _ _ _ _ ((entC x ++ flatE ls).take 6); rw [List.take_append_of_le_length (by show 6 ≤ 6; omega)]; exact k52_mkM w base ok x
  | succ j =>
   have := ih j p (by simpa using h); rw [show (j + 1) * 6 = 6 + j * 6 by omega, ← List.drop_drop]; exact this
def EntAt (W : World) (B : Nat) (x : EN) : Prop := W.heap[B]? = some (.cells #[.int .i64 x.f0, .int .i64 x.f1, .int .i64 x.f2, .int .i64 x.f3, .int .i64 x.f4, .bool x.f5] 52 (0, 0))
theorem EntAt.own (B : Nat) (x : EN) {X Y : World} {row : Option Nat} (h : EntAt X B x) (hg : X.grownBy Y row) (hr : ∀ r, row = some r → ∃ o : Obj, X.heap[r]? = some o ∧ o.isCells = false) : EntAt Y B x := by
 refine (hg.block B ?_ (fun e => ?_)).trans h
 · exact (Array.getElem?_eq_some_iff.1 h).1
 ·
  obtain ⟨o, ho, hc⟩ := hr B e.symm; rw [show X.heap[B]? = _ from h] at ho; cases ho; cases hc
theorem EntAt.cells {W : World} {B : Nat} {x : EN} (h : EntAt W B x) : W.cell? ⟨B, 0, none⟩ = some (.int .i64 x.f0) ∧ W.cell? ⟨B, 1, none⟩ = some (.int .i64 x.f1) ∧ W.cell? ⟨B, 2, none⟩ = some (.int .i64 x.f2) ∧ W.cell? ⟨B, 3, none⟩ = some (.int .i64 x.f3) ∧ W.cell? ⟨B, 4, none⟩ = some (.int .i64 x.f4) ∧ W.cell? ⟨B, 5, none⟩ = some (.bool x.f5) ∧ ∀ i, W.frozen? ⟨B, i, none⟩ = false := by
 have hh : W.heap[B]? = _ := h; refine ⟨?_, ?_, ?_, ?_, ?_, ?_, fun i => ?_⟩ <;> simp [World.cell?, World.frozen?, hh]
theorem gsc (W : World) (b o : Nat) (v : Value) : W.grownBy (W.setCell ⟨b, o, none⟩ v) (some b) :=
 ⟨rfl, rfl, rfl, (KeepsWalks.setCell W _ v).size, fun k _ hk => Below.heap_setCell _ _ _ k (fun e => hk (by rw [e]))⟩
theorem ent_new (W : World) (x : EN) : ∀ j u, (entC x)[j]? = some u → (W.alloc (.cells #[.int .i64 x.f0, .int .i64 x.f1, .int .i64 x.f2, .int .i64 x.f3, .int .i64 x.f4, .bool x.f5] 52)).cell? ((⟨W.heap.size, 0, none⟩ : Addr).add j) = some u := by
 intro j u hj; have h : EntAt (W.alloc (.cells #[.int .i64 x.f0, .int .i64 x.f1, .int .i64 x.f2, .int .i64 x.f3, .int .i64 x.f4, .bool x.f5] 52)) W.heap.size x := World.alloc_heap_new W _; obtain ⟨c0, c1, c2, c3, c4, c5, _⟩ := h.cells; have hl : j < 6 := (List.getElem?_eq_some_iff.1 hj).1; rw [Addr.add_lit, Nat.zero_add]
 match j, hl with
 | 0, _ =>
  obtain rfl : _ = u := by simpa [entC] using hj
  exact c0
 | 1, _ =>
  obtain rfl : _ = u := by simpa [entC] using hj
  exact c1
 | 2, _ =>
  obtain rfl : _ = u := by simpa [entC] using hj
  exact c2
 | 3, _ =>
  obtain rfl : _ = u := by simpa [entC] using hj
  exact c3
 | 4, _ =>
  obtain rfl : _ = u := by simpa [entC] using hj
  exact c4
 | 5, _ =>
  obtain rfl : _ = u := by simpa [entC] using hj
  exact c5
def revM (l : List EN) : List EN × Bool := if bookB l = true then (gotE (upB l l.length), true) else ([], false)
end Go.Proofs.Ytlipaiabjcaeiaa.Book
namespace Go.Proofs.Ytlipaiabjcaeiaa.A
open Go Go.RowKit Go.Shelf YtlipaiabjcaeiaaW.PrintWords
open Net (Sine.Laid)
open Book
attribute [local go_sem] Oper.semAt_some
def impl_ReverseBook.f (l0 : List EN) : Option (List EN × Bool) := if l0.length ≤ 140737488351232 then some (revM l0) else none
theorem impl_ReverseBook.calls (A0 : Option Addr) (c : Nat) (ls : List EN) (r1 : List EN) (r2 : Bool) (w : World) (hr0 : Kd.C k52 w A0 ls.length ls) (hc : ls.length ≤ c) (h : impl_ReverseBook.f ls = some (r1, r2)) (hL : Sine.Laid w) :
  Calls Try.prog 25 #[.slice A0 ls.length c] w fun e w' => ∃ v0_ : Value, e = .returned (.tuple #[v0_, .bool r2]) ∧ Kd.R k52 52 w' w.heap.size (fun _ => True) v0_ r1 ∧ Below w.heap.size w w' := by
 unfold impl_ReverseBook.f at h; by_cases hb : ls.length ≤ 140737488351232; (case neg => rw [if_neg hb] at h; cases h); rw [if_pos hb] at h; have HA := ak (isBook_eq ls); have HR := ak hr0; unfold revM at h; obtain ⟨i0, hi, hz0, hz1, hz2⟩ := info_parts info52; cases hv : bookB ls
 ·
  rw [if_neg (by rw [hv]; simp)] at h; simp only [Option.some.injEq, Prod.mk.injEq] at h; obtain ⟨rfl, rfl⟩ := h; rw [hv] at HA; have HB := ak (Below.refl w.heap.size w); clear hr0 hL hb hv; go_enter Try.func25, Try.ntmps25; go_wp2_with (go_at_call 64; (with_reducible refine (impl_isBook.calls _ _ ls false _ ?s1 hc HA.out).mono ?_); (case s1 => exact HR.out); rintro e w' ⟨rfl, hw⟩; replace HB := ak hw; clear hw); exact bodyPost_ret (v := .tuple #[.slice none 0 0, .bool false]) (by simp [results, Try.results25, go_sem]) rfl ⟨_, rfl, Kd.R_nil _ _ _ _ _, (by repeat (first | exact HB.out | apply below_drew1))⟩
 ·
  rw [hv] at HA; rw [if_pos hv] at h; simp only [Option.some.injEq, Prod.mk.injEq] at h; obtain ⟨rfl, rfl⟩ := h; have hn := book_len hv; clear hr0 hL hb hv; refine (callsIn_wide (n := 8)).1 ?_; refine callsIn_of_wp_marks Try.func25 rfl trivial ?_ rfl; simp only [Try.ntmps25, List.size_toArray, List.length_cons, List.length_nil, Nat.reduceAdd, Nat.reduceSub, Array.replicate_succ, Array.replicate_zero, List.push_toArray, List.append_toArray, List.nil_append, List.cons_append]
  gi_wp2_with (first
   | (refine ⟨trivial, ?_⟩; gi_at_call 64; refine (callsIn_wide.2 (impl_isBook.calls _ _ ls true _ HR.out hc HA.out)).mono ?_; rintro e w1 ⟨rfl, hw⟩; have HB := ak hw; clear hw)
   | (refine ⟨trivial, ?_⟩; gi_at_call 65; refine (back_in Fence.wide _ trivial rfl _ _ _ _).mono ?_; rintro e w' ⟨rfl, rfl⟩))
  have hs1 := HB.out.size; have bO := (Boxed.new w1 41 (.slice none 0 0)).alloc (.cells #[.slice A0 ls.length c] 41); have bB := Boxed.new (w1.alloc (.cells #[.slice none 0 0] 41)) 41 (.slice A0 ls.length c); rw [World.size_alloc] at bB; have hB0 : Below w.heap.size w ((w1.alloc (.cells #[.slice none 0 0] 41)).alloc (.cells #[.slice A0 ls.length c] 41)) := (HB.out.alloc hs1 _).alloc qz125 _; have hsz : ((w1.alloc (.cells #[.slice none 0 0] 41)).alloc (.cells #[.slice A0 ls.length c] 41)).heap.size = w1.heap.size + 2 := by simp
  obtain ⟨W0, hW0⟩ : ∃ W0, (w1.alloc (.cells #[.slice none 0 0] 41)).alloc (.cells #[.slice A0 ls.length c] 41) = W0 := ⟨_, rfl⟩
  rw [hW0] at bO bB hB0 hsz ⊢; clear hW0; have hst := back_stops Fence.wide 7 trivial rfl (by omega) (w1.heap.size + 1) A0 c ls w W0 HR.out hn (by omega) hB0 bB.cell
  refine wpIn_rangeFunc_ownH rfl (by omega) (gf := 93) (lb := #[.pointer (some ⟨w1.heap.size + 1, 0, none⟩)]) rfl trivial (enters_of Try.func93 qz88 rfl)
   hst KeptB.trans (fun W l o o' h1 h2 h3 h4 => ⟨belowK_b (w := W0) (by omega) W l o o' h1 h2 h3 h4, World.putObj_heap_other (by omega)⟩) (Below.refl _ _) (fun _ => rfl)
   (fun pre W => (∃ v, Boxed W w1.heap.size 41 v ∧ W.ownsRow w.heap.size 52 6 v pre.length (flatE (gotE pre)) ∧ True) ∧ Boxed W (w1.heap.size + 1) 41 (.slice A0 ls.length c) ∧ Below w.heap.size w W)
   (fun _ _ _ => False)
   (OwnFrom.and (Own.from (holdsRow_own w.heap.size w1.heap.size 41 52 6 (fun pre : List (Int × EN) => pre.length) (fun pre => flatE (gotE pre)) (fun _ _ => True)) _) (OwnFrom.and (Own.from (boxed_own _ _ _) _) (ownFrom_below (Nat.le_refl _) (by omega))))
   (fun _ _ _ _ _ hs _ _ => hs)
   ⟨⟨_, bO, World.ownsRow_nil _ _ _ _, trivial⟩, bB, hB0⟩
   (fun x a' W => ∃ Bx v, w1.heap.size + 1 < Bx ∧ EntAt W Bx x.2 ∧ Boxed W w1.heap.size 41 v ∧ some Bx ≠ v.ownBlock ∧ a' = { tmps := #[.slice A0 ls.length c, undef, .slice none 0 0, .bool false, .pointer (some ⟨w1.heap.size, 0, none⟩), undef, .pointer (some ⟨Bx, 0, none⟩), .slice A0 ls.length c, .bool true, .bool false, .slice A0 ls.length c, .func (.func 93) #[] #[.pointer (some ⟨w1.heap.size + 1, 0, none⟩)], .int .i64 x.1, entV x.2, undef, undef, undef, undef, undef, undef, undef, undef, undef, undef, undef, undef, undef, undef, undef], defers := [] })
   (fun x a' _ X Y row hs hg hr => by obtain ⟨Bx, v, h1, h2, h3, h4, h5⟩ := hs; exact ⟨Bx, v, h1, h2.own Bx x.2 hg (fun r e => (hr r e).2), boxed_own w1.heap.size 41 (fun (_ : Unit) => v) () X Y row h3 hg (fun r e => (hr r e).2), h4, h5⟩)
   ?assign ?body ?done ?stop
  case assign =>
   rintro l pre x W K ⟨⟨v, hv, hrow, _⟩, hbb, hB⟩ hK
   dsimp only [encE, entV]
   gi_wp2
   exact hK _ _ ((KeepsOthers.alloc _ _).from _) ⟨(Below.refl _ W).alloc hB.size _, Below.heap_alloc W _ _ hbb.lt⟩ ⟨⟨v, hv.alloc _, hrow.alloc _, trivial⟩, hbb.alloc _, hB.alloc hB.size _⟩ ⟨W.heap.size, v, hbb.lt, World.alloc_heap_new W _, hv.alloc _, fun e => by have := own_lt hrow _ e.symm; omega, rfl⟩
  case body =>
   rintro l pre x a' W hl ⟨r, hr⟩ ⟨⟨v, hv, hrow, _⟩, hbb, hB⟩ ⟨Bx, v', hBx, bX, hv', hnb, rfl⟩ hlt; obtain ⟨i, x⟩ := x
   obtain rfl : v' = v := by
    have := (show W.heap[w1.heap.size]? = _ from hv').symm.trans hv; simpa using this
   dsimp only [entV] at bX ⊢
   obtain ⟨c0, c1, c2, c3, c4, c5, hfr⟩ := bX.cells; have f0 := hfr 0; have f1 := hfr 1; have f5 := hfr 5; have hne : ¬ (w1.heap.size = Bx) := by omega
   have hne2 : ¬ (w1.heap.size + 1 = Bx) := by omega
   have hcv := hv.cell; have hfv := hv.frozen; obtain ⟨W3, hW3⟩ : ∃ W3, ((W.setCell ⟨Bx, 0, none⟩ (.int .i64 x.f1)).setCell ⟨Bx, 1, none⟩ (.int .i64 x.f0)).setCell ⟨Bx, 5, none⟩ (.bool !x.f5) = W3 := ⟨_, rfl⟩
   have g1 := gsc W Bx 0 (.int .i64 x.f1); have g2 := gsc (W.setCell ⟨Bx, 0, none⟩ (.int .i64 x.f1)) Bx 1 (.int .i64 x.f0); have g3 := gsc ((W.setCell ⟨Bx, 0, none⟩ (.int .i64 x.f1)).setCell ⟨Bx, 1, none⟩ (.int .i64 x.f0)) Bx 5 (.bool !x.f5)
   have box : ∀ {B : Nat} {u : Value}, ¬ (B = Bx) → Boxed W B 41 u → Boxed W3 B 41 u := fun {B u} hnB hb => by
    have e : ¬ (some B = some Bx) := fun e => hnB (by injection e)
    rw [← hW3]; exact ((hb.kept g1 e).kept g2 e).kept g3 e
   have hv3 := box hne hv; have hbb3 := box hne2 hbb
   have hr3 : W3.ownsRow w.heap.size 52 6 v' pre.length (flatE (gotE pre)) := by
    rw [← hW3]
    exact own_move hrow (fun k hk => by
     have hkB : ¬ (k = Bx) := fun e => hnb (by rw [← e, hk])
     have l1 := own_lt hrow _ hk; have e : ¬ (some k = some Bx) := fun e => hkB (by injection e)
     exact (g3.block k (by have := g1.size; have := g2.size; omega) e).trans ((g2.block k (by have := g1.size; omega) e).trans (g1.block k l1 e)))
   have hK3 : KeepsOthers W W3 := by
    rw [← hW3]; exact ((KeepsOthers.setCell _ _ _).trans (KeepsOthers.setCell _ _ _)).trans (KeepsOthers.setCell _ _ _)
   have hBx0 : w.heap.size ≤ Bx := by omega
   have hB3 : Below w.heap.size W W3 := by
    rw [← hW3]; exact (((Below.refl w.heap.size W).setCell (p := ⟨Bx, 0, none⟩) hBx0 _).setCell (p := ⟨Bx, 1, none⟩) hBx0 _).setCell (p := ⟨Bx, 5, none⟩) hBx0 _
   have hs3 := (hB.trans hB3).size; have hsw : W3.heap.size = W.heap.size := by rw [← hW3]; simp
   have hnew := ent_new W3 (revE x); rw [hsw] at hnew; have HN := ak hnew; clear hnew; have HX := ak hv3; have HY := ak hr3; have HZ := ak hbb3; have HW3 := ak hW3; have HRW := ak hrow; have HVV := ak hv; have HVW := ak hv'; clear hv3 hr3 hbb3 g1 g2 g3 box hW3 hrow hv hv' bX
   gi_wp2_with (gi_at_builtin; rw [HW3.out]; refine wpListIn_append_own _ rfl _ _ 41 rfl w.heap.size 52 i0 _ 6 48 Try.underlying41 hi hz0 hz1 hz2 rfl (by decide) _ _ _ rfl (HY.out.alloc _) ⟨W.heap.size, 0, none⟩ 1 1 (entC (revE x)) rfl rfl HN.out (by simp [entC, Value.oneCell']) (Nat.le_trans (Nat.le_trans hlt hn) (by decide)) (by omega) (by rw [World.size_alloc]; omega) ?_; intro v1 w4 hown' hgrow _; obtain ⟨g', cap', rfl⟩ := ownsRow_succ hown'; obtain ⟨hv1, hv2, hr2, hk2, hb2⟩ := HX.out.appended (by decide) HY.out hs3 hs1 hown' hgrow; have hc1 := hv1.cell; have hf1 := hv1.frozen; have HG := ak hgrow; clear hgrow)
   have hbf := (((HZ.out.alloc _).kept HG.out (HZ.out.not_row (by decide) HY.out)).other (B' := w1.heap.size) (by omega) (.slice (some ⟨g', 0, none⟩) (pre.length + 1) cap')); have hpl : (pre ++ [(i, x)]).length = pre.length + 1 := by simp
   have hfl : flatE (gotE (pre ++ [(i, x)])) = flatE (gotE pre) ++ entC (revE x) := by rw [gotE_snoc, flatE_snoc]
   exact ⟨(hK3.trans hk2).from _, ⟨hB3.trans hb2, (show _ = _ from hbf).trans (show _ = _ from hbb).symm⟩, ⟨⟨_, hv2, (by rw [hpl, hfl]; exact hr2), trivial⟩, hbf, (hB.trans hB3).trans hb2⟩⟩
  case done =>
   rintro D ys W hD rfl ⟨⟨v, hv, hrow, _⟩, hbb, hB⟩ hK; have hcv := hv.cell
   have hown : Kd.R k52 52 (W.putObj D (.deferred none)) w.heap.size (fun _ => True) v (gotE (upB ls ls.length)) := by
    refine ⟨fun _ _ => trivial, flatE (gotE (upB ls ls.length)), ?_, flat_reps _ _ _ _⟩; have h2 := ownsRow_putObj hrow (.deferred none) hK rfl; rw [← gotE_len] at h2; exact h2
   gi_wp2
   refine ⟨by simp, .inl ⟨_, _, rfl, run_takeDeferred hK, ?_⟩⟩; exact ⟨.tuple #[v, .bool true], (by simp [results, Try.results25, go_sem]), v, rfl, hown, hB.trans (belowK_b (w := w) (Nat.le_refl _) W D _ _ (by omega) hK rfl rfl)⟩
  case stop =>
   rintro D c2 pre W _ _ h _; exact h.elim
end Go.Proofs.Ytlipaiabjcaeiaa.A
