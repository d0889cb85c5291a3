/- The row of the law FnDeclinations: whatever the input, it returns true; its arguments read as they did. No conditions. -/
import Derived.Test.YtlipaiabjcaeiaaKFnDeclinationsVMore
import Derived.Deep.Slices
import Derived.Deep.Fields
import Derived.ChangeSame
import Derived.SizedLaws
import Derived.Test.YtlipaiabjcaeiaaRows
import Derived.WalkKit
import Derived.ProofKit
import Derived.OpenShut
import Derived.ShutString
import Derived.ChangeOld
import Derived.Below
import Derived.Test.YtlipaiabjcaeiaaKFnDeclinations0
import Derived.Test.YtlipaiabjcaeiaaKFnDeclinations1
import Derived.Test.YtlipaiabjcaeiaaKFnDeclinations2
import Derived.Test.YtlipaiabjcaeiaaKFnDeclinations3
import Derived.Test.YtlipaiabjcaeiaaKFnDeclinations4
import Derived.Test.YtlipaiabjcaeiaaKFnDeclinations5
/- Plain lemmas on integers that wrap at 64 bits, on answers that come after enough rounds, on tests over all indexes of a list. No program stands here. -/
namespace Go.Proofs.Ytlipaiabjcaeiaa.Plain
open Go.RowKit Go.Proofs.YtlipaiabjcaeiaaW.PrintWords

theorem w64 {x : Int} (h1 : -9223372036854775808 ≤ x) (h2 : x ≤ 9223372036854775807) : wrap64 x = x := by
  unfold wrap64
  omega

/-- The product of two numbers that are bounded. -/
theorem mul_bound {x y : Int} (A B : Int) (h1 : -A ≤ x) (h2 : x ≤ A) (h3 : -B ≤ y) (h4 : y ≤ B) : -(A * B) ≤ x * y ∧ x * y ≤ A * B := by
  have e1 : 0 ≤ (A - x) * (B - y) := Int.mul_nonneg (by omega) (by omega)
  have e2 : 0 ≤ (A + x) * (B + y) := Int.mul_nonneg (by omega) (by omega)
  have e3 : 0 ≤ (A - x) * (B + y) := Int.mul_nonneg (by omega) (by omega)
  have e4 : 0 ≤ (A + x) * (B - y) := Int.mul_nonneg (by omega) (by omega)
  simp only [Int.sub_mul, Int.mul_sub, Int.add_mul, Int.mul_add] at e1 e2 e3 e4
  omega

/-! ### Answers after enough rounds -/
theorem Ev.some {α : Type} {g : Nat → Option α} {r : α} (h : ∀ k, g k = some r) : Ev g r := ⟨0, fun k _ => h k⟩
theorem Ev.ite {α : Type} {c : Prop} [Decidable c] {g f : Nat → Option α} {r q : α} (h : c → Ev g r) (k : ¬ c → Ev f q) : Ev (fun n => if c then g n else f n) (if c then r else q) := by
  by_cases hc : c
  · obtain ⟨K, hK⟩ := h hc
    exact ⟨K, fun n hn => by simp only [if_pos hc]; exact hK n hn⟩
  · obtain ⟨K, hK⟩ := k hc
    exact ⟨K, fun n hn => by simp only [if_neg hc]; exact hK n hn⟩
theorem Ev.pos {α : Type} {c : Prop} [Decidable c] {g f : Nat → Option α} {r : α} (hc : c) (h : Ev g r) : Ev (fun n => if c then g n else f n) r := by
  obtain ⟨K, hK⟩ := h
  exact ⟨K, fun n hn => by simp only [if_pos hc]; exact hK n hn⟩
theorem Ev.neg {α : Type} {c : Prop} [Decidable c] {g f : Nat → Option α} {r : α} (hc : ¬ c) (h : Ev f r) : Ev (fun n => if c then g n else f n) r := by
  obtain ⟨K, hK⟩ := h
  exact ⟨K, fun n hn => by simp only [if_neg hc]; exact hK n hn⟩
theorem Ev.bindc {α β : Type} {o : Option α} {f : Nat → α → Option β} {a : α} {r : β} (h : o = Option.some a) (k : Ev (fun n => f n a) r) : Ev (fun n => o.bind (f n)) r := by
  obtain ⟨K, hK⟩ := k
  exact ⟨K, fun n hn => by rw [h]; exact hK n hn⟩
/-! ### A test of all indexes from one on -/
def allFrom (P : Nat → Bool) : Nat → Nat → Bool
  | _, 0 => true
  | i, d + 1 => P i && allFrom P (i + 1) d
theorem allFrom_iff (P : Nat → Bool) : ∀ (d i : Nat), allFrom P i d = true ↔ ∀ j, i ≤ j → j < i + d → P j = true
  | 0, i => ⟨fun _ j h1 h2 => by omega, fun _ => rfl⟩
  | d + 1, i => by
    rw [allFrom, Bool.and_eq_true, allFrom_iff P d (i + 1)]
    constructor
    · rintro ⟨h0, h1⟩ j hj hj2
      by_cases e : j = i
      · subst e
        exact h0
      · exact h1 j (by omega) (by omega)
    · intro h
      exact ⟨h i (by omega) (by omega), fun j hj hj2 => h j (by omega) (by omega)⟩
/-- A number within two others. -/
def inR (x a b : Int) : Bool := if x ≥ a then decide (x ≤ b) else false
theorem inR_iff {x a b : Int} : inR x a b = true ↔ a ≤ x ∧ x ≤ b := by
  unfold inR
  split
  · simp
    omega
  · simp
    omega
/-! ### Loops that copy a list, or compare two -/
theorem eq_loop {α : Type} (L : Nat → List α → List α → Int → Option Bool) 
    (hL : ∀ k x0 x4, 0 ≤ x4 → L (k + 1) x0 x0 x4 = if x4 < (x0.length : Int) then L k x0 x0 (wrap64 (x4 + 1)) else some true)
    (x0 : List α) (hb : x0.length ≤ 140737488351232) : ∀ (d k i : Nat), i + d = x0.length → d < k → L k x0 x0 (i : Int) = some true
  | 0, k, i, hi, hk => by
    obtain ⟨k, rfl⟩ : ∃ m, k = m + 1 := ⟨k - 1, by omega⟩
    rw [hL _ _ _ (by omega), if_neg (by omega)]
  | d + 1, k, i, hi, hk => by
    obtain ⟨k, rfl⟩ : ∃ m, k = m + 1 := ⟨k - 1, by omega⟩
    rw [hL _ _ _ (by omega), if_pos (by omega), w64 (by omega) (by omega), show ((i : Int) + 1) = ((i + 1 : Nat) : Int) by omega]
    exact eq_loop L hL x0 hb d k (i + 1) (by omega) (by omega)

theorem eq_all {α : Type} (L : Nat → List α → List α → Int → Option Bool) 
    (hL : ∀ k x0 x4, 0 ≤ x4 → L (k + 1) x0 x0 x4 = if x4 < (x0.length : Int) then L k x0 x0 (wrap64 (x4 + 1)) else some true)
    (x0 : List α) (hb : x0.length ≤ 140737488351232) : Ev (fun k => L k x0 x0 0) true :=
  ⟨x0.length + 1, fun k hk => eq_loop L hL x0 hb x0.length k 0 (by omega) (by omega)⟩

/-- A loop that asks a test of each index, and says no at the first that fails. -/
theorem all_loop (P : Nat → Bool) (n : Nat) (hn : n ≤ 140737488351232) (L : Nat → Int → Option Bool) (fin : Option Bool)
    (hL : ∀ k i, i < n → L (k + 1) (i : Int) = if P i = true then L k (wrap64 (i + 1)) else some false) (hend : ∀ k, L (k + 1) (n : Int) = fin) :
    ∀ (d k i : Nat), i + d = n → d < k → L k (i : Int) = if allFrom P i d = true then fin else some false
  | 0, k, i, hi, hk => by
    obtain ⟨k, rfl⟩ : ∃ m, k = m + 1 := ⟨k - 1, by omega⟩
    obtain rfl : i = n := by omega
    rw [hend, allFrom, if_pos rfl]
  | d + 1, k, i, hi, hk => by
    obtain ⟨k, rfl⟩ : ∃ m, k = m + 1 := ⟨k - 1, by omega⟩
    rw [hL _ _ (by omega), w64 (by omega) (by omega), show ((i : Int) + 1) = ((i + 1 : Nat) : Int) by omega, all_loop P n hn L fin hL hend d k (i + 1) (by omega) (by omega), allFrom]
    cases P i <;> simp

theorem all_ev (P : Nat → Bool) (n : Nat) (hn : n ≤ 140737488351232) (L : Nat → Int → Option Bool) (fin : Option Bool)
    (hL : ∀ k i, i < n → L (k + 1) (i : Int) = if P i = true then L k (wrap64 (i + 1)) else some false) (hend : ∀ k, L (k + 1) (n : Int) = fin) :
    ∃ K, ∀ k, K ≤ k → L k 0 = if allFrom P 0 n = true then fin else some false :=
  ⟨n + 1, fun k hk => all_loop P n hn L fin hL hend n k 0 (by omega) (by omega)⟩

/-! ### Marks: a law writes numbers into what came out, and looks whether they are still there -/
end Go.Proofs.Ytlipaiabjcaeiaa.Plain

/- What a drawing comes to, told by a property alone: 'Oks g P': with enough rounds g answers, and the answer has P. The cursor: next, pick, one, among. -/
namespace Go.Proofs.Ytlipaiabjcaeiaa.Draw
open Go Go.RowKit Go.Proofs.YtlipaiabjcaeiaaW.PrintWords Go.Proofs.Ytlipaiabjcaeiaa.Plain Go.Proofs.Ytlipaiabjcaeiaa.A
set_option linter.unusedVariables false
set_option linter.unusedSimpArgs false
def Oks {α : Type} (g : Nat → Option α) (P : α → Prop) : Prop := ∃ r, Ev g r ∧ P r
theorem Oks.bind {α β : Type} {g : Nat → Option α} {f : Nat → α → Option β} {P : α → Prop} {Q : β → Prop} (h : Oks g P) (k : ∀ r, P r → Oks (fun n => f n r) Q) : Oks (fun n => (g n).bind (f n)) Q := by
  obtain ⟨r, h1, h2⟩ := h
  obtain ⟨q, k1, k2⟩ := k r h2
  exact ⟨q, Ev.bind h1 k1, k2⟩
theorem Oks.now {α : Type} {P : α → Prop} {r : α} (h : P r) : Oks (fun _ => some r) P := ⟨r, Ev.now _, h⟩
theorem Oks.pos {α : Type} {c : Prop} [Decidable c] {g f : Nat → Option α} {P : α → Prop} (hc : c) (h : Oks g P) : Oks (fun n => if c then g n else f n) P := by
  obtain ⟨r, h1, h2⟩ := h
  exact ⟨r, Ev.pos hc h1, h2⟩
theorem Oks.neg {α : Type} {c : Prop} [Decidable c] {g f : Nat → Option α} {P : α → Prop} (hc : ¬ c) (h : Oks f P) : Oks (fun n => if c then g n else f n) P := by
  obtain ⟨r, h1, h2⟩ := h
  exact ⟨r, Ev.neg hc h1, h2⟩
theorem Oks.ite {α : Type} {c : Prop} [Decidable c] {g f : Nat → Option α} {P : α → Prop} (h : c → Oks g P) (k : ¬ c → Oks f P) : Oks (fun n => if c then g n else f n) P := by
  by_cases hc : c
  · exact Oks.pos hc (h hc)
  · exact Oks.neg hc (k hc)
theorem Oks.step {α : Type} {g f : Nat → Option α} {P : α → Prop} (e : ∀ k, g (k + 1) = f k) (h : Oks f P) : Oks g P := by
  obtain ⟨r, h1, h2⟩ := h
  exact ⟨r, Ev.step e h1, h2⟩
theorem Oks.imp {α : Type} {g : Nat → Option α} {P Q : α → Prop} (h : Oks g P) (k : ∀ r, P r → Q r) : Oks g Q := by
  obtain ⟨r, h1, h2⟩ := h
  exact ⟨r, h1, k r h2⟩
theorem Oks.of {α : Type} {g : Nat → Option α} {P : α → Prop} {r : α} (h : Ev g r) (k : P r) : Oks g P := ⟨r, h, k⟩
/-- The bytes of a code. -/
def Bytes (code : List Int) : Prop := ∀ x ∈ code, 0 ≤ x ∧ x ≤ 255
theorem Bytes.of_wf {code : List Int} (h : ∀ x ∈ code, (Lit.int .u8 x).wf = true) : Bytes code := fun x hx => by
  have := h x hx
  simp only [Lit.wf, IntKind.min, IntKind.max, IntKind.signed, IntKind.bits, Bool.and_eq_true, decide_eq_true_eq, Bool.false_eq_true, if_false] at this
  omega
theorem Bytes.at_ {code : List Int} (h : Bytes code) (i : Int) : 0 ≤ rd code i ∧ rd code i ≤ 255 := by
  have e : rd code i = code.getD i.toNat 0 := rfl
  rw [e]
  by_cases hi : i.toNat < code.length
  · have e2 : code.getD i.toNat 0 = code[i.toNat] := by simp [List.getD, hi]
    rw [e2]
    exact h _ (List.getElem_mem hi)
  · have e2 : code.getD i.toNat 0 = 0 := by simp [List.getD, hi]
    rw [e2]
    omega
theorem and255 (x : Int) (h0 : 0 ≤ x) (h1 : x ≤ 18446744073709551615) : 0 ≤ Go.bits .and .u64 x 255 ∧ Go.bits .and .u64 x 255 ≤ 255 := by
  have h := bits_and_u64_nat x.toNat 255 (by omega) (by omega)
  rw [Int.toNat_of_nonneg h0] at h
  have h2 : x.toNat &&& 255 ≤ 255 := Nat.and_le_right
  have e : Go.bits .and .u64 x 255 = ((x.toNat &&& 255 : Nat) : Int) := h
  rw [e]
  omega
theorem seed_low (x : Int) : 0 ≤ wrap64 (Go.bits .and .u64 (IntKind.u64.wrap x / 1099511627776) 255) ∧ wrap64 (Go.bits .and .u64 (IntKind.u64.wrap x / 1099511627776) 255) ≤ 255 := by
  have h := IntKind.wrap_u64 x
  have h2 := and255 (IntKind.u64.wrap x / 1099511627776) (by omega) (by omega)
  rw [w64 (by omega) (by omega)]
  exact h2
theorem next_ok {code : List Int} (hc : Bytes code) (hl : code.length ≤ 65536) (a s : Int) (h0 : 0 ≤ a) (h1 : a ≤ 1000000000) : ∃ v s', spec_l1Cur_next.f code a s = some (v, a + 1, s') ∧ 0 ≤ v ∧ v ≤ 255 := by
  have hr := hc.at_ a
  have e1 : wrap64 (rd code a) = rd code a := w64 (by omega) (by omega)
  have e2 : wrap64 (a + 1) = a + 1 := w64 (by omega) (by omega)
  unfold spec_l1Cur_next.f
  rw [e2]
  by_cases c1 : a < (code.length : Int)
  · rw [if_pos c1, if_pos h0, if_pos (by omega), e1]
    exact ⟨_, _, rfl, hr⟩
  · rw [if_neg c1, if_neg (by omega)]
    exact ⟨_, _, rfl, seed_low _⟩
theorem pick_ok {code : List Int} (hc : Bytes code) (hl : code.length ≤ 65536) (a s n : Int) (h0 : 0 ≤ a) (h1 : a ≤ 100000000) : ∃ v a' s', spec_l1Cur_pick.f code a s n = some (v, a', s') ∧ 0 ≤ v ∧ (0 < n → v < n) ∧ a ≤ a' ∧ a' ≤ a + 2 := by
  unfold spec_l1Cur_pick.f
  by_cases c1 : n ≤ 1
  · rw [if_pos c1]
    exact ⟨0, a, s, rfl, by omega, by omega, by omega, by omega⟩
  rw [if_neg c1]
  obtain ⟨v, s1, e, hv⟩ := next_ok hc hl a s h0 (by omega)
  rw [e, Option.bind_some]
  by_cases c2 : n > 200
  · obtain ⟨v2, s2, e2, hv2⟩ := next_ok hc hl (a + 1) s1 (by omega) (by omega)
    have e3 : wrap64 (wrap64 (v * 256) + v2) = v * 256 + v2 := by rw [w64 (x := v * 256) (by omega) (by omega), w64 (by omega) (by omega)]
    rw [if_pos c2, e2, Option.bind_some, if_neg (by omega), e3]
    have hm := Int.tmod_lt_of_pos (v * 256 + v2) (show (0 : Int) < n by omega)
    have hm0 := Int.tmod_nonneg n (show (0 : Int) ≤ v * 256 + v2 by omega)
    exact ⟨_, _, _, rfl, hm0, fun _ => hm, by simp only; omega, by simp only; omega⟩
  · rw [if_neg c2, if_neg (by omega)]
    have hm := Int.tmod_lt_of_pos v (show (0 : Int) < n by omega)
    have hm0 := Int.tmod_nonneg n (show (0 : Int) ≤ v by omega)
    exact ⟨_, _, _, rfl, hm0, fun _ => hm, by simp only; omega, by simp only; omega⟩
theorem among_ok {code : List Int} (hc : Bytes code) (hl : code.length ≤ 65536) (a s : Int) (l : List Int) (hn : 0 < l.length) (h0 : 0 ≤ a) (h1 : a ≤ 100000000) : ∃ v a' s', spec_l1Cur_among.f code a s l = some (v, a', s') ∧ v ∈ l ∧ a ≤ a' ∧ a' ≤ a + 2 := by
  unfold spec_l1Cur_among.f
  obtain ⟨v, a', s', e, hv0, hv1, ha⟩ := pick_ok hc hl a s (l.length : Int) h0 h1
  have hv := hv1 (by omega)
  rw [e, Option.bind_some, if_pos hv0, if_pos hv]
  refine ⟨_, _, _, rfl, ?_, ha⟩
  have e2 : rd l v = l.getD v.toNat 0 := rfl
  have hi : v.toNat < l.length := by omega
  have e3 : l.getD v.toNat 0 = l[v.toNat] := by simp [List.getD, hi]
  rw [e2, e3]
  exact List.getElem_mem _
theorem pickK {code : List Int} (hc : Bytes code) (hl : code.length ≤ 65536) (a s n : Int) (h0 : 0 ≤ a) (h1 : a ≤ 100000000) : Oks (fun _ => spec_l1Cur_pick.f code a s n) (fun r => 0 ≤ r.1 ∧ (0 < n → r.1 < n) ∧ a ≤ r.2.1 ∧ r.2.1 ≤ a + 2) := by
  obtain ⟨v, a', s', e, h⟩ := pick_ok hc hl a s n h0 h1
  exact ⟨_, Ev.some (fun _ => e), h⟩
theorem amongK {code : List Int} (hc : Bytes code) (hl : code.length ≤ 65536) (a s : Int) (l : List Int) (hn : 0 < l.length) (h0 : 0 ≤ a) (h1 : a ≤ 100000000) : Oks (fun _ => spec_l1Cur_among.f code a s l) (fun r => r.1 ∈ l ∧ a ≤ r.2.1 ∧ r.2.1 ≤ a + 2) := by
  obtain ⟨v, a', s', e, h⟩ := among_ok hc hl a s l hn h0 h1
  exact ⟨_, Ev.some (fun _ => e), h⟩
end Go.Proofs.Ytlipaiabjcaeiaa.Draw

/- Declinations: what the program's and the reference's functions on points come to, as plain functions on lists. -/
namespace Go.Proofs.Ytlipaiabjcaeiaa.Dec
open Go.RowKit Go.Proofs.YtlipaiabjcaeiaaW.PrintWords Go.Proofs.Ytlipaiabjcaeiaa.Plain Go.Proofs.Ytlipaiabjcaeiaa.A
set_option linter.unusedVariables false
set_option linter.unusedSimpArgs false

abbrev DP := S56
abbrev z : DP := z56

theorem within_eq (x a b : Int) : impl_within.f x a b = some (inR x a b) := by unfold impl_within.f inR; split <;> rfl
theorem in_eq (x a b : Int) : spec_l1In.f x a b = some (inR x a b) := by unfold spec_l1In.f inR; split <;> rfl
theorem isDay_eq (x : Int) : impl_isDay.f x = some (inR x 0 999) := by unfold impl_isDay.f; rw [within_eq]; rfl
theorem isDecl_eq (x : Int) : impl_isDeclination.f x = some (inR x (-900) 900) := by unfold impl_isDeclination.f; rw [within_eq]; rfl
theorem day_eq (x : Int) : spec_l11Day.f x = some (inR x 0 999) := by unfold spec_l11Day.f; rw [in_eq]; rfl
theorem tenths_eq (x : Int) : spec_l11Tenths.f x = some (inR x (-900) 900) := by unfold spec_l11Tenths.f; rw [in_eq]; rfl

def dayAt (l : List DP) (i : Nat) : Int := (l.getD i z).f0
def tenAt (l : List DP) (i : Nat) : Int := (l.getD i z).f1
def okP (l : List DP) (i : Nat) : Bool := inR (dayAt l i) 0 999 && (inR (tenAt l i) (-900) 900 && (decide (i = 0) || decide (dayAt l (i - 1) < dayAt l i)))
def rowB (l : List DP) : Bool := allFrom (okP l) 0 l.length
/-- The list is points. -/
def okL (l : List DP) : Bool := decide (0 < l.length) && (rowB l && decide (l.length ≤ 8))

theorem day_prev (l : List DP) (i : Nat) (h : 0 < i) : (rd_T56 l ((i : Int) - 1)).f0 = dayAt l (i - 1) := by
  show (l.getD ((i : Int) - 1).toNat z).f0 = _
  rw [show ((i : Int) - 1).toNat = i - 1 by omega]
  rfl
theorem ten_prev (l : List DP) (i : Nat) (h : 0 < i) : (rd_T56 l ((i : Int) - 1)).f1 = tenAt l (i - 1) := by
  show (l.getD ((i : Int) - 1).toNat z).f1 = _
  rw [show ((i : Int) - 1).toNat = i - 1 by omega]
  rfl

theorem isRow_ev (l : List DP) (hb : l.length ≤ 140737488351232) : Ev (fun k => impl_isRow.f k l) (rowB l && decide ((l.length : Int) ≤ 8)) := by
  obtain ⟨K, hK⟩ := all_ev (okP l) l.length hb (fun k i => impl_isRow.l0 k l l (l.length : Int) i) (some (decide ((l.length : Int) ≤ 8))) (by
      intro k i hi
      simp only [impl_isRow.l0]
      rw [if_pos (by omega), if_pos (by omega), if_pos (by omega), isDay_eq, isDecl_eq]
      simp only [Option.bind_some]
      have e1 : (rd_T56 l (i : Int)).f0 = dayAt l i := rfl
      have e2 : (rd_T56 l (i : Int)).f1 = tenAt l i := rfl
      rw [e1, e2]
      unfold okP
      cases h1 : inR (dayAt l i) 0 999
      · simp
      · cases h2 : inR (tenAt l i) (-900) 900
        · simp
        · by_cases h3 : i = 0
          · subst h3
            simp
          · rw [if_pos rfl, if_pos rfl, if_pos (by omega), w64 (x := (i : Int) - 1) (by omega) (by omega), if_pos (by omega), if_pos (by omega), day_prev l i (by omega)]
            by_cases h4 : dayAt l (i - 1) < dayAt l i
            · rw [if_neg (by omega)]
              simp [h3, h4]
            · rw [if_pos (by omega)]
              simp [h3, h4]) (by
      intro k
      simp only [impl_isRow.l0]
      rw [if_neg (by omega)])
  refine ⟨K, fun k hk => ?_⟩
  have := hK k hk
  simp only [impl_isRow.f]
  rw [this]
  unfold rowB
  cases allFrom (okP l) 0 l.length <;> simp

theorem arePoints_ev (l : List DP) (hb : l.length ≤ 140737488351232) : Ev (fun k => impl_ArePoints.f k l) (okL l) := by
  unfold impl_ArePoints.f okL
  by_cases h : 0 < l.length
  · refine Ev.pos (by omega) ?_
    rw [decide_eq_true h, Bool.true_and]
    refine Ev.bind (isRow_ev l hb) ?_
    refine Ev.some fun k => ?_
    congr 2
    exact decide_eq_decide.2 (by omega)
  · refine Ev.neg (by omega) ?_
    rw [decide_eq_false h, Bool.false_and]
    exact Ev.now _

theorem good_ev (l : List DP) (hb : l.length ≤ 140737488351232) : Ev (fun k => spec_l11Good.f k l) (okL l) := by
  obtain ⟨K, hK⟩ := all_ev (okP l) l.length hb (fun k i => spec_l11Good.l0 k l i) (some (inR (l.length : Int) 1 8)) (by
      intro k i hi
      simp only [spec_l11Good.l0]
      rw [if_pos (by omega), if_pos (by omega), day_eq, tenths_eq]
      simp only [Option.bind_some]
      have e1 : (rd_T56 l (i : Int)).f0 = dayAt l i := rfl
      have e2 : (rd_T56 l (i : Int)).f1 = tenAt l i := rfl
      rw [e1, e2]
      unfold okP
      cases h1 : inR (dayAt l i) 0 999
      · simp
      · cases h2 : inR (tenAt l i) (-900) 900
        · simp
        · by_cases h3 : i = 0
          · subst h3
            simp
          · rw [if_pos rfl, if_pos rfl, if_pos (by omega), w64 (x := (i : Int) - 1) (by omega) (by omega), if_pos (by omega), if_pos (by omega), day_prev l i (by omega)]
            by_cases h4 : dayAt l (i - 1) < dayAt l i
            · rw [if_neg (by omega)]
              simp [h3, h4]
            · rw [if_pos (by omega)]
              simp [h3, h4]) (by
      intro k
      simp only [spec_l11Good.l0]
      rw [if_neg (by omega), in_eq]
      rfl)
  refine ⟨K, fun k hk => ?_⟩
  have := hK k hk
  simp only [spec_l11Good.f]
  rw [this]
  have e : inR (l.length : Int) 1 8 = (decide (0 < l.length) && decide (l.length ≤ 8)) := by
    rw [Bool.eq_iff_iff, inR_iff]
    simp
    omega
  rw [e]
  unfold okL rowB
  cases allFrom (okP l) 0 l.length <;> simp

/-- What holds of points. -/
structure Pts (l : List DP) : Prop where
  pos : 0 < l.length
  few : l.length ≤ 8
  day : ∀ i, i < l.length → 0 ≤ dayAt l i ∧ dayAt l i ≤ 999
  ten : ∀ i, i < l.length → -900 ≤ tenAt l i ∧ tenAt l i ≤ 900
  up : ∀ i, 0 < i → i < l.length → dayAt l (i - 1) < dayAt l i
theorem okL_iff (l : List DP) : okL l = true ↔ Pts l := by
  unfold okL rowB
  simp only [Bool.and_eq_true, decide_eq_true_eq, allFrom_iff]
  constructor
  · rintro ⟨h1, h2, h3⟩
    refine ⟨h1, h3, fun i hi => ?_, fun i hi => ?_, fun i h0 hi => ?_⟩
    all_goals
      have h := h2 i (by omega) (by omega)
      unfold okP at h
      simp only [Bool.and_eq_true, Bool.or_eq_true, decide_eq_true_eq, inR_iff] at h
      omega
  · intro h
    refine ⟨h.pos, fun i _ hi => ?_, h.few⟩
    have h1 := h.day i (by omega)
    have h2 := h.ten i (by omega)
    unfold okP
    simp only [Bool.and_eq_true, Bool.or_eq_true, decide_eq_true_eq, inR_iff]
    refine ⟨h1, h2, ?_⟩
    by_cases e : i = 0
    · exact .inl e
    · exact .inr (h.up i (by omega) (by omega))
theorem Pts.lt {l : List DP} (h : Pts l) : ∀ (d i j : Nat), j = i + d + 1 → j < l.length → dayAt l i < dayAt l j
  | 0, i, j, e, hj => by
    have := h.up j (by omega) hj
    rwa [show j - 1 = i by omega] at this
  | d + 1, i, j, e, hj => by
    have h1 := h.up j (by omega) hj
    have h2 := h.lt d i (j - 1) (by omega) (by omega)
    omega

/-! ### Rounding -/
def rnd (a b : Int) : Int := if a < 0 then -((2 * (-a) + b) / (2 * b)) else (2 * a + b) / (2 * b)
theorem quot_bound {a b : Int} (ha : 0 ≤ a) (hb : 1 ≤ b) : 0 ≤ (2 * a + b) / (2 * b) ∧ (2 * a + b) / (2 * b) ≤ 2 * a + b :=
  ⟨Int.ediv_nonneg (by omega) (by omega), Int.ediv_le_self _ (by omega)⟩
theorem rounded_pos (k : Nat) (a b : Int) (h0 : 0 ≤ a) (h1 : a ≤ 1000000000000) (h2 : 1 ≤ b) (h3 : b ≤ 1000000000000) : impl_rounded.f (k + 1) a b = some ((2 * a + b) / (2 * b)) := by
  have hq := quot_bound h0 h2
  simp only [impl_rounded.f]
  rw [if_neg (by omega), w64 (x := 2 * b) (by omega) (by omega), if_neg (by omega), w64 (x := 2 * a) (by omega) (by omega), w64 (x := 2 * a + b) (by omega) (by omega), Int.tdiv_eq_ediv_of_nonneg (by omega), w64 (by omega) (by omega)]
theorem rounded_ev (a b : Int) (h0 : -1000000000000 ≤ a) (h1 : a ≤ 1000000000000) (h2 : 1 ≤ b) (h3 : b ≤ 1000000000000) : Ev (fun k => impl_rounded.f k a b) (rnd a b) := by
  refine ⟨2, fun k hk => ?_⟩
  obtain ⟨k, rfl⟩ : ∃ m, k = m + 1 + 1 := ⟨k - 2, by omega⟩
  show impl_rounded.f (k + 1 + 1) a b = _
  unfold rnd
  by_cases h : a < 0
  · have hq := quot_bound (a := -a) (by omega) h2
    rw [if_pos h]
    rw [impl_rounded.f]
    rw [if_pos h, w64 (x := -a) (by omega) (by omega), rounded_pos k (-a) b (by omega) (by omega) h2 h3]
    simp only [Option.bind_some]
    rw [w64 (by omega) (by omega)]
  · rw [if_neg h, rounded_pos (k + 1) a b (by omega) h1 h2 h3]
theorem round_pos (k : Nat) (a b : Int) (h0 : 0 ≤ a) (h1 : a ≤ 1000000000000) (h2 : 1 ≤ b) (h3 : b ≤ 1000000000000) : spec_l11Round.f (k + 1) a b = some ((2 * a + b) / (2 * b)) := by
  have hq := quot_bound h0 h2
  simp only [spec_l11Round.f]
  rw [if_neg (by omega), w64 (x := 2 * b) (by omega) (by omega), if_neg (by omega), w64 (x := 2 * a) (by omega) (by omega), w64 (x := 2 * a + b) (by omega) (by omega), Int.tdiv_eq_ediv_of_nonneg (by omega), w64 (by omega) (by omega)]
theorem round_ev (a b : Int) (h0 : -1000000000000 ≤ a) (h1 : a ≤ 1000000000000) (h2 : 1 ≤ b) (h3 : b ≤ 1000000000000) : Ev (fun k => spec_l11Round.f k a b) (rnd a b) := by
  refine ⟨2, fun k hk => ?_⟩
  obtain ⟨k, rfl⟩ : ∃ m, k = m + 1 + 1 := ⟨k - 2, by omega⟩
  show spec_l11Round.f (k + 1 + 1) a b = _
  unfold rnd
  by_cases h : a < 0
  · have hq := quot_bound (a := -a) (by omega) h2
    rw [if_pos h]
    rw [spec_l11Round.f]
    rw [if_pos h, w64 (x := -a) (by omega) (by omega), round_pos k (-a) b (by omega) (by omega) h2 h3]
    simp only [Option.bind_some]
    rw [w64 (by omega) (by omega)]
  · rw [if_neg h, round_pos (k + 1) a b (by omega) h1 h2 h3]
theorem quot_at {t D : Int} (hD : 1 ≤ D) : (2 * (t * D) + D) / (2 * D) = t := by
  rw [show 2 * (t * D) + D = D + (2 * D) * t by rw [Int.mul_assoc, Int.mul_comm D t, Int.add_comm], Int.add_mul_ediv_left _ _ (by omega), Int.ediv_eq_zero_of_lt (by omega) (by omega), Int.zero_add]
theorem rnd_at {t D : Int} (hD : 1 ≤ D) : rnd (t * D) D = t := by
  unfold rnd
  split
  · rw [show -(t * D) = (-t) * D by rw [Int.neg_mul], quot_at hD]
    omega
  · exact quot_at hD
theorem rnd_bound {a D M : Int} (hD : 1 ≤ D) (h1 : -(M * D) ≤ a) (h2 : a ≤ M * D) : -M ≤ rnd a D ∧ rnd a D ≤ M := by
  have key : ∀ x, x ≤ M * D → (2 * x + D) / (2 * D) ≤ M := by
    intro x hx
    have : (2 * x + D) / (2 * D) ≤ (2 * (M * D) + D) / (2 * D) := Int.ediv_le_ediv (by omega) (by omega)
    rwa [quot_at hD] at this
  unfold rnd
  split
  · have h3 := key (-a) (by omega)
    have h4 : 0 ≤ (2 * -a + D) / (2 * D) := Int.ediv_nonneg (by omega) (by omega)
    omega
  · have h3 := key a h2
    have h4 : 0 ≤ (2 * a + D) / (2 * D) := Int.ediv_nonneg (by omega) (by omega)
    omega

/-! ### The declination of a day -/
def interpN (l : List DP) (day : Int) (i : Nat) : Int := tenAt l (i - 1) * (dayAt l i - day) + tenAt l i * (day - dayAt l (i - 1))
def interp (l : List DP) (day : Int) (i : Nat) : Int := rnd (interpN l day i) (dayAt l i - dayAt l (i - 1))
def scan (l : List DP) (day : Int) : Nat → Nat → Int
  | _, 0 => tenAt l (l.length - 1)
  | i, d + 1 => if day ≤ dayAt l i then interp l day i else scan l day (i + 1) d
def decl (l : List DP) (day : Int) : Int := if day ≤ dayAt l 0 then tenAt l 0 else scan l day 1 (l.length - 1)

theorem interpN_bound {l : List DP} (h : Pts l) {day : Int} (hd : 0 ≤ day ∧ day ≤ 999) {i : Nat} (h0 : 0 < i) (hi : i < l.length) :
    (-899100 ≤ tenAt l (i - 1) * (dayAt l i - day) ∧ tenAt l (i - 1) * (dayAt l i - day) ≤ 899100) ∧ (-899100 ≤ tenAt l i * (day - dayAt l (i - 1)) ∧ tenAt l i * (day - dayAt l (i - 1)) ≤ 899100) := by
  have a1 := h.day i hi
  have a2 := h.day (i - 1) (by omega)
  have b1 := h.ten i hi
  have b2 := h.ten (i - 1) (by omega)
  have m1 := mul_bound (x := tenAt l (i - 1)) (y := dayAt l i - day) 900 999 (by omega) (by omega) (by omega) (by omega)
  have m2 := mul_bound (x := tenAt l i) (y := day - dayAt l (i - 1)) 900 999 (by omega) (by omega) (by omega) (by omega)
  omega

theorem decl_ev {l : List DP} (h : Pts l) {day : Int} (hd : 0 ≤ day ∧ day ≤ 999) : Ev (fun k => impl_declination.f k l day) (decl l day) := by
  have hp := h.pos
  have hf := h.few
  unfold impl_declination.f decl
  refine Ev.pos (by omega) ?_
  have e0 : rd_T56 l 0 = l.getD 0 z := rfl
  refine Ev.ite (fun _ => Ev.now _) fun _ => ?_
  have key : ∀ (d i : Nat), 0 < i → i + d = l.length → Ev (fun k => impl_declination.l0 k l day (i : Int)) (scan l day i d) := by
    intro d
    induction d with
    | zero =>
      intro i h0 hi
      refine ⟨1, fun k hk => ?_⟩
      obtain ⟨k, rfl⟩ : ∃ m, k = m + 1 := ⟨k - 1, by omega⟩
      simp only [impl_declination.l0]
      rw [if_neg (by omega), w64 (x := (l.length : Int) - 1) (by omega) (by omega), if_pos (by omega), if_pos (by omega), ten_prev l l.length hp, scan]
    | succ d ih =>
      intro i h0 hi
      have hb := interpN_bound h hd h0 (by omega)
      have hu := h.up i h0 (by omega)
      have a1 := h.day i (by omega)
      have a2 := h.day (i - 1) (by omega)
      obtain ⟨K1, h1⟩ := ih (i + 1) (by omega) (by omega)
      obtain ⟨K2, h2⟩ := rounded_ev (interpN l day i) (dayAt l i - dayAt l (i - 1)) (by unfold interpN; omega) (by unfold interpN; omega) (by omega) (by omega)
      refine ⟨max K1 K2 + 1, fun k hk => ?_⟩
      obtain ⟨k, rfl⟩ : ∃ m, k = m + 1 := ⟨k - 1, by omega⟩
      simp only [impl_declination.l0]
      have e1 : (rd_T56 l (i : Int)).f0 = dayAt l i := rfl
      have e2 : (rd_T56 l (i : Int)).f1 = tenAt l i := rfl
      rw [if_pos (by omega), w64 (x := (i : Int) - 1) (by omega) (by omega), if_pos (by omega), if_pos (by omega), if_pos (by omega), day_prev l i h0, ten_prev l i h0, e1, e2, scan]
      by_cases hc : day ≤ dayAt l i
      · rw [if_pos hc, if_pos hc, w64 (x := dayAt l i - day) (by omega) (by omega), w64 (x := day - dayAt l (i - 1)) (by omega) (by omega), w64 (x := tenAt l (i - 1) * (dayAt l i - day)) (by omega) (by omega),
          w64 (x := tenAt l i * (day - dayAt l (i - 1))) (by omega) (by omega), w64 (x := _ + _) (by omega) (by omega), w64 (x := dayAt l i - dayAt l (i - 1)) (by omega) (by omega)]
        have h2' := h2 k (by omega)
        dsimp only at h2'
        unfold interpN at h2'
        rw [h2']
        rfl
      · rw [if_neg hc, if_neg hc, w64 (x := (i : Int) + 1) (by omega) (by omega), show ((i : Int) + 1) = ((i + 1 : Nat) : Int) by omega]
        exact h1 k (by omega)
  exact key (l.length - 1) 1 (by omega) (by omega)

theorem interp_at {l : List DP} (h : Pts l) {i : Nat} (h0 : 0 < i) (hi : i < l.length) : interp l (dayAt l i) i = tenAt l i := by
  have hu := h.up i h0 hi
  unfold interp interpN
  rw [Int.sub_self, Int.mul_zero, Int.zero_add]
  exact rnd_at (by omega)

theorem scan_last {l : List DP} (h : Pts l) {day : Int} (hl : dayAt l (l.length - 1) ≤ day) : ∀ (d i : Nat), 0 < i → i + d = l.length → scan l day i d = tenAt l (l.length - 1)
  | 0, i, h0, hi => rfl
  | d + 1, i, h0, hi => by
    rw [scan]
    by_cases hc : day ≤ dayAt l i
    · rw [if_pos hc]
      have e : i = l.length - 1 := by
        by_cases e : i = l.length - 1
        · exact e
        · have := h.lt (l.length - 2 - i) i (l.length - 1) (by omega) (by omega)
          omega
      subst e
      have e2 : day = dayAt l (l.length - 1) := by omega
      rw [e2]
      exact interp_at h h0 (by omega)
    · rw [if_neg hc]
      exact scan_last h hl d (i + 1) (by omega) (by omega)

theorem on_ev {l : List DP} (h : Pts l) {day : Int} (hd : 0 ≤ day ∧ day ≤ 999) : Ev (fun k => spec_l11On.f k l day) (decl l day) := by
  have hp := h.pos
  have hf := h.few
  unfold spec_l11On.f decl
  refine Ev.pos (by omega) ?_
  have e0 : rd_T56 l 0 = l.getD 0 z := rfl
  refine Ev.ite (fun _ => Ev.now _) fun hn => ?_
  rw [w64 (x := (l.length : Int) - 1) (by omega) (by omega)]
  refine Ev.pos (by omega) ?_
  refine Ev.pos (by omega) ?_
  rw [day_prev l l.length hp, ten_prev l l.length hp]
  by_cases hl : day ≥ dayAt l (l.length - 1)
  · refine Ev.pos hl ?_
    rw [scan_last h hl _ 1 (by omega) (by omega)]
    exact Ev.now _
  · refine Ev.neg hl ?_
    have key : ∀ (d i : Nat), 0 < i → i + d = l.length → (i < l.length) → Ev (fun k => spec_l11On.l0 k l day (i : Int)) (scan l day i d) := by
      intro d
      induction d with
      | zero => intro i h0 hi hil; omega
      | succ d ih =>
        intro i h0 hi hil
        have hb := interpN_bound h hd h0 (by omega)
        have hu := h.up i h0 (by omega)
        have a1 := h.day i (by omega)
        have a2 := h.day (i - 1) (by omega)
        obtain ⟨K2, h2⟩ := round_ev (interpN l day i) (dayAt l i - dayAt l (i - 1)) (by unfold interpN; omega) (by unfold interpN; omega) (by omega) (by omega)
        have e1 : (rd_T56 l (i : Int)).f0 = dayAt l i := rfl
        have e2 : (rd_T56 l (i : Int)).f1 = tenAt l i := rfl
        by_cases hc : day ≤ dayAt l i
        · refine ⟨K2 + 1, fun k hk => ?_⟩
          obtain ⟨k, rfl⟩ : ∃ m, k = m + 1 := ⟨k - 1, by omega⟩
          simp only [spec_l11On.l0]
          rw [if_pos (by omega), if_pos (by omega), e1, e2, if_neg (by omega), w64 (x := (i : Int) - 1) (by omega) (by omega), if_pos (by omega), if_pos (by omega), day_prev l i h0, ten_prev l i h0, scan, if_pos hc]
          rw [w64 (x := dayAt l i - day) (by omega) (by omega), w64 (x := day - dayAt l (i - 1)) (by omega) (by omega), w64 (x := tenAt l (i - 1) * (dayAt l i - day)) (by omega) (by omega),
            w64 (x := tenAt l i * (day - dayAt l (i - 1))) (by omega) (by omega), w64 (x := _ + _) (by omega) (by omega), w64 (x := dayAt l i - dayAt l (i - 1)) (by omega) (by omega)]
          have h2' := h2 k (by omega)
          dsimp only at h2'
          unfold interpN at h2'
          rw [h2']
          rfl
        · have hil' : i + 1 < l.length := by
            by_cases e : i + 1 < l.length
            · exact e
            · have : i = l.length - 1 := by omega
              subst this
              omega
          obtain ⟨K1, h1⟩ := ih (i + 1) (by omega) (by omega) hil'
          refine ⟨K1 + 1, fun k hk => ?_⟩
          obtain ⟨k, rfl⟩ : ∃ m, k = m + 1 := ⟨k - 1, by omega⟩
          simp only [spec_l11On.l0]
          rw [if_pos (by omega), if_pos (by omega), e1, if_pos (by omega), scan, if_neg hc, w64 (x := (i : Int) + 1) (by omega) (by omega), show ((i : Int) + 1) = ((i + 1 : Nat) : Int) by omega]
          exact h1 k (by omega)
    by_cases e : l.length = 1
    · have hn' : ¬ day ≤ dayAt l 0 := hn
      have hl' : ¬ day ≥ dayAt l 0 := by
        rw [e] at hl
        exact hl
      omega
    · exact key (l.length - 1) 1 (by omega) (by omega) (by omega)

theorem interp_bound {l : List DP} (h : Pts l) {day : Int} {i : Nat} (h0 : 0 < i) (hi : i < l.length) (h1 : dayAt l (i - 1) ≤ day) (h2 : day ≤ dayAt l i) : -900 ≤ interp l day i ∧ interp l day i ≤ 900 := by
  have hu := h.up i h0 hi
  have b1 := h.ten i hi
  have b2 := h.ten (i - 1) (by omega)
  unfold interp
  refine rnd_bound (by omega) ?_ ?_
  all_goals
    unfold interpN
    have p1 : 0 ≤ (900 - tenAt l (i - 1)) * (dayAt l i - day) := Int.mul_nonneg (by omega) (by omega)
    have p2 : 0 ≤ (900 + tenAt l (i - 1)) * (dayAt l i - day) := Int.mul_nonneg (by omega) (by omega)
    have p3 : 0 ≤ (900 - tenAt l i) * (day - dayAt l (i - 1)) := Int.mul_nonneg (by omega) (by omega)
    have p4 : 0 ≤ (900 + tenAt l i) * (day - dayAt l (i - 1)) := Int.mul_nonneg (by omega) (by omega)
    rw [Int.sub_mul] at p1 p3
    rw [Int.add_mul] at p2 p4
    omega

theorem decl_bound {l : List DP} (h : Pts l) (day : Int) : -900 ≤ decl l day ∧ decl l day ≤ 900 := by
  have hp := h.pos
  unfold decl
  split
  · exact h.ten 0 hp
  · rename_i hn
    have key : ∀ (d i : Nat), 0 < i → i + d = l.length → dayAt l (i - 1) ≤ day → -900 ≤ scan l day i d ∧ scan l day i d ≤ 900 := by
      intro d
      induction d with
      | zero => intro i _ _ _; exact h.ten _ (by omega)
      | succ d ih =>
        intro i h0 hi hlo
        rw [scan]
        split
        · rename_i hc
          exact interp_bound h h0 (by omega) hlo hc
        · rename_i hc
          exact ih (i + 1) (by omega) (by omega) (by rw [Nat.add_sub_cancel]; omega)
    exact key _ 1 (by omega) (by omega) (by show dayAt l 0 ≤ day; omega)
end Go.Proofs.Ytlipaiabjcaeiaa.Dec

/- Points, days and bearings that are drawn: the drawing ends. -/
namespace Go.Proofs.Ytlipaiabjcaeiaa.Draw
open Go Go.RowKit Go.Proofs.YtlipaiabjcaeiaaW.PrintWords Go.Proofs.Ytlipaiabjcaeiaa.Plain Go.Proofs.Ytlipaiabjcaeiaa.A
open Go.Proofs.Ytlipaiabjcaeiaa.Dec (DP)
set_option linter.unusedVariables false
set_option linter.unusedSimpArgs false
variable {code : List Int} (hc : Bytes code) (hl : code.length ≤ 65536)
include hc hl
theorem points_l1 : ∀ (d : Nat) (x3 : List DP) (x6 a s t0 t1 : Int), x3.length + d = 10 → 0 ≤ x6 → x6 < (x3.length : Int) → 0 ≤ a → a ≤ 50000000 + 2 * (10 - d : Int) → Oks (fun k => spec_l1Cur_points.l1 k x3 x6 code a s t0 t1) (fun r => r.1.length ≤ 10 ∧ a ≤ r.2.1 ∧ r.2.1 ≤ a + 2 * (d + 1)) := by
  intro d
  induction d with
  | zero =>
    intro x3 x6 a s t0 t1 h1 h2 h3 h4 h5
    refine Oks.step (fun k => by simp only [spec_l1Cur_points.l1]; rfl) ?_
    refine Oks.bind (pickK hc hl a s 2 h4 (by omega)) ?_
    rintro ⟨v, a1, s1⟩ ⟨g1, g2, g3, g4⟩
    dsimp only at g1 g2 g3 g4 ⊢
    have g5 := g2 (by omega)
    rw [w64 (x := 8 + v) (by omega) (by omega)]
    exact Oks.neg (by omega) (Oks.pos h2 (Oks.pos h3 (Oks.now ⟨by simp; omega, g3, by simp only; omega⟩)))
  | succ d ih =>
    intro x3 x6 a s t0 t1 h1 h2 h3 h4 h5
    refine Oks.step (fun k => by simp only [spec_l1Cur_points.l1]; rfl) ?_
    refine Oks.bind (pickK hc hl a s 2 h4 (by omega)) ?_
    rintro ⟨v, a1, s1⟩ ⟨g1, g2, g3, g4⟩
    dsimp only at g1 g2 g3 g4 ⊢
    refine Oks.ite (fun _ => Oks.pos (by omega) ?_) (fun _ => Oks.pos h2 (Oks.pos h3 (Oks.now ⟨by simp; omega, g3, by simp only; omega⟩)))
    exact (ih _ x6 a1 s1 t0 t1 (by simp; omega) h2 (by simp; omega) (by omega) (by omega)).imp fun r ⟨k1, k2, k3⟩ => ⟨k1, by omega, by omega⟩
theorem points_l0 : ∀ (d : Nat) (x3 : List DP) (x4 a s : Int), 0 < x3.length + d → x3.length + d ≤ 6 → 0 ≤ a → a ≤ 40000000 + 4 * (6 - d : Int) → Oks (fun k => spec_l1Cur_points.l0 k x3 x4 (d : Int) code a s) (fun r => r.1.length ≤ 10 ∧ a ≤ r.2.1 ∧ r.2.1 ≤ a + 4 * d + 40) := by
  intro d
  induction d with
  | zero =>
    intro x3 x4 a s h1 h2 h4 h5
    refine Oks.step (fun k => by simp only [spec_l1Cur_points.l0]; rfl) ?_
    refine Oks.neg (by omega) ?_
    refine Oks.bind (pickK hc hl a s _ h4 (by omega)) ?_
    rintro ⟨k, a1, s1⟩ ⟨g1, g2, g3, g4⟩
    dsimp only at g1 g2 g3 g4 ⊢
    have g5 := g2 (by omega)
    refine Oks.pos g1 (Oks.pos g5 ?_)
    refine Oks.bind (pickK hc hl a1 s1 _ (by omega) (by omega)) ?_
    rintro ⟨v, a2, s2⟩ ⟨e1, e2, e3, e4⟩
    dsimp only at e1 e2 e3 e4 ⊢
    refine Oks.ite (fun _ => Oks.pos (by omega) ?_) (fun _ => Oks.ite (fun _ => ?_) (fun _ => Oks.ite (fun _ => ?_) (fun _ => Oks.ite (fun _ => ?_) (fun _ => ?_))))
    · refine Oks.bind (amongK hc hl a2 s2 _ (by simp) (by omega) (by omega)) ?_
      rintro ⟨u, a3, s3⟩ ⟨_, f3, f4⟩
      exact Oks.now ⟨by simp; omega, by simp only at f3 ⊢; omega, by simp only at f4 ⊢; omega⟩
    · refine Oks.bind (amongK hc hl a2 s2 _ (by simp) (by omega) (by omega)) ?_
      rintro ⟨u, a3, s3⟩ ⟨_, f3, f4⟩
      exact Oks.now ⟨by simp; omega, by simp only at f3 ⊢; omega, by simp only at f4 ⊢; omega⟩
    · exact (points_l1 hc hl (10 - x3.length) x3 k a2 s2 _ _ (by omega) g1 g5 (by omega) (by omega)).imp fun r ⟨k1, k2, k3⟩ => ⟨k1, by omega, by omega⟩
    · exact Oks.pos (by omega) (Oks.now ⟨by simp, by simp only; omega, by simp only; omega⟩)
    · exact Oks.now ⟨by simp; omega, by simp only; omega, by simp only; omega⟩
  | succ d ih =>
    intro x3 x4 a s h1 h2 h4 h5
    refine Oks.step (fun k => by simp only [spec_l1Cur_points.l0]; rfl) ?_
    refine Oks.pos (by omega) ?_
    refine Oks.bind (amongK hc hl a s _ (by simp) h4 (by omega)) ?_
    rintro ⟨u, a1, s1⟩ ⟨_, g3, g4⟩
    dsimp only at g3 g4 ⊢
    refine Oks.pos (by omega) ?_
    refine Oks.bind (amongK hc hl a1 s1 _ (by simp) (by omega) (by omega)) ?_
    rintro ⟨v, a2, s2⟩ ⟨_, e3, e4⟩
    dsimp only at e3 e4 ⊢
    rw [w64 (x := ((d + 1 : Nat) : Int) - 1) (by omega) (by omega), show ((d + 1 : Nat) : Int) - 1 = (d : Int) by omega]
    exact (ih _ _ a2 s2 (by simp; omega) (by simp; omega) (by omega) (by omega)).imp fun r ⟨k1, k2, k3⟩ => ⟨k1, by omega, by omega⟩
theorem pointsK (a s : Int) (h0 : 0 ≤ a) (h1 : a ≤ 30000000) : Oks (fun k => spec_l1Cur_points.f k code a s) (fun r => r.1.length ≤ 10 ∧ a ≤ r.2.1 ∧ r.2.1 ≤ a + 100) := by
  unfold spec_l1Cur_points.f
  refine Oks.bind (amongK hc hl a s _ (by simp) h0 (by omega)) ?_
  rintro ⟨u, a1, s1⟩ ⟨_, g3, g4⟩
  dsimp only at g3 g4 ⊢
  refine Oks.bind (pickK hc hl a1 s1 5 (by omega) (by omega)) ?_
  rintro ⟨v, a2, s2⟩ ⟨e1, e2, e3, e4⟩
  dsimp only at e1 e2 e3 e4 ⊢
  have e5 := e2 (by omega)
  rw [w64 (x := 1 + v) (by omega) (by omega), show 1 + v = (((1 + v).toNat : Nat) : Int) by omega]
  exact (points_l0 hc hl (1 + v).toNat [] u a2 s2 (by simp; omega) (by simp; omega) (by omega) (by omega)).imp fun r ⟨k1, k2, k3⟩ => ⟨k1, by omega, by omega⟩
theorem day11K (a s : Int) (h0 : 0 ≤ a) (h1 : a ≤ 90000000) : Oks (fun _ => spec_l1Cur_day11.f code a s) (fun r => a ≤ r.2.1 ∧ r.2.1 ≤ a + 4) := by
  unfold spec_l1Cur_day11.f
  simp only [Option.bind_some]
  refine Oks.bind (pickK hc hl a s 24 h0 (by omega)) ?_
  rintro ⟨v, a1, s1⟩ ⟨e1, e2, e3, e4⟩
  dsimp only at e1 e2 e3 e4 ⊢
  have e5 := e2 (by omega)
  have q : Int.tdiv v 11 = v / 11 := Int.tdiv_eq_ediv_of_nonneg e1
  rw [q, w64 (x := v / 11) (by omega) (by omega), w64 (x := 7 + v / 11) (by omega) (by omega)]
  refine Oks.pos (by omega) (Oks.pos (by simp; omega) ?_)
  refine Oks.bind (amongK hc hl a1 s1 _ (by simp; omega) (by omega) (by omega)) ?_
  rintro ⟨u, a2, s2⟩ ⟨_, g3, g4⟩
  exact Oks.now ⟨by simp only at g3 ⊢; omega, by simp only at g4 ⊢; omega⟩
theorem fineK (a s : Int) (h0 : 0 ≤ a) (h1 : a ≤ 90000000) : Oks (fun _ => spec_l1Cur_fine.f code a s) (fun r => a ≤ r.2.1 ∧ r.2.1 ≤ a + 4) := by
  unfold spec_l1Cur_fine.f
  simp only [Option.bind_some]
  refine Oks.bind (pickK hc hl a s 24 h0 (by omega)) ?_
  rintro ⟨v, a1, s1⟩ ⟨e1, e2, e3, e4⟩
  dsimp only at e1 e2 e3 e4 ⊢
  have e5 := e2 (by omega)
  have q : Int.tdiv v 11 = v / 11 := Int.tdiv_eq_ediv_of_nonneg e1
  rw [q, w64 (x := v / 11) (by omega) (by omega), w64 (x := 5 + v / 11) (by omega) (by omega)]
  refine Oks.pos (by omega) (Oks.pos (by simp; omega) ?_)
  refine Oks.bind (amongK hc hl a1 s1 _ (by simp; omega) (by omega) (by omega)) ?_
  rintro ⟨u, a2, s2⟩ ⟨_, g3, g4⟩
  exact Oks.now ⟨by simp only at g3 ⊢; omega, by simp only at g4 ⊢; omega⟩
theorem drawTrue : Oks (fun k => spec_DrawTrueBearing.f k code) (fun r => r.1.length ≤ 10) := by
  unfold spec_DrawTrueBearing.f
  refine Oks.bind (pointsK hc hl 0 0 (by omega) (by omega)) ?_
  rintro ⟨l, a1, s1⟩ ⟨e1, e2, e3⟩
  dsimp only at e1 e2 e3 ⊢
  refine Oks.bind (day11K hc hl a1 s1 (by omega) (by omega)) ?_
  rintro ⟨d, a2, s2⟩ ⟨f1, f2⟩
  dsimp only at f1 f2 ⊢
  refine Oks.bind (fineK hc hl a2 s2 (by omega) (by omega)) ?_
  rintro ⟨x, a3, s3⟩ _
  exact Oks.now e1
theorem drawChange : Oks (fun k => spec_DrawChangeBetween.f k code) (fun r => r.1.length ≤ 10) := by
  unfold spec_DrawChangeBetween.f
  refine Oks.bind (pointsK hc hl 0 0 (by omega) (by omega)) ?_
  rintro ⟨l, a1, s1⟩ ⟨e1, e2, e3⟩
  dsimp only at e1 e2 e3 ⊢
  refine Oks.bind (day11K hc hl a1 s1 (by omega) (by omega)) ?_
  rintro ⟨d, a2, s2⟩ ⟨f1, f2⟩
  dsimp only at f1 f2 ⊢
  refine Oks.bind (day11K hc hl a2 s2 (by omega) (by omega)) ?_
  rintro ⟨x, a3, s3⟩ _
  exact Oks.now e1
theorem drawDays : Oks (fun k => spec_DrawDaysWith.f k code) (fun r => r.1.length ≤ 10) := by
  unfold spec_DrawDaysWith.f
  simp only [Option.bind_some]
  refine Oks.bind (pointsK hc hl 0 0 (by omega) (by omega)) ?_
  rintro ⟨l, a, s⟩ ⟨k1, k2, k3⟩
  dsimp only at k1 k2 k3 ⊢
  refine Oks.bind (pickK hc hl a s 24 (by omega) (by omega)) ?_
  rintro ⟨v, a1, s1⟩ ⟨e1, e2, e3, e4⟩
  dsimp only at e1 e2 e3 e4 ⊢
  have e5 := e2 (by omega)
  have q : Int.tdiv v 11 = v / 11 := Int.tdiv_eq_ediv_of_nonneg e1
  rw [q, w64 (x := v / 11) (by omega) (by omega), w64 (x := 6 + v / 11) (by omega) (by omega)]
  refine Oks.pos (by omega) (Oks.pos (by simp; omega) ?_)
  refine Oks.bind (amongK hc hl a1 s1 _ (by simp; omega) (by omega) (by omega)) ?_
  rintro ⟨u, a2, s2⟩ ⟨_, g3, g4⟩
  exact Oks.now k1
theorem correct_l1 (x6 : List DP) (h6 : x6.length ≤ 10) : ∀ (d : Nat) (x7 x8 : List Int) (a s : Int), x7.length + d = 30 → x8.length + d ≤ 60 → 0 ≤ a → a ≤ 50000000 + 2 * (30 - d : Int) → Oks (fun k => spec_DrawCorrectAll.l1 k x6 x7 x8 code a s) (fun r => r.1.length ≤ 10 ∧ r.2.1.length ≤ 30 ∧ r.2.2.length ≤ 60) := by
  intro d
  induction d with
  | zero =>
    intro x7 x8 a s h1 h2 h4 h5
    refine Oks.step (fun k => by simp only [spec_DrawCorrectAll.l1]; rfl) ?_
    refine Oks.bind (pickK hc hl a s 2 h4 (by omega)) ?_
    rintro ⟨v, a1, s1⟩ ⟨g1, g2, g3, g4⟩
    dsimp only at g1 g2 g3 g4 ⊢
    have g5 := g2 (by omega)
    rw [w64 (x := 20 + v) (by omega) (by omega)]
    exact Oks.neg (by omega) (Oks.now ⟨h6, by simp only; omega, by simp only; omega⟩)
  | succ d ih =>
    intro x7 x8 a s h1 h2 h4 h5
    refine Oks.step (fun k => by simp only [spec_DrawCorrectAll.l1]; rfl) ?_
    refine Oks.bind (pickK hc hl a s 2 h4 (by omega)) ?_
    rintro ⟨v, a1, s1⟩ ⟨g1, g2, g3, g4⟩
    dsimp only at g1 g2 g3 g4 ⊢
    refine Oks.ite (fun _ => Oks.pos (by omega) (Oks.pos (by omega) ?_)) (fun _ => Oks.now ⟨h6, by simp only; omega, by simp only; omega⟩)
    exact ih _ _ a1 s1 (by simp; omega) (by simp; omega) (by omega) (by omega)
theorem correct_l0 (x6 : List DP) (h6 : x6.length ≤ 10) : ∀ (d : Nat) (x7 x8 : List Int) (a s : Int), x7.length + d ≤ 5 → x8.length + d ≤ 5 → 0 ≤ a → a ≤ 40000000 + 4 * (5 - d : Int) → Oks (fun k => spec_DrawCorrectAll.l0 k x6 x7 x8 (d : Int) code a s) (fun r => r.1.length ≤ 10 ∧ r.2.1.length ≤ 30 ∧ r.2.2.length ≤ 60) := by
  intro d
  induction d with
  | zero =>
    intro x7 x8 a s h1 h2 h4 h5
    refine Oks.step (fun k => by simp only [spec_DrawCorrectAll.l0]; rfl) ?_
    refine Oks.neg (by omega) ?_
    refine Oks.bind (pickK hc hl a s _ h4 (by omega)) ?_
    rintro ⟨v, a1, s1⟩ ⟨g1, g2, g3, g4⟩
    dsimp only at g1 g2 g3 g4 ⊢
    refine Oks.ite (fun _ => ?_) (fun _ => Oks.ite (fun _ => ?_) (fun _ => Oks.ite (fun _ => ?_) (fun _ => ?_)))
    · refine Oks.bind (day11K hc hl a1 s1 (by omega) (by omega)) ?_
      rintro ⟨u, a2, s2⟩ _
      exact Oks.pos (by omega) (Oks.now ⟨h6, by simp; omega, by simp only; omega⟩)
    · refine Oks.bind (day11K hc hl a1 s1 (by omega) (by omega)) ?_
      rintro ⟨u, a2, s2⟩ ⟨f1, f2⟩
      dsimp only at f1 f2 ⊢
      refine Oks.pos (by omega) ?_
      refine Oks.bind (fineK hc hl a2 s2 (by omega) (by omega)) ?_
      rintro ⟨x, a3, s3⟩ _
      exact Oks.pos (by omega) (Oks.now ⟨h6, by simp; omega, by simp; omega⟩)
    · exact correct_l1 hc hl x6 h6 (30 - x7.length) x7 x8 a1 s1 (by omega) (by omega) (by omega) (by omega)
    · exact Oks.now ⟨h6, by simp only; omega, by simp only; omega⟩
  | succ d ih =>
    intro x7 x8 a s h1 h2 h4 h5
    refine Oks.step (fun k => by simp only [spec_DrawCorrectAll.l0]; rfl) ?_
    refine Oks.pos (by omega) ?_
    refine Oks.bind (amongK hc hl a s _ (by simp) h4 (by omega)) ?_
    rintro ⟨u, a1, s1⟩ ⟨_, g3, g4⟩
    dsimp only at g3 g4 ⊢
    refine Oks.pos (by omega) ?_
    refine Oks.bind (amongK hc hl a1 s1 _ (by simp) (by omega) (by omega)) ?_
    rintro ⟨v, a2, s2⟩ ⟨_, e3, e4⟩
    dsimp only at e3 e4 ⊢
    rw [w64 (x := ((d + 1 : Nat) : Int) - 1) (by omega) (by omega), show ((d + 1 : Nat) : Int) - 1 = (d : Int) by omega]
    exact Oks.pos (by omega) (ih _ _ a2 s2 (by simp; omega) (by simp; omega) (by omega) (by omega))
theorem drawCorrect : Oks (fun k => spec_DrawCorrectAll.f k code) (fun r => r.1.length ≤ 10 ∧ r.2.1.length ≤ 30 ∧ r.2.2.length ≤ 60) := by
  unfold spec_DrawCorrectAll.f
  refine Oks.bind (pointsK hc hl 0 0 (by omega) (by omega)) ?_
  rintro ⟨l, a, s⟩ ⟨k1, k2, k3⟩
  dsimp only at k1 k2 k3 ⊢
  refine Oks.bind (pickK hc hl a s 5 (by omega) (by omega)) ?_
  rintro ⟨v, a1, s1⟩ ⟨e1, e2, e3, e4⟩
  dsimp only at e1 e2 e3 e4 ⊢
  have e5 := e2 (by omega)
  rw [show v = ((v.toNat : Nat) : Int) by omega]
  exact correct_l0 hc hl l k1 v.toNat [] [] a1 s1 (by simp; omega) (by simp; omega) (by omega) (by omega)
end Go.Proofs.Ytlipaiabjcaeiaa.Draw

/- What the functions on declinations answer, the program's and the reference's: the same. -/
namespace Go.Proofs.Ytlipaiabjcaeiaa.Dec
open Go.RowKit Go.Proofs.YtlipaiabjcaeiaaW.PrintWords Go.Proofs.Ytlipaiabjcaeiaa.Plain Go.Proofs.Ytlipaiabjcaeiaa.A
set_option linter.unusedVariables false
set_option linter.unusedSimpArgs false

theorem isFine_eq (x : Int) : impl_isFine.f x = some (inR x 0 3599) := by unfold impl_isFine.f; rw [within_eq]; rfl
theorem fine_eq (x : Int) : spec_l11Fine.f x = some (inR x 0 3599) := by unfold spec_l11Fine.f; rw [in_eq]; rfl
theorem modulo_eq (x : Int) (h1 : -100000 ≤ x) (h2 : x ≤ 100000) : impl_modulo.f x 3600 = some (x % 3600) := by
  unfold impl_modulo.f
  have e : (0 ≤ x ∧ x.tmod 3600 = x % 3600) ∨ (x < 0 ∧ x.tmod 3600 = -((-x) % 3600)) := by
    by_cases h : 0 ≤ x
    · exact .inl ⟨h, Int.tmod_eq_emod_of_nonneg h⟩
    · refine .inr ⟨by omega, ?_⟩
      rw [← Int.tmod_eq_emod_of_nonneg (show 0 ≤ -x by omega), Int.neg_tmod, Int.neg_neg]
  rw [if_neg (by omega), w64 (by omega) (by omega)]
  congr 1
  rw [Int.tmod_eq_emod_of_nonneg (by omega)]
  omega

def onB (l : List DP) (day : Int) : Bool := okL l && inR day 0 999
theorem onB_iff {l : List DP} {day : Int} : onB l day = true ↔ Pts l ∧ 0 ≤ day ∧ day ≤ 999 := by
  unfold onB
  rw [Bool.and_eq_true, okL_iff, inR_iff]

theorem implDeclinationOn_ev (l : List DP) (hb : l.length ≤ 140737488351232) (day : Int) : Ev (fun k => impl_DeclinationOn.f k l day) (if onB l day = true then (decl l day, true) else (0, false)) := by
  obtain ⟨K1, h1⟩ := arePoints_ev l hb
  by_cases hc : onB l day = true
  · rw [if_pos hc]
    obtain ⟨hp, hd⟩ := onB_iff.1 hc
    obtain ⟨K2, h2⟩ := decl_ev hp hd
    have e1 := (okL_iff l).2 hp
    have e2 : inR day 0 999 = true := inR_iff.2 hd
    refine ⟨max K1 K2, fun k hk => ?_⟩
    simp [impl_DeclinationOn.f, h1 k (by omega), h2 k (by omega), isDay_eq, e1, e2]
  · rw [if_neg hc]
    refine ⟨K1, fun k hk => ?_⟩
    unfold onB at hc
    cases e1 : okL l <;> cases e2 : inR day 0 999 <;> simp [e1, e2] at hc <;> simp [impl_DeclinationOn.f, h1 k (by omega), isDay_eq, e1, e2]
def fineB (l : List DP) (day x : Int) : Bool := onB l day && inR x 0 3599
theorem implTrueBearing_ev (l : List DP) (hb : l.length ≤ 140737488351232) (day x : Int) : Ev (fun k => impl_TrueBearing.f k l day x) (if fineB l day x = true then ((x + decl l day) % 3600, true) else (0, false)) := by
  obtain ⟨K1, h1⟩ := arePoints_ev l hb
  by_cases hc : fineB l day x = true
  · rw [if_pos hc]
    unfold fineB at hc
    rw [Bool.and_eq_true, inR_iff] at hc
    obtain ⟨hp, hd⟩ := onB_iff.1 hc.1
    obtain ⟨K2, h2⟩ := decl_ev hp hd
    have hx := hc.2
    have hy := decl_bound hp day
    have e1 := (okL_iff l).2 hp
    have e2 : inR day 0 999 = true := inR_iff.2 hd
    have e3 : inR x 0 3599 = true := inR_iff.2 hx
    refine ⟨max K1 K2 + 1, fun k hk => ?_⟩
    obtain ⟨k, rfl⟩ : ∃ m, k = m + 1 := ⟨k - 1, by omega⟩
    have e4 : wrap64 (x + decl l day) = x + decl l day := w64 (by omega) (by omega)
    simp [impl_TrueBearing.f, impl_TrueBearing.j0, h1 (k + 1) (by omega), h2 k (by omega), isDay_eq, isFine_eq, e1, e2, e3, e4, modulo_eq (x + decl l day) (by omega) (by omega)]
  · rw [if_neg hc]
    refine ⟨K1 + 1, fun k hk => ?_⟩
    obtain ⟨k, rfl⟩ : ∃ m, k = m + 1 := ⟨k - 1, by omega⟩
    unfold fineB onB at hc
    cases e1 : okL l <;> cases e2 : inR day 0 999 <;> cases e3 : inR x 0 3599 <;> simp [e1, e2, e3] at hc <;> simp [impl_TrueBearing.f, impl_TrueBearing.j0, h1 (k + 1) (by omega), isDay_eq, isFine_eq, e1, e2, e3]
theorem specTrueBearing_ev (l : List DP) (hb : l.length ≤ 140737488351232) (day x : Int) : Ev (fun k => spec_TrueBearing.f k l day x) (if fineB l day x = true then ((x + decl l day) % 3600, true) else (0, false)) := by
  obtain ⟨K1, h1⟩ := good_ev l hb
  by_cases hc : fineB l day x = true
  · rw [if_pos hc]
    unfold fineB at hc
    rw [Bool.and_eq_true, inR_iff] at hc
    obtain ⟨hp, hd⟩ := onB_iff.1 hc.1
    obtain ⟨K2, h2⟩ := on_ev hp hd
    have hx := hc.2
    have hy := decl_bound hp day
    have e1 := (okL_iff l).2 hp
    have e2 : inR day 0 999 = true := inR_iff.2 hd
    have e3 : inR x 0 3599 = true := inR_iff.2 hx
    refine ⟨max K1 K2, fun k hk => ?_⟩
    have e4 : wrap64 (x + decl l day) = x + decl l day := w64 (by omega) (by omega)
    have e5 : wrap64 (x + decl l day + 3600) = x + decl l day + 3600 := w64 (by omega) (by omega)
    have e6 : Int.tmod (x + decl l day + 3600) 3600 = (x + decl l day) % 3600 := by rw [Int.tmod_eq_emod_of_nonneg (by omega)]; omega
    simp [spec_TrueBearing.f, h1 k (by omega), h2 k (by omega), day_eq, fine_eq, e1, e2, e3, e4, e5, e6]
  · rw [if_neg hc]
    refine ⟨K1, fun k hk => ?_⟩
    unfold fineB onB at hc
    cases e1 : okL l <;> cases e2 : inR day 0 999 <;> cases e3 : inR x 0 3599 <;> simp [e1, e2, e3] at hc <;> simp [spec_TrueBearing.f, h1 k (by omega), day_eq, fine_eq, e1, e2, e3]
theorem implMagneticBearing_ev (l : List DP) (hb : l.length ≤ 140737488351232) (day x : Int) : Ev (fun k => impl_MagneticBearing.f k l day x) (if fineB l day x = true then ((x - decl l day) % 3600, true) else (0, false)) := by
  obtain ⟨K1, h1⟩ := arePoints_ev l hb
  by_cases hc : fineB l day x = true
  · rw [if_pos hc]
    unfold fineB at hc
    rw [Bool.and_eq_true, inR_iff] at hc
    obtain ⟨hp, hd⟩ := onB_iff.1 hc.1
    obtain ⟨K2, h2⟩ := decl_ev hp hd
    have hx := hc.2
    have hy := decl_bound hp day
    have e1 := (okL_iff l).2 hp
    have e2 : inR day 0 999 = true := inR_iff.2 hd
    have e3 : inR x 0 3599 = true := inR_iff.2 hx
    refine ⟨max K1 K2 + 1, fun k hk => ?_⟩
    obtain ⟨k, rfl⟩ : ∃ m, k = m + 1 := ⟨k - 1, by omega⟩
    have e4 : wrap64 (x - decl l day) = x - decl l day := w64 (by omega) (by omega)
    simp [impl_MagneticBearing.f, impl_MagneticBearing.j0, h1 (k + 1) (by omega), h2 k (by omega), isDay_eq, isFine_eq, e1, e2, e3, e4, modulo_eq (x - decl l day) (by omega) (by omega)]
  · rw [if_neg hc]
    refine ⟨K1 + 1, fun k hk => ?_⟩
    obtain ⟨k, rfl⟩ : ∃ m, k = m + 1 := ⟨k - 1, by omega⟩
    unfold fineB onB at hc
    cases e1 : okL l <;> cases e2 : inR day 0 999 <;> cases e3 : inR x 0 3599 <;> simp [e1, e2, e3] at hc <;> simp [impl_MagneticBearing.f, impl_MagneticBearing.j0, h1 (k + 1) (by omega), isDay_eq, isFine_eq, e1, e2, e3]
def twoB (l : List DP) (a b : Int) : Bool := onB l a && inR b 0 999
theorem implChangeBetween_ev (l : List DP) (hb : l.length ≤ 140737488351232) (a b : Int) : Ev (fun k => impl_ChangeBetween.f k l a b) (if twoB l a b = true then (decl l b - decl l a, true) else (0, false)) := by
  obtain ⟨K1, h1⟩ := arePoints_ev l hb
  by_cases hc : twoB l a b = true
  · rw [if_pos hc]
    unfold twoB at hc
    rw [Bool.and_eq_true, inR_iff] at hc
    obtain ⟨hp, hd⟩ := onB_iff.1 hc.1
    obtain ⟨K2, h2⟩ := decl_ev hp hd
    obtain ⟨K3, h3⟩ := decl_ev hp hc.2
    have hy := decl_bound hp a
    have hz := decl_bound hp b
    have e1 := (okL_iff l).2 hp
    have e2 : inR a 0 999 = true := inR_iff.2 hd
    have e3 : inR b 0 999 = true := inR_iff.2 hc.2
    refine ⟨max (max K1 K2) K3 + 1, fun k hk => ?_⟩
    obtain ⟨k, rfl⟩ : ∃ m, k = m + 1 := ⟨k - 1, by omega⟩
    have e4 : wrap64 (decl l b - decl l a) = decl l b - decl l a := w64 (by omega) (by omega)
    simp [impl_ChangeBetween.f, impl_ChangeBetween.j0, h1 (k + 1) (by omega), h2 k (by omega), h3 k (by omega), isDay_eq, e1, e2, e3, e4]
  · rw [if_neg hc]
    refine ⟨K1 + 1, fun k hk => ?_⟩
    obtain ⟨k, rfl⟩ : ∃ m, k = m + 1 := ⟨k - 1, by omega⟩
    unfold twoB onB at hc
    cases e1 : okL l <;> cases e2 : inR a 0 999 <;> cases e3 : inR b 0 999 <;> simp [e1, e2, e3] at hc <;> simp [impl_ChangeBetween.f, impl_ChangeBetween.j0, h1 (k + 1) (by omega), isDay_eq, e1, e2, e3]
theorem specChangeBetween_ev (l : List DP) (hb : l.length ≤ 140737488351232) (a b : Int) : Ev (fun k => spec_ChangeBetween.f k l a b) (if twoB l a b = true then (decl l b - decl l a, true) else (0, false)) := by
  obtain ⟨K1, h1⟩ := good_ev l hb
  by_cases hc : twoB l a b = true
  · rw [if_pos hc]
    unfold twoB at hc
    rw [Bool.and_eq_true, inR_iff] at hc
    obtain ⟨hp, hd⟩ := onB_iff.1 hc.1
    obtain ⟨K2, h2⟩ := on_ev hp hd
    obtain ⟨K3, h3⟩ := on_ev hp hc.2
    have hy := decl_bound hp a
    have hz := decl_bound hp b
    have e1 := (okL_iff l).2 hp
    have e2 : inR a 0 999 = true := inR_iff.2 hd
    have e3 : inR b 0 999 = true := inR_iff.2 hc.2
    refine ⟨max (max K1 K2) K3 + 1, fun k hk => ?_⟩
    obtain ⟨k, rfl⟩ : ∃ m, k = m + 1 := ⟨k - 1, by omega⟩
    have e4 : wrap64 (decl l b - decl l a) = decl l b - decl l a := w64 (by omega) (by omega)
    simp [spec_ChangeBetween.f, spec_ChangeBetween.j0, h1 (k + 1) (by omega), h2 k (by omega), h3 k (by omega), day_eq, e1, e2, e3, e4]
  · rw [if_neg hc]
    refine ⟨K1 + 1, fun k hk => ?_⟩
    obtain ⟨k, rfl⟩ : ∃ m, k = m + 1 := ⟨k - 1, by omega⟩
    unfold twoB onB at hc
    cases e1 : okL l <;> cases e2 : inR a 0 999 <;> cases e3 : inR b 0 999 <;> simp [e1, e2, e3] at hc <;> simp [spec_ChangeBetween.f, spec_ChangeBetween.j0, h1 (k + 1) (by omega), day_eq, e1, e2, e3]

/-! ### The days with a declination -/
/-- The first and the last day, from day i on with d days left, given what was found before. -/
def daysFrom (l : List DP) (t : Int) : Nat → Nat → Int → Int → Int × Int
  | _, 0, a, b => (a, b)
  | i, d + 1, a, b => if decl l (i : Int) = t then (if a < 0 then daysFrom l t (i + 1) d i i else daysFrom l t (i + 1) d a i) else daysFrom l t (i + 1) d a b
def fin (p : Int × Int) : Int × Int × Bool := if p.1 < 0 then (0, 0, false) else (p.1, p.2, true)
def daysWith (l : List DP) (t : Int) : Int × Int × Bool := fin (daysFrom l t 0 1000 (-1) (-1))
def withB (l : List DP) (t : Int) : Bool := okL l && inR t (-900) 900

theorem daysImpl (l : List DP) (hp : Pts l) (t : Int) : ∀ (d i : Nat) (a b : Int), i + d = 1000 → Ev (fun k => impl_DaysWith.l0 k l t a b (i : Int)) (fin (daysFrom l t i d a b)) := by
  intro d
  induction d with
  | zero =>
    intro i a b hi
    refine Ev.step (f := fun _ => if a < 0 then some (0, 0, false) else some (a, b, true)) (fun k => by simp only [impl_DaysWith.l0]; rw [if_neg (by omega)]) ?_
    exact Ev.ite (fun _ => Ev.now _) (fun _ => Ev.now _)
  | succ d ih =>
    intro i a b hi
    obtain ⟨K, hK⟩ := decl_ev hp (day := (i : Int)) (by omega)
    dsimp only at hK
    have e : wrap64 ((i : Int) + 1) = ((i + 1 : Nat) : Int) := by rw [w64 (by omega) (by omega)]; omega
    rw [daysFrom]
    by_cases h1 : decl l (i : Int) = t
    · by_cases h2 : a < 0
      · obtain ⟨K', h'⟩ := ih (i + 1) i i (by omega)
        refine ⟨max K K' + 1, fun k hk => ?_⟩
        obtain ⟨k, rfl⟩ : ∃ m, k = m + 1 := ⟨k - 1, by omega⟩
        simp only [impl_DaysWith.l0]
        rw [if_pos (by omega), hK k (by omega), Option.bind_some, if_pos h1, if_pos h2, e, if_pos h1, if_pos h2]
        exact h' k (by omega)
      · obtain ⟨K', h'⟩ := ih (i + 1) a i (by omega)
        refine ⟨max K K' + 1, fun k hk => ?_⟩
        obtain ⟨k, rfl⟩ : ∃ m, k = m + 1 := ⟨k - 1, by omega⟩
        simp only [impl_DaysWith.l0]
        rw [if_pos (by omega), hK k (by omega), Option.bind_some, if_pos h1, if_neg h2, e, if_pos h1, if_neg h2]
        exact h' k (by omega)
    · obtain ⟨K', h'⟩ := ih (i + 1) a b (by omega)
      refine ⟨max K K' + 1, fun k hk => ?_⟩
      obtain ⟨k, rfl⟩ : ∃ m, k = m + 1 := ⟨k - 1, by omega⟩
      simp only [impl_DaysWith.l0]
      rw [if_pos (by omega), hK k (by omega), Option.bind_some, if_neg h1, e, if_neg h1]
      exact h' k (by omega)
theorem daysSpec (l : List DP) (hp : Pts l) (t : Int) : ∀ (d i : Nat) (a b : Int), i + d = 1000 → Ev (fun k => spec_DaysWith.l0 k l t a b (i : Int)) (fin (daysFrom l t i d a b)) := by
  intro d
  induction d with
  | zero =>
    intro i a b hi
    refine Ev.step (f := fun _ => if a < 0 then some (0, 0, false) else some (a, b, true)) (fun k => by simp only [spec_DaysWith.l0]; rw [if_neg (by omega)]) ?_
    exact Ev.ite (fun _ => Ev.now _) (fun _ => Ev.now _)
  | succ d ih =>
    intro i a b hi
    obtain ⟨K, hK⟩ := on_ev hp (day := (i : Int)) (by omega)
    dsimp only at hK
    have e : wrap64 ((i : Int) + 1) = ((i + 1 : Nat) : Int) := by rw [w64 (by omega) (by omega)]; omega
    rw [daysFrom]
    by_cases h1 : decl l (i : Int) = t
    · by_cases h2 : a < 0
      · obtain ⟨K', h'⟩ := ih (i + 1) i i (by omega)
        refine ⟨max K K' + 1, fun k hk => ?_⟩
        obtain ⟨k, rfl⟩ : ∃ m, k = m + 1 := ⟨k - 1, by omega⟩
        simp only [spec_DaysWith.l0]
        rw [if_pos (by omega), hK k (by omega), Option.bind_some, if_pos h1, if_pos h2, e, if_pos h1, if_pos h2]
        exact h' k (by omega)
      · obtain ⟨K', h'⟩ := ih (i + 1) a i (by omega)
        refine ⟨max K K' + 1, fun k hk => ?_⟩
        obtain ⟨k, rfl⟩ : ∃ m, k = m + 1 := ⟨k - 1, by omega⟩
        simp only [spec_DaysWith.l0]
        rw [if_pos (by omega), hK k (by omega), Option.bind_some, if_pos h1, if_neg h2, e, if_pos h1, if_neg h2]
        exact h' k (by omega)
    · obtain ⟨K', h'⟩ := ih (i + 1) a b (by omega)
      refine ⟨max K K' + 1, fun k hk => ?_⟩
      obtain ⟨k, rfl⟩ : ∃ m, k = m + 1 := ⟨k - 1, by omega⟩
      simp only [spec_DaysWith.l0]
      rw [if_pos (by omega), hK k (by omega), Option.bind_some, if_neg h1, e, if_neg h1]
      exact h' k (by omega)
theorem daysImpl0 (l : List DP) (hp : Pts l) (t : Int) : Ev (fun k => impl_DaysWith.l0 k l t (-1) (-1) 0) (daysWith l t) := daysImpl l hp t 1000 0 (-1) (-1) rfl
theorem daysSpec0 (l : List DP) (hp : Pts l) (t : Int) : Ev (fun k => spec_DaysWith.l0 k l t (-1) (-1) 0) (daysWith l t) := daysSpec l hp t 1000 0 (-1) (-1) rfl
theorem implDaysWith_ev (l : List DP) (hb : l.length ≤ 140737488351232) (t : Int) : Ev (fun k => impl_DaysWith.f k l t) (if withB l t = true then daysWith l t else (0, 0, false)) := by
  obtain ⟨K1, h1⟩ := arePoints_ev l hb
  unfold withB
  cases e1 : okL l
  · refine ⟨K1 + 1, fun k hk => ?_⟩
    obtain ⟨k, rfl⟩ : ∃ m, k = m + 1 := ⟨k - 1, by omega⟩
    simp [impl_DaysWith.f, impl_DaysWith.j0, h1 (k + 1) (by omega), e1]
  · cases e2 : inR t (-900) 900
    · refine ⟨K1 + 1, fun k hk => ?_⟩
      obtain ⟨k, rfl⟩ : ∃ m, k = m + 1 := ⟨k - 1, by omega⟩
      simp [impl_DaysWith.f, impl_DaysWith.j0, h1 (k + 1) (by omega), e1, e2, isDecl_eq]
    · obtain ⟨K2, h2⟩ := daysImpl0 l ((okL_iff l).1 e1) t
      refine ⟨max K1 K2 + 1, fun k hk => ?_⟩
      obtain ⟨k, rfl⟩ : ∃ m, k = m + 1 := ⟨k - 1, by omega⟩
      have h3 := h2 k (by omega)
      dsimp only at h3
      have g1 := h1 (k + 1) (by omega)
      dsimp only at g1
      show impl_DaysWith.f (k + 1) l t = _
      rw [impl_DaysWith.f, g1, Option.bind_some, if_pos e1, isDecl_eq, Option.bind_some, e2, impl_DaysWith.j0, if_neg (by decide), Bool.and_true, if_pos rfl]
      exact h3
theorem specDaysWith_ev (l : List DP) (hb : l.length ≤ 140737488351232) (t : Int) : Ev (fun k => spec_DaysWith.f k l t) (if withB l t = true then daysWith l t else (0, 0, false)) := by
  obtain ⟨K1, h1⟩ := good_ev l hb
  unfold withB
  cases e1 : okL l
  · refine ⟨K1 + 1, fun k hk => ?_⟩
    obtain ⟨k, rfl⟩ : ∃ m, k = m + 1 := ⟨k - 1, by omega⟩
    simp [spec_DaysWith.f, spec_DaysWith.j0, h1 (k + 1) (by omega), e1]
  · cases e2 : inR t (-900) 900
    · refine ⟨K1 + 1, fun k hk => ?_⟩
      obtain ⟨k, rfl⟩ : ∃ m, k = m + 1 := ⟨k - 1, by omega⟩
      simp [spec_DaysWith.f, spec_DaysWith.j0, h1 (k + 1) (by omega), e1, e2, tenths_eq]
    · obtain ⟨K2, h2⟩ := daysSpec0 l ((okL_iff l).1 e1) t
      refine ⟨max K1 K2 + 1, fun k hk => ?_⟩
      obtain ⟨k, rfl⟩ : ∃ m, k = m + 1 := ⟨k - 1, by omega⟩
      have h3 := h2 k (by omega)
      dsimp only at h3
      have g1 := h1 (k + 1) (by omega)
      dsimp only at g1
      show spec_DaysWith.f (k + 1) l t = _
      rw [spec_DaysWith.f, g1, Option.bind_some, if_pos e1, tenths_eq, Option.bind_some, e2, spec_DaysWith.j0, if_neg (by decide), Bool.and_true, if_pos rfl]
      exact h3
end Go.Proofs.Ytlipaiabjcaeiaa.Dec

/- The corrected bearings, as a plain function: what the program's and the reference's functions come to. -/
namespace Go.Proofs.Ytlipaiabjcaeiaa.Dec
open Go.RowKit Go.Proofs.YtlipaiabjcaeiaaW.PrintWords Go.Proofs.Ytlipaiabjcaeiaa.Plain Go.Proofs.Ytlipaiabjcaeiaa.A
set_option linter.unusedVariables false
set_option linter.unusedSimpArgs false
/-- The bearings from index i on, d of them, behind those that are there. -/
def corr (l : List DP) (ds ms : List Int) : Nat → Nat → List Int → List Int × Bool
  | _, 0, acc => (acc, true)
  | i, d + 1, acc => if fineB l (ds.getD i 0) (ms.getD i 0) = true then corr l ds ms (i + 1) d (acc ++ [(ms.getD i 0 + decl l (ds.getD i 0)) % 3600]) else ([], false)
def corrB (l : List DP) (ds ms : List Int) : Bool := okL l && (decide (ds.length = ms.length) && decide (ds.length ≤ 20))
def corrAll (l : List DP) (ds ms : List Int) : List Int × Bool := if corrB l ds ms = true then corr l ds ms 0 ds.length [] else ([], false)
theorem corrImpl (l : List DP) (hb : l.length ≤ 140737488351232) (ds ms : List Int) (hl : ds.length = ms.length) (h20 : ds.length ≤ 20) : ∀ (d i : Nat) (acc : List Int), i + d = ds.length → acc.length ≤ i → Ev (fun k => impl_CorrectAll.l0 k l ms acc ds (ds.length : Int) (i : Int)) (corr l ds ms i d acc) := by
  intro d
  induction d with
  | zero =>
    intro i acc hi ha
    exact Ev.step (f := fun _ => some (acc, true)) (fun k => by simp only [impl_CorrectAll.l0]; rw [if_neg (by omega)]) (Ev.now _)
  | succ d ih =>
    intro i acc hi ha
    obtain ⟨K1, h1⟩ := implTrueBearing_ev l hb (ds.getD i 0) (ms.getD i 0)
    have b0 : 0 ≤ (i : Int) := by omega
    have b1 : (i : Int) < (ds.length : Int) := by omega
    have b2 : (i : Int) < (ms.length : Int) := by omega
    have b3 : acc.length < 17592186044416 := by omega
    have e1 : rd ds (i : Int) = ds.getD i 0 := rfl
    have e2 : rd ms (i : Int) = ms.getD i 0 := rfl
    have e3 : wrap64 ((i : Int) + 1) = ((i + 1 : Nat) : Int) := by rw [w64 (by omega) (by omega)]; omega
    rw [corr]
    by_cases hc : fineB l (ds.getD i 0) (ms.getD i 0) = true
    · obtain ⟨K2, h2⟩ := ih (i + 1) (acc ++ [(ms.getD i 0 + decl l (ds.getD i 0)) % 3600]) (by omega) (by simp; omega)
      refine ⟨max K1 K2 + 1, fun k hk => ?_⟩
      obtain ⟨k, rfl⟩ : ∃ m, k = m + 1 := ⟨k - 1, by omega⟩
      have g1 := h1 k (by omega)
      have g2 := h2 k (by omega)
      dsimp only at g1 g2
      rw [if_pos hc] at g1
      simp only [impl_CorrectAll.l0]
      rw [if_pos b1, if_pos b0, if_pos b1, if_pos b2, e1, e2, g1, Option.bind_some, if_pos rfl, if_pos b3, e3, if_pos hc]
      exact g2
    · refine ⟨K1 + 1, fun k hk => ?_⟩
      obtain ⟨k, rfl⟩ : ∃ m, k = m + 1 := ⟨k - 1, by omega⟩
      have g1 := h1 k (by omega)
      dsimp only at g1
      rw [if_neg hc] at g1
      simp only [impl_CorrectAll.l0]
      rw [if_pos b1, if_pos b0, if_pos b1, if_pos b2, e1, e2, g1, Option.bind_some, if_neg (by decide), if_neg hc]
theorem corrSpec (l : List DP) (hb : l.length ≤ 140737488351232) (ds ms : List Int) (hl : ds.length = ms.length) (h20 : ds.length ≤ 20) : ∀ (d i : Nat) (acc : List Int), i + d = ds.length → acc.length ≤ i → Ev (fun k => spec_CorrectAll.l0 k l ds ms acc (i : Int)) (corr l ds ms i d acc) := by
  intro d
  induction d with
  | zero =>
    intro i acc hi ha
    exact Ev.step (f := fun _ => some (acc, true)) (fun k => by simp only [spec_CorrectAll.l0]; rw [if_neg (by omega)]) (Ev.now _)
  | succ d ih =>
    intro i acc hi ha
    obtain ⟨K1, h1⟩ := specTrueBearing_ev l hb (ds.getD i 0) (ms.getD i 0)
    have b0 : 0 ≤ (i : Int) := by omega
    have b1 : (i : Int) < (ds.length : Int) := by omega
    have b2 : (i : Int) < (ms.length : Int) := by omega
    have b3 : acc.length < 17592186044416 := by omega
    have e1 : rd ds (i : Int) = ds.getD i 0 := rfl
    have e2 : rd ms (i : Int) = ms.getD i 0 := rfl
    have e3 : wrap64 ((i : Int) + 1) = ((i + 1 : Nat) : Int) := by rw [w64 (by omega) (by omega)]; omega
    rw [corr]
    by_cases hc : fineB l (ds.getD i 0) (ms.getD i 0) = true
    · obtain ⟨K2, h2⟩ := ih (i + 1) (acc ++ [(ms.getD i 0 + decl l (ds.getD i 0)) % 3600]) (by omega) (by simp; omega)
      refine ⟨max K1 K2 + 1, fun k hk => ?_⟩
      obtain ⟨k, rfl⟩ : ∃ m, k = m + 1 := ⟨k - 1, by omega⟩
      have g1 := h1 k (by omega)
      have g2 := h2 k (by omega)
      dsimp only at g1 g2
      rw [if_pos hc] at g1
      simp only [spec_CorrectAll.l0]
      rw [if_pos b1, if_pos b0, if_pos b2, e1, e2, g1, Option.bind_some, if_pos rfl, if_pos b3, e3, if_pos hc]
      exact g2
    · refine ⟨K1 + 1, fun k hk => ?_⟩
      obtain ⟨k, rfl⟩ : ∃ m, k = m + 1 := ⟨k - 1, by omega⟩
      have g1 := h1 k (by omega)
      dsimp only at g1
      rw [if_neg hc] at g1
      simp only [spec_CorrectAll.l0]
      rw [if_pos b1, if_pos b0, if_pos b2, e1, e2, g1, Option.bind_some, if_neg (by decide), if_neg hc]
theorem corr_length (l : List DP) (ds ms : List Int) : ∀ (d i : Nat) (acc : List Int), (corr l ds ms i d acc).1.length ≤ acc.length + d
  | 0, i, acc => by simp [corr]
  | d + 1, i, acc => by
    rw [corr]
    split
    · have := corr_length l ds ms d (i + 1) (acc ++ [(ms.getD i 0 + decl l (ds.getD i 0)) % 3600])
      rw [List.length_append, List.length_singleton] at this
      omega
    · simp
theorem corrAll_length (l : List DP) (ds ms : List Int) : (corrAll l ds ms).1.length ≤ 20 := by
  unfold corrAll
  split
  · rename_i h
    unfold corrB at h
    simp only [Bool.and_eq_true, decide_eq_true_eq] at h
    have := corr_length l ds ms ds.length 0 []
    simp at this
    omega
  · simp
theorem implCorrectAll_ev (l : List DP) (hb : l.length ≤ 140737488351232) (ds ms : List Int) : Ev (fun k => impl_CorrectAll.f k l ds ms) (corrAll l ds ms) := by
  obtain ⟨K1, h1⟩ := arePoints_ev l hb
  unfold corrAll corrB
  cases e1 : okL l
  · refine ⟨K1 + 1, fun k hk => ?_⟩
    obtain ⟨k, rfl⟩ : ∃ m, k = m + 1 := ⟨k - 1, by omega⟩
    simp [impl_CorrectAll.f, impl_CorrectAll.j0, h1 (k + 1) (by omega), e1]
  · by_cases hl : ds.length = ms.length
    · by_cases h20 : ds.length ≤ 20
      · obtain ⟨K2, h2⟩ := corrImpl l hb ds ms hl h20 ds.length 0 [] (by omega) (by simp)
        refine ⟨max K1 K2 + 1, fun k hk => ?_⟩
        obtain ⟨k, rfl⟩ : ∃ m, k = m + 1 := ⟨k - 1, by omega⟩
        have g1 := h1 (k + 1) (by omega)
        have g2 := h2 k (by omega)
        dsimp only at g1 g2
        show impl_CorrectAll.f (k + 1) l ds ms = _
        rw [impl_CorrectAll.f, g1, Option.bind_some, if_pos e1, if_pos (by omega), decide_eq_false (show ¬ (ds.length : Int) > 20 by omega), impl_CorrectAll.j0, if_neg (by decide), if_pos (by simp [hl]; omega)]
        exact g2
      · refine ⟨K1 + 1, fun k hk => ?_⟩
        obtain ⟨k, rfl⟩ : ∃ m, k = m + 1 := ⟨k - 1, by omega⟩
        have g1 := h1 (k + 1) (by omega)
        dsimp only at g1
        show impl_CorrectAll.f (k + 1) l ds ms = _
        rw [impl_CorrectAll.f, g1, Option.bind_some, if_pos e1, if_pos (by omega), decide_eq_true (show (ds.length : Int) > 20 by omega), impl_CorrectAll.j0, if_pos rfl, if_neg (by simp; omega)]
    · refine ⟨K1 + 1, fun k hk => ?_⟩
      obtain ⟨k, rfl⟩ : ∃ m, k = m + 1 := ⟨k - 1, by omega⟩
      have g1 := h1 (k + 1) (by omega)
      dsimp only at g1
      show impl_CorrectAll.f (k + 1) l ds ms = _
      rw [impl_CorrectAll.f, g1, Option.bind_some, if_pos e1, if_neg (by omega), impl_CorrectAll.j0, if_pos rfl, if_neg (by simp [hl])]
theorem specCorrectAll_ev (l : List DP) (hb : l.length ≤ 140737488351232) (ds ms : List Int) : Ev (fun k => spec_CorrectAll.f k l ds ms) (corrAll l ds ms) := by
  obtain ⟨K1, h1⟩ := good_ev l hb
  unfold corrAll corrB
  cases e1 : okL l
  · refine ⟨K1 + 1, fun k hk => ?_⟩
    obtain ⟨k, rfl⟩ : ∃ m, k = m + 1 := ⟨k - 1, by omega⟩
    simp [spec_CorrectAll.f, spec_CorrectAll.j0, h1 (k + 1) (by omega), e1]
  · by_cases hl : ds.length = ms.length
    · by_cases h20 : ds.length ≤ 20
      · obtain ⟨K2, h2⟩ := corrSpec l hb ds ms hl h20 ds.length 0 [] (by omega) (by simp)
        refine ⟨max K1 K2 + 1, fun k hk => ?_⟩
        obtain ⟨k, rfl⟩ : ∃ m, k = m + 1 := ⟨k - 1, by omega⟩
        have g1 := h1 (k + 1) (by omega)
        have g2 := h2 k (by omega)
        dsimp only at g1 g2
        show spec_CorrectAll.f (k + 1) l ds ms = _
        rw [spec_CorrectAll.f, Option.bind_some, g1, Option.bind_some, if_pos e1, if_pos (by omega), decide_eq_false (show ¬ (ds.length : Int) > 20 by omega), spec_CorrectAll.j0, if_neg (by decide), if_pos (by simp [hl]; omega)]
        exact g2
      · refine ⟨K1 + 1, fun k hk => ?_⟩
        obtain ⟨k, rfl⟩ : ∃ m, k = m + 1 := ⟨k - 1, by omega⟩
        have g1 := h1 (k + 1) (by omega)
        dsimp only at g1
        show spec_CorrectAll.f (k + 1) l ds ms = _
        rw [spec_CorrectAll.f, Option.bind_some, g1, Option.bind_some, if_pos e1, if_pos (by omega), decide_eq_true (show (ds.length : Int) > 20 by omega), spec_CorrectAll.j0, if_pos rfl, if_neg (by simp; omega)]
    · refine ⟨K1 + 1, fun k hk => ?_⟩
      obtain ⟨k, rfl⟩ : ∃ m, k = m + 1 := ⟨k - 1, by omega⟩
      have g1 := h1 (k + 1) (by omega)
      dsimp only at g1
      show spec_CorrectAll.f (k + 1) l ds ms = _
      rw [spec_CorrectAll.f, Option.bind_some, g1, Option.bind_some, if_pos e1, if_neg (by omega), spec_CorrectAll.j0, if_pos rfl, if_neg (by simp [hl])]
end Go.Proofs.Ytlipaiabjcaeiaa.Dec

/- The law FnDeclinations, as a plain statement: a bearing that is corrected and corrected back is the same, a day has the declination of the days with it, and changes add up. Conditions: those of the row's own reading. -/
namespace Go.Proofs.Ytlipaiabjcaeiaa.Dec
open Go.RowKit Go.Proofs.YtlipaiabjcaeiaaW.PrintWords Go.Proofs.Ytlipaiabjcaeiaa.Plain Go.Proofs.Ytlipaiabjcaeiaa.A Go.Proofs.Ytlipaiabjcaeiaa.Draw
set_option linter.unusedVariables false
set_option linter.unusedSimpArgs false
theorem days_keep (l : List DP) (t : Int) : ∀ (d i : Nat) (a b : Int), 0 ≤ a → b ≤ (i : Int) → (daysFrom l t i d a b).1 = a ∧ b ≤ (daysFrom l t i d a b).2 := by
  intro d
  induction d with
  | zero => intro i a b h1 h2; exact ⟨rfl, Int.le_refl _⟩
  | succ d ih =>
    intro i a b h1 h2
    rw [daysFrom]
    by_cases h : decl l (i : Int) = t
    · rw [if_pos h, if_neg (by omega)]
      have := ih (i + 1) a (i : Int) h1 (by omega)
      exact ⟨this.1, by omega⟩
    · rw [if_neg h]
      exact ih (i + 1) a b h1 (by omega)
theorem days_hits (l : List DP) (t : Int) (day : Nat) (ht : decl l (day : Int) = t) : ∀ (d i : Nat) (a b : Int), i ≤ day → day < i + d → (a < 0 ∨ 0 ≤ a ∧ a ≤ (day : Int)) → 0 ≤ (daysFrom l t i d a b).1 ∧ (daysFrom l t i d a b).1 ≤ (day : Int) ∧ (day : Int) ≤ (daysFrom l t i d a b).2 := by
  intro d
  induction d with
  | zero => intro i a b h1 h2; omega
  | succ d ih =>
    intro i a b h1 h2 h3
    rw [daysFrom]
    by_cases hi : i = day
    · subst hi
      rw [if_pos ht]
      by_cases ha : a < 0
      · rw [if_pos ha]
        have := days_keep l t d (i + 1) (i : Int) (i : Int) (by omega) (by omega)
        omega
      · rw [if_neg ha]
        have := days_keep l t d (i + 1) a (i : Int) (by omega) (by omega)
        omega
    · by_cases h : decl l (i : Int) = t
      · rw [if_pos h]
        by_cases ha : a < 0
        · rw [if_pos ha]
          exact ih (i + 1) _ _ (by omega) (by omega) (by omega)
        · rw [if_neg ha]
          exact ih (i + 1) _ _ (by omega) (by omega) (by omega)
      · rw [if_neg h]
        exact ih (i + 1) _ _ (by omega) (by omega) h3
theorem days_has (l : List DP) (day : Int) (h0 : 0 ≤ day) (h1 : day ≤ 999) : ∃ a b, daysWith l (decl l day) = (a, b, true) ∧ a ≤ day ∧ day ≤ b := by
  have hd : ((day.toNat : Nat) : Int) = day := by omega
  have h := days_hits l (decl l day) day.toNat (by rw [hd]) 1000 0 (-1) (-1) (by omega) (by omega) (by omega)
  unfold daysWith fin
  rw [if_neg (by omega)]
  exact ⟨_, _, rfl, by omega, by omega⟩
theorem rInts_ev (l : List Int) (hb : l.length ≤ 140737488351232) : Ev (fun k => laws_rInts.f k l l) true := by
  unfold laws_rInts.f
  refine Ev.pos rfl ?_
  exact eq_all laws_rInts.l0 (fun k x0 x4 h0 => by
    simp only [laws_rInts.l0, if_true]
    by_cases h : x4 < (x0.length : Int)
    · rw [if_pos h, if_pos h0, if_pos h, if_pos h]
    · rw [if_neg h, if_neg h]) l hb
theorem j4_ev (code : List Int) (hc : Bytes code) (hl : code.length ≤ 65536) : Ev (fun k => laws_FnDeclinations.j4 k code) true := by
  obtain ⟨⟨l, t⟩, hD, hn⟩ := drawDays hc hl
  dsimp only at hn
  refine Ev.step (fun k => by simp only [laws_FnDeclinations.j4]; rfl) ?_
  refine Ev.bind hD ?_
  refine Ev.bind (implDaysWith_ev l (by omega) t) ?_
  refine Ev.bind (specDaysWith_ev l (by omega) t) ?_
  generalize (if withB l t = true then daysWith l t else (0, 0, false)) = r
  refine Ev.pos rfl (Ev.pos rfl (Ev.pos (by simp) ?_))
  refine Ev.bind (arePoints_ev l (by omega)) ?_
  have h : Ev (fun k => spec_ArePoints.f k l) (okL l) := Ev.bind (good_ev l (by omega)) (Ev.now _)
  refine Ev.bind h ?_
  rw [beq_self_eq_true]
  exact Ev.now _
theorem j3_law (code : List Int) (hc : Bytes code) (hl : code.length ≤ 65536) (l : List DP) (hn : l.length ≤ 10) (a b : Int) : Ev (fun k => laws_FnDeclinations.j3 k code l a b (if twoB l a b = true then (decl l b - decl l a, true) else (0, false)).1 (if twoB l a b = true then (decl l b - decl l a, true) else (0, false)).2 false) true := by
  have h4 := j4_ev code hc hl
  by_cases h : twoB l a b = true
  · rw [if_pos h]
    have h' := h
    unfold twoB at h'
    rw [Bool.and_eq_true] at h'
    have ha := onB_iff.1 h'.1
    have hb := inR_iff.1 h'.2
    have z0 : inR 0 0 999 = true := rfl
    have e1 : twoB l a 0 = true := by unfold twoB; rw [h'.1, z0]; rfl
    have e2 : twoB l 0 b = true := by unfold twoB onB; rw [(okL_iff l).2 ha.1, z0, h'.2]; rfl
    have i1 := implChangeBetween_ev l (by omega) a 0
    have i2 := implChangeBetween_ev l (by omega) 0 b
    rw [if_pos e1] at i1
    rw [if_pos e2] at i2
    have d0 := decl_bound ha.1 0
    have da := decl_bound ha.1 a
    have db := decl_bound ha.1 b
    refine Ev.step (fun k => by simp only [laws_FnDeclinations.j3, Bool.false_eq_true, if_false, if_true]; rfl) ?_
    refine Ev.bind i1 (Ev.bind i2 (Ev.pos rfl (Ev.pos rfl (Ev.pos ?_ h4))))
    rw [w64 (by simp only; omega) (by simp only; omega)]
    simp only
    omega
  · rw [if_neg h]
    exact Ev.step (f := fun k => laws_FnDeclinations.j4 k code) (fun k => by simp only [laws_FnDeclinations.j3, Bool.false_eq_true, if_false]) h4
theorem j2_law (code : List Int) (hc : Bytes code) (hl : code.length ≤ 65536) : Ev (fun k => laws_FnDeclinations.j2 k code false) true := by
  obtain ⟨⟨l, a, b⟩, hD, hn⟩ := drawChange hc hl
  dsimp only at hn
  refine Ev.step (fun k => by simp only [laws_FnDeclinations.j2, Bool.false_eq_true, if_false]; rfl) ?_
  refine Ev.bind hD ?_
  refine Ev.bind (implChangeBetween_ev l (by omega) a b) ?_
  refine Ev.bind (specChangeBetween_ev l (by omega) a b) ?_
  refine Ev.pos rfl ?_
  rw [bne_self_eq_false]
  exact j3_law code hc hl l hn a b
theorem j1_law (code : List Int) (hc : Bytes code) (hl : code.length ≤ 65536) : Ev (fun k => laws_FnDeclinations.j1 k code) true := by
  obtain ⟨⟨l, ds, ms⟩, hD, hn, _, _⟩ := drawCorrect hc hl
  dsimp only at hn
  refine Ev.step (fun k => by simp only [laws_FnDeclinations.j1]; rfl) ?_
  refine Ev.bind hD ?_
  refine Ev.bind (implCorrectAll_ev l (by omega) ds ms) ?_
  refine Ev.bind (specCorrectAll_ev l (by omega) ds ms) ?_
  have hlen := corrAll_length l ds ms
  generalize corrAll l ds ms = r at *
  refine Ev.neg (by simp) ?_
  refine Ev.bind (rInts_ev r.1 (by omega)) ?_
  exact j2_law code hc hl
theorem j0_law (code : List Int) (hc : Bytes code) (hl : code.length ≤ 65536) (l : List DP) (hn : l.length ≤ 10) (day x : Int) : Ev (fun k => laws_FnDeclinations.j0 k code l day x (if fineB l day x = true then ((x + decl l day) % 3600, true) else (0, false)).1 (if fineB l day x = true then ((x + decl l day) % 3600, true) else (0, false)).2 false) true := by
  have h1 := j1_law code hc hl
  by_cases h : fineB l day x = true
  · rw [if_pos h]
    have h' := h
    unfold fineB at h'
    rw [Bool.and_eq_true] at h'
    have ho := onB_iff.1 h'.1
    have hx := inR_iff.1 h'.2
    have hd := decl_bound ho.1 day
    obtain ⟨a, b, hw, ha, hb⟩ := days_has l day ho.2.1 ho.2.2
    have e1 : fineB l day ((x + decl l day) % 3600) = true := by
      unfold fineB
      rw [h'.1, inR_iff.2 (show 0 ≤ (x + decl l day) % 3600 ∧ (x + decl l day) % 3600 ≤ 3599 by omega)]
      rfl
    have e2 : withB l (decl l day) = true := by
      unfold withB
      rw [(okL_iff l).2 ho.1, inR_iff.2 hd]
      rfl
    have i1 := implMagneticBearing_ev l (by omega) day ((x + decl l day) % 3600)
    have i2 := implDeclinationOn_ev l (by omega) day
    have i3 := implDaysWith_ev l (by omega) (decl l day)
    rw [if_pos e1] at i1
    rw [if_pos h'.1] at i2
    rw [if_pos e2, hw] at i3
    refine Ev.step (fun k => by simp only [laws_FnDeclinations.j0, Bool.false_eq_true, if_false, if_true]; rfl) ?_
    refine Ev.bind i1 (Ev.bind i2 (Ev.bind i3 (Ev.pos rfl (Ev.pos ?_ (Ev.pos rfl (Ev.pos rfl (Ev.neg ?_ (Ev.neg ?_ h1))))))))
    · simp only
      omega
    · simp only
      omega
    · simp only
      omega
  · rw [if_neg h]
    exact Ev.step (f := fun k => laws_FnDeclinations.j1 k code) (fun k => by simp only [laws_FnDeclinations.j0, Bool.false_eq_true, if_false]) h1
end Go.Proofs.Ytlipaiabjcaeiaa.Dec
namespace Go.Proofs.Ytlipaiabjcaeiaa.Pure
open Go.RowKit Go.Proofs.YtlipaiabjcaeiaaW.PrintWords Go.Proofs.Ytlipaiabjcaeiaa.Plain Go.Proofs.Ytlipaiabjcaeiaa.A Go.Proofs.Ytlipaiabjcaeiaa.Dec Go.Proofs.Ytlipaiabjcaeiaa.Draw
theorem FnDeclinations (code : List Int) (hb : code.length * 1 ≤ 140737488351232) (hw : ∀ x ∈ code, (Lit.int .u8 x).wf = true) : ∃ k, laws_FnDeclinations.f k code = some true := by
  refine Ev.rounds ?_
  have hc := Bytes.of_wf hw
  refine Ev.bindc (show laws_rBig.f code = some (decide ((code.length : Int) > 65536)) from rfl) ?_
  by_cases c : (code.length : Int) > 65536
  · exact Ev.pos (decide_eq_true c) (Ev.now _)
  have hl : code.length ≤ 65536 := by omega
  refine Ev.neg (by rw [decide_eq_false c]; decide) ?_
  obtain ⟨⟨l, day, x⟩, hD, hn⟩ := drawTrue hc hl
  dsimp only at hn
  refine Ev.bind hD ?_
  refine Ev.bind (implTrueBearing_ev l (by omega) day x) ?_
  refine Ev.bind (specTrueBearing_ev l (by omega) day x) ?_
  refine Ev.pos rfl ?_
  rw [bne_self_eq_false]
  exact j0_law code hc hl l hn day x
end Go.Proofs.Ytlipaiabjcaeiaa.Pure

/- General laws by which a law's arguments are opened: a slice of structs whose fields are integers or bools, as a row of the print's kinds; a struct by value. No conditions. -/
namespace Go.Proofs.Ytlipaiabjcaeiaa.Opens
open Go.ChangeShapes Go.WideShapes Go.Deep Go.RowKit Go.Proofs.YtlipaiabjcaeiaaW.PrintWords

theorem list_of {α : Type} {P : Nat → α → Prop} : ∀ (n : Nat), (∀ i, i < n → ∃ x, P i x) → ∃ xs : List α, xs.length = n ∧ ∀ i x, xs[i]? = some x → P i x
  | 0, _ => ⟨[], rfl, fun i x h => by simp at h⟩
  | n + 1, h => by
    obtain ⟨xs, hl, hx⟩ := list_of n (fun i hi => h i (Nat.lt_succ_of_lt hi))
    obtain ⟨y, hy⟩ := h n (Nat.lt_succ_self n)
    refine ⟨xs ++ [y], by simp [hl], fun i x hi => ?_⟩
    by_cases hlt : i < xs.length
    · rw [List.getElem?_append_left hlt] at hi
      exact hx i x hi
    · rw [List.getElem?_append_right (by omega)] at hi
      have h0 : i - xs.length = 0 := by
        have := (List.getElem?_eq_some_iff.1 hi).1
        simp at this
        omega
      rw [h0] at hi
      simp at hi
      subst hi
      have : i = n := by omega
      subst this
      exact hy

section
variable {H : Type} {enc : TypeId × Value → H} {P : Program} {w : World} {base : Nat} {spare : Nat → Bool} {held : Bool}
/-- A slice of structs, opened: the list of what its elements are, each by the kind's own reading. -/
theorem open_row {α : Type} (d : Kd α) {Q : α → Prop} {t e : TypeId} {a : Option Addr} {len cap : Nat} {dd : DataW H} {ps : List MemPlace} (ht : P.underlying t = some (.slice e)) (hC : P.cellsOf e = d.sz)
    (hd : ∀ n cs y, DataW.trod enc P w base spare held n e cs = some y → ∃ x, d.K w x cs ∧ Q x)
    (h : DataW.Trod enc P w base spare held t (.slice a len cap) dd ps) : ∃ xs : List α, xs.length = len ∧ len ≤ cap ∧ d.C w a len xs ∧ ∀ x ∈ xs, Q x := by
  obtain ⟨fuel, hf⟩ := h
  rcases open_slice ht hf with ⟨hcs, _⟩ | ⟨x, l, c, m, n, D, Pl, hcs, _, hl, hm, hmm, _, hi⟩
  · simp [Value.cells] at hcs
    obtain ⟨rfl, rfl, rfl⟩ := hcs
    exact ⟨[], rfl, Nat.le_refl _, ⟨rfl, by omega, fun h => by omega⟩, fun x hx => by simp at hx⟩
  · simp [Value.cells] at hcs
    obtain ⟨rfl, rfl, rfl⟩ := hcs
    have hle : len ≤ m := by subst hmm; split <;> omega
    obtain ⟨xs, hxl, hx⟩ := list_of (P := fun i (z : α) => Q z ∧ ∃ cs, d.K w z cs ∧ w.cells? base (x.add (i * d.sz)) d.sz = some cs) len (fun i hil => by
      obtain ⟨cs, h1, h2⟩ := hi i (by omega)
      rw [hC] at h1
      obtain ⟨z, h3, h4⟩ := hd _ _ _ h2
      exact ⟨z, h4, cs, h3, h1⟩)
    refine ⟨xs, hxl, hl, ⟨hxl, by unfold maxLen at hm; omega, fun _ => ⟨x, rfl, fun j p hp => ?_⟩⟩, fun z hz => ?_⟩
    · obtain ⟨_, cs, h1, h2⟩ := hx j p hp
      obtain ⟨_, hlen, hat⟩ := World.cells?_some h2
      refine ⟨cs, hlen, h1, fun i u hu => ?_⟩
      have hil : i < d.sz := by have := (List.getElem?_eq_some_iff.1 hu).1; omega
      rw [← Go.Deep.add_add, hat i hil, hu]
    · obtain ⟨j, hj⟩ := List.getElem?_of_mem hz
      exact (hx j z hj).1

theorem sized_row {t e : TypeId} {a : Option Addr} {len cap : Nat} {d : DataW H} {ps : List MemPlace} {ts : List TypeId} {ds : List (DataW H)} {j : Nat}
    (hsz : (DataW.weightsEach P ts ds).all (· ≤ reachBytes) = true) (ht : ts[j]? = some t) (hd : ds[j]? = some d) (hu : P.underlying t = some (.slice e)) {B : Nat} (hB : P.bytesOf e = B)
    (h : DataW.Trod enc P w base spare held t (.slice a len cap) d ps) : len * B ≤ 140737488351232 := by
  obtain ⟨fuel, hf⟩ := h
  rcases open_slice hu hf with ⟨hcs, _⟩ | ⟨x, l, c, m, n, D, Pl, hcs, _, hl, hm, hmm, hx, hi⟩
  · simp [Value.cells] at hcs
    obtain ⟨rfl, rfl, rfl⟩ := hcs
    simp
  · simp [Value.cells] at hcs
    obtain ⟨rfl, rfl, rfl⟩ := hcs
    obtain ⟨hx, _⟩ := Prod.mk.inj hx
    subst hx
    have z := sized_slice hsz ht hd hu
    rw [hB] at z
    simp only [List.length_map, List.length_range] at z
    have hle : len ≤ m := by subst hmm; split <;> omega
    rw [show len + (m - len) = m by omega] at z
    exact Nat.le_trans (Nat.mul_le_mul_right _ hle) z

end
end Go.Proofs.Ytlipaiabjcaeiaa.Opens

namespace Go.Proofs.Ytlipaiabjcaeiaa.fnDeclinations
open Go.ChangeShapes Go.WideShapes Go.ChangeAt Go.RowKit
open Go.ChangeMaps (open_string shut_string)
open Go.Proofs.Ytlipaiabjcaeiaa.A Go.Proofs.YtlipaiabjcaeiaaW.PrintWords Go.Proofs.Ytlipaiabjcaeiaa.Opens
set_option linter.unusedVariables false
theorem own : ownKnob Try.prog.godebug = none := by kernel_rfl
theorem laidOut : laidOutB Try.prog = true := by kernel_rfl
set_option maxRecDepth 100000 in
theorem lifted (os : Os) (started : os.Started) (H : Type) (enc : TypeId × Value → H) :
    ReturnsInHanded {} Try.checked os 3 .any (Rows.fnDeclinationsSpec.pre6 enc Try.prog Try.f3 Rows.fnDeclinationsRow.domain false) (Rows.fnDeclinationsSpec.post enc Try.prog Try.f3 false true false false) := by
  refine returnsInHanded_of_change_sized (C := Try.checked) own started (by kernel_rfl) Try.func3
    (ChangeSpec.witness6 (enc := enc) (C := Try.checked) false ⟨#[], #[.slice none 0 0], []⟩ 8 (by kernel_rfl) (by kernel_rfl) (by kernel_rfl) (by kernel_rfl)) ?_
  intro W base args ds gs before hval0 hW hcnd hsz0 _
  have hsz : (DataW.weightsEach Try.prog (Try.f3.params.toList ++ Rows.fnDeclinationsSpec.plain.varTypes Try.prog) (ds ++ gs)).all (· ≤ reachBytes) = true := hsz0
  have hval : ∀ (j : Nat) t v, Try.f3.params[j]? = some t → args[j]? = some v → Value.okWide Try.prog W .any base t v := hval0
  have hW' := hW
  obtain ⟨p, q, hA0, hV, rfl, hfz, hnd⟩ := hW
  have hA : DataW.TrodAll enc Try.prog W 0 (fun _ => true) true Try.f3.params.toList args.toList ds p := hA0
  rw [Try.params3] at hA hval hsz
  obtain ⟨v0, vs0, d0, ds0, p0, q0, hargs, rfl, rfl, h0, r0⟩ := trodAll_cons hA
  obtain ⟨rfl, rfl, rfl⟩ := trodAll_nil r0
  obtain rfl : args = #[v0] := by cases args; simp_all
  obtain ⟨rfl, rfl⟩ := trodVars_none hV
  have k0 := h0
  have lt0 : ∀ x ∈ p0, x.block < W.heap.size := by obtain ⟨m, hm⟩ := k0; exact DataW.trod_lt m _ _ _ hm
  obtain ⟨a0, len0, cap0, rfl⟩ := okWide_slice Try.underlying22 (hval 0 22 v0 rfl rfl)
  obtain ⟨l0, hl0, hc0, hr0, hw0⟩ := Opens.open_row (Kd.int .u8) (Q := fun x => (Lit.int .u8 x).wf = true) (e := 5) Try.underlying22 (by kernel_rfl) (fun _ _ _ h => by obtain ⟨x, rfl, _, hw⟩ := DataW.trod_int Try.underlying5 h; exact ⟨x, rfl, hw⟩) h0
  have y0 : len0 * 1 ≤ 140737488351232 := Opens.sized_row hsz (j := 0) (t := 22) rfl rfl Try.underlying22 (by kernel_rfl) h0
  subst hl0
  clear hA0 hval0 hsz0 hsz
  obtain ⟨k, hk⟩ := Pure.FnDeclinations l0 y0 hw0
  refine (laws_FnDeclinations.calls k _ _ l0 true W hr0 hc0 hk).mono fun e W' ⟨he, hb⟩ => ?_
  have bel : Below W.heap.size W W' := hb
  subst he
  exact ⟨_, rfl, _, _, _, [], _, [], hW', trodAll_mk1 (shut_bool Try.underlying4 _), (trodAll_cons_mk (Below.trod laidOut (by kernel_rfl) (of_decide_eq_true (by kernel_rfl)) k0 bel lt0) trodAll_mk0), rfl, bel.frame _, fun h => by cases h⟩
theorem over : Rows.fnDeclinationsRow.holds Try.pinned (OpenSpec.ofChange Rows.fnDeclinationsSpec) :=
  OpenClaim.holds_of_wide 3 Try.f3 rfl rfl rfl rfl rfl rfl rfl ⟨rfl, rfl, rfl, rfl, rfl⟩ rfl rfl rfl rfl rfl (by kernel_rfl) Try.func3 (by kernel_rfl)
    (of_decide_eq_true (by kernel_rfl)) (by unfold Func.isWrapper; first | (rw [if_pos (by decide +kernel)]; kernel_rfl) | (rw [if_neg (by decide +kernel)]; exact ⟨rfl, rfl⟩))
    (fun os started H enc _ => lifted os started H enc)
theorem proved : Rows.FnDeclinationsSaid := over
#print axioms proved
end Go.Proofs.Ytlipaiabjcaeiaa.fnDeclinations
namespace Go.Proofs.Ytlipaiabjcaeiaa
/-- The row, under a short name, for the claim. -/
theorem fnDeclinations_holds : Rows.FnDeclinationsSaid := fnDeclinations.proved
end Go.Proofs.Ytlipaiabjcaeiaa
