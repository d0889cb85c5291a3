/- The row of the law FnPoints: whatever the input, it returns true; its arguments read as they did. No conditions. -/
import Derived.Deep.Slices
import Derived.Deep.Fields
import Derived.ChangeSame
import Derived.SizedLaws
import Derived.Test.YtlipaiabjcaeiaaRows
import Derived.ProofKit
import Derived.OpenShut
import Derived.ShutString
import Derived.ChangeOld
import Derived.Test.YtlipaiabjcaeiaaKFnPointsU3
set_option linter.unusedSimpArgs false
set_option linter.unusedVariables false
namespace Go.Proofs.Ytlipaiabjcaeiaa.Draw
open Go Go.RowKit YtlipaiabjcaeiaaW.PrintWords Plain A
def Oks {α : Type} (g : Nat → Option α) (P : α → Prop) : Prop := ∃ r, Ev g r ∧ P r
theorem Oks.bind {α β : Type} {g : Nat → Option α} {f : Nat → α → Option β} {P : α → Prop} {Q : β → Prop} (h : Oks g P) (k : ∀ r, P r → Oks (fun n => f n r) Q) : Oks (fun n => (g n).bind (f n)) Q := by
 obtain ⟨r, h1, h2⟩ := h
 obtain ⟨q, k1, k2⟩ := k r h2
 exact ⟨q, Ev.bind h1 k1, k2⟩
theorem Oks.now {α : Type} {P : α → Prop} {r : α} (h : P r) : Oks (fun _ => some r) P := ⟨r, Ev.now _, h⟩
theorem Oks.pos {α : Type} {c : Prop} [Decidable c] {g f : Nat → Option α} {P : α → Prop} (hc : c) (h : Oks g P) : Oks (fun n => if c then g n else f n) P := by
 obtain ⟨r, h1, h2⟩ := h
 exact ⟨r, Ev.pos hc h1, h2⟩
theorem Oks.neg {α : Type} {c : Prop} [Decidable c] {g f : Nat → Option α} {P : α → Prop} (hc : ¬ c) (h : Oks f P) : Oks (fun n => if c then g n else f n) P := by
 obtain ⟨r, h1, h2⟩ := h
 exact ⟨r, Ev.neg hc h1, h2⟩
theorem Oks.ite {α : Type} {c : Prop} [Decidable c] {g f : Nat → Option α} {P : α → Prop} (h : c → Oks g P) (k : ¬ c → Oks f P) : Oks (fun n => if c then g n else f n) P := by
 by_cases hc : c
 · exact Oks.pos hc (h hc)
 · exact Oks.neg hc (k hc)
theorem Oks.step {α : Type} {g f : Nat → Option α} {P : α → Prop} (e : ∀ k, g (k + 1) = f k) (h : Oks f P) : Oks g P := by
 obtain ⟨r, h1, h2⟩ := h
 exact ⟨r, Ev.step e h1, h2⟩
theorem Oks.imp {α : Type} {g : Nat → Option α} {P Q : α → Prop} (h : Oks g P) (k : ∀ r, P r → Q r) : Oks g Q := by
 obtain ⟨r, h1, h2⟩ := h
 exact ⟨r, h1, k r h2⟩
theorem Oks.of {α : Type} {g : Nat → Option α} {P : α → Prop} {r : α} (h : Ev g r) (k : P r) : Oks g P := ⟨r, h, k⟩
def Bytes (code : List Int) : Prop := ∀ x ∈ code, 0 ≤ x ∧ x ≤ 255
theorem Bytes.of_wf {code : List Int} (h : ∀ x ∈ code, (Lit.int .u8 x).wf = true) : Bytes code := fun x hx => by
 have := h x hx
 simp only [Lit.wf, IntKind.min, IntKind.max, IntKind.signed, IntKind.bits, Bool.and_eq_true, decide_eq_true_eq, Bool.false_eq_true, if_false] at this
 omega
theorem Bytes.at_ {code : List Int} (h : Bytes code) (i : Int) : 0 ≤ rd code i ∧ rd code i ≤ 255 := by
 have e : rd code i = code.getD i.toNat 0 := rfl
 rw [e]
 by_cases hi : i.toNat < code.length
 ·
  have e2 : code.getD i.toNat 0 = code[i.toNat] := by simp [List.getD, hi]
  rw [e2]
  exact h _ (List.getElem_mem hi)
 ·
  have e2 : code.getD i.toNat 0 = 0 := by simp [List.getD, hi]
  rw [e2]
  omega
theorem and255 (x : Int) (h0 : 0 ≤ x) (h1 : x ≤ 18446744073709551615) : 0 ≤ Go.bits .and .u64 x 255 ∧ Go.bits .and .u64 x 255 ≤ 255 := by
 have h := bits_and_u64_nat x.toNat 255 (by omega) (by omega)
 rw [Int.toNat_of_nonneg h0] at h
 have h2 : x.toNat &&& 255 ≤ 255 := Nat.and_le_right
 have e : Go.bits .and .u64 x 255 = ((x.toNat &&& 255 : Nat) : Int) := h
 rw [e]
 omega
theorem seed_low (x : Int) : 0 ≤ wrap64 (Go.bits .and .u64 (IntKind.u64.wrap x / 1099511627776) 255) ∧ wrap64 (Go.bits .and .u64 (IntKind.u64.wrap x / 1099511627776) 255) ≤ 255 := by
 have h := IntKind.wrap_u64 x
 have h2 := and255 (IntKind.u64.wrap x / 1099511627776) (by omega) (by omega)
 rw [w64 (by omega) (by omega)]
 exact h2
theorem next_ok {code : List Int} (hc : Bytes code) (hl : code.length ≤ 65536) (a s : Int) (h0 : 0 ≤ a) (h1 : a ≤ 1000000000) : ∃ v s', spec_l1Cur_next.f code a s = some (v, a + 1, s') ∧ 0 ≤ v ∧ v ≤ 255 := by
 have hr := hc.at_ a
 have e1 : wrap64 (rd code a) = rd code a := w64 (by omega) (by omega)
 have e2 : wrap64 (a + 1) = a + 1 := w64 (by omega) (by omega)
 unfold spec_l1Cur_next.f
 rw [e2]
 by_cases c1 : a < (code.length : Int)
 ·
  rw [if_pos c1, if_pos h0, if_pos (by omega), e1]
  exact ⟨_, _, rfl, hr⟩
 ·
  rw [if_neg c1, if_neg (by omega)]
  exact ⟨_, _, rfl, seed_low _⟩
theorem pick_ok {code : List Int} (hc : Bytes code) (hl : code.length ≤ 65536) (a s n : Int) (h0 : 0 ≤ a) (h1 : a ≤ 100000000) : ∃ v a' s', spec_l1Cur_pick.f code a s n = some (v, a', s') ∧ 0 ≤ v ∧ (0 < n → v < n) ∧ a ≤ a' ∧ a' ≤ a + 2 := by
 unfold spec_l1Cur_pick.f
 by_cases c1 : n ≤ 1
 ·
  rw [if_pos c1]
  exact ⟨0, a, s, rfl, by omega, by omega, by omega, by omega⟩
 rw [if_neg c1]
 obtain ⟨v, s1, e, hv⟩ := next_ok hc hl a s h0 (by omega)
 rw [e, Option.bind_some]
 by_cases c2 : n > 200
 ·
  obtain ⟨v2, s2, e2, hv2⟩ := next_ok hc hl (a + 1) s1 (by omega) (by omega)
  have e3 : wrap64 (wrap64 (v * 256) + v2) = v * 256 + v2 := by rw [w64 (x := v * 256) (by omega) (by omega), w64 (by omega) (by omega)]
  rw [if_pos c2, e2, Option.bind_some, if_neg (by omega), e3]
  have hm := Int.tmod_lt_of_pos (v * 256 + v2) (show (0 : Int) < n by omega)
  have hm0 := Int.tmod_nonneg n (show (0 : Int) ≤ v * 256 + v2 by omega)
  exact ⟨_, _, _, rfl, hm0, fun _ => hm, by simp only; omega, by simp only; omega⟩
 ·
  rw [if_neg c2, if_neg (by omega)]
  have hm := Int.tmod_lt_of_pos v (show (0 : Int) < n by omega)
  have hm0 := Int.tmod_nonneg n (show (0 : Int) ≤ v by omega)
  exact ⟨_, _, _, rfl, hm0, fun _ => hm, by simp only; omega, by simp only; omega⟩
theorem among_ok {code : List Int} (hc : Bytes code) (hl : code.length ≤ 65536) (a s : Int) (l : List Int) (hn : 0 < l.length) (h0 : 0 ≤ a) (h1 : a ≤ 100000000) : ∃ v a' s', spec_l1Cur_among.f code a s l = some (v, a', s') ∧ v ∈ l ∧ a ≤ a' ∧ a' ≤ a + 2 := by
 unfold spec_l1Cur_among.f
 obtain ⟨v, a', s', e, hv0, hv1, ha⟩ := pick_ok hc hl a s (l.length : Int) h0 h1
 have hv := hv1 (by omega)
 rw [e, Option.bind_some, if_pos hv0, if_pos hv]
 refine ⟨_, _, _, rfl, ?_, ha⟩
 have e2 : rd l v = l.getD v.toNat 0 := rfl
 have hi : v.toNat < l.length := by omega
 have e3 : l.getD v.toNat 0 = l[v.toNat] := by simp [List.getD, hi]
 rw [e2, e3]
 exact List.getElem_mem _
theorem pickK {code : List Int} (hc : Bytes code) (hl : code.length ≤ 65536) (a s n : Int) (h0 : 0 ≤ a) (h1 : a ≤ 100000000) : Oks (fun _ => spec_l1Cur_pick.f code a s n) (fun r => 0 ≤ r.1 ∧ (0 < n → r.1 < n) ∧ a ≤ r.2.1 ∧ r.2.1 ≤ a + 2) := by
 obtain ⟨v, a', s', e, h⟩ := pick_ok hc hl a s n h0 h1
 exact ⟨_, Ev.some (fun _ => e), h⟩
theorem amongK {code : List Int} (hc : Bytes code) (hl : code.length ≤ 65536) (a s : Int) (l : List Int) (hn : 0 < l.length) (h0 : 0 ≤ a) (h1 : a ≤ 100000000) : Oks (fun _ => spec_l1Cur_among.f code a s l) (fun r => r.1 ∈ l ∧ a ≤ r.2.1 ∧ r.2.1 ≤ a + 2) := by
 obtain ⟨v, a', s', e, h⟩ := among_ok hc hl a s l hn h0 h1
 exact ⟨_, Ev.some (fun _ => e), h⟩
theorem oneK {code : List Int} (hc : Bytes code) (hl : code.length ≤ 65536) (a s n : Int) (h0 : 0 ≤ a) (h1 : a ≤ 100000000) : Oks (fun _ => spec_l1Cur_one.f code a s n) (fun r => a ≤ r.2.1 ∧ r.2.1 ≤ a + 2) := by
 obtain ⟨v, a', s', e, h⟩ := pick_ok hc hl a s n h0 h1
 exact ⟨(v == 0, a', s'), Ev.some (fun _ => by unfold spec_l1Cur_one.f; rw [e]; rfl), h.2.2⟩
end Go.Proofs.Ytlipaiabjcaeiaa.Draw
namespace Go.Proofs.Ytlipaiabjcaeiaa.Draw
open Go Go.RowKit YtlipaiabjcaeiaaW.PrintWords Plain A
open Dec (DP)
variable {code : List Int} (hc : Bytes code) (hl : code.length ≤ 65536)
include hc hl
theorem points_l1 : ∀ (d : Nat) (x3 : List DP) (x6 a s t0 t1 : Int), x3.length + d = 10 → 0 ≤ x6 → x6 < (x3.length : Int) → 0 ≤ a → a ≤ 50000000 + 2 * (10 - d : Int) → Oks (fun k => spec_l1Cur_points.l1 k x3 x6 code a s t0 t1) (fun r => r.1.length ≤ 10 ∧ a ≤ r.2.1 ∧ r.2.1 ≤ a + 2 * (d + 1)) := by
 intro d
 induction d with
 | zero =>
  intro x3 x6 a s t0 t1 h1 h2 h3 h4 h5
  refine Oks.step (fun k => by simp only [spec_l1Cur_points.l1]; rfl) ?_
  refine Oks.bind (pickK hc hl a s 2 h4 (by omega)) ?_
  rintro ⟨v, a1, s1⟩ ⟨g1, g2, g3, g4⟩
  dsimp only at g1 g2 g3 g4 ⊢
  have g5 := g2 (by omega)
  rw [w64 (x := 8 + v) (by omega) (by omega)]
  exact Oks.neg (by omega) (Oks.pos h2 (Oks.pos h3 (Oks.now ⟨by simp; omega, g3, by simp only; omega⟩)))
 | succ d ih =>
  intro x3 x6 a s t0 t1 h1 h2 h3 h4 h5
  refine Oks.step (fun k => by simp only [spec_l1Cur_points.l1]; rfl) ?_
  refine Oks.bind (pickK hc hl a s 2 h4 (by omega)) ?_
  rintro ⟨v, a1, s1⟩ ⟨g1, g2, g3, g4⟩
  dsimp only at g1 g2 g3 g4 ⊢
  refine Oks.ite (fun _ => Oks.pos (by omega) ?_) (fun _ => Oks.pos h2 (Oks.pos h3 (Oks.now ⟨by simp; omega, g3, by simp only; omega⟩)))
  exact (ih _ x6 a1 s1 t0 t1 (by simp; omega) h2 (by simp; omega) (by omega) (by omega)).imp fun r ⟨k1, k2, k3⟩ => ⟨k1, by omega, by omega⟩
theorem points_l0 : ∀ (d : Nat) (x3 : List DP) (x4 a s : Int), 0 < x3.length + d → x3.length + d ≤ 6 → 0 ≤ a → a ≤ 40000000 + 4 * (6 - d : Int) → Oks (fun k => spec_l1Cur_points.l0 k x3 x4 (d : Int) code a s) (fun r => r.1.length ≤ 10 ∧ a ≤ r.2.1 ∧ r.2.1 ≤ a + 4 * d + 40) := by
 intro d
 induction d with
 | zero =>
  intro x3 x4 a s h1 h2 h4 h5
  refine Oks.step (fun k => by simp only [spec_l1Cur_points.l0]; rfl) ?_
  refine Oks.neg (by omega) ?_
  refine Oks.bind (pickK hc hl a s _ h4 (by omega)) ?_
  rintro ⟨k, a1, s1⟩ ⟨g1, g2, g3, g4⟩
  dsimp only at g1 g2 g3 g4 ⊢
  have g5 := g2 (by omega)
  refine Oks.pos g1 (Oks.pos g5 ?_)
  refine Oks.bind (pickK hc hl a1 s1 _ (by omega) (by omega)) ?_
  rintro ⟨v, a2, s2⟩ ⟨e1, e2, e3, e4⟩
  dsimp only at e1 e2 e3 e4 ⊢
  refine Oks.ite (fun _ => Oks.pos (by omega) ?_) (fun _ => Oks.ite (fun _ => ?_) (fun _ => Oks.ite (fun _ => ?_) (fun _ => Oks.ite (fun _ => ?_) (fun _ => ?_))))
  ·
   refine Oks.bind (amongK hc hl a2 s2 _ (by simp) (by omega) (by omega)) ?_
   rintro ⟨u, a3, s3⟩ ⟨_, f3, f4⟩
   exact Oks.now ⟨by simp; omega, by simp only at f3 ⊢; omega, by simp only at f4 ⊢; omega⟩
  ·
   refine Oks.bind (amongK hc hl a2 s2 _ (by simp) (by omega) (by omega)) ?_
   rintro ⟨u, a3, s3⟩ ⟨_, f3, f4⟩
   exact Oks.now ⟨by simp; omega, by simp only at f3 ⊢; omega, by simp only at f4 ⊢; omega⟩
  · exact (points_l1 hc hl (10 - x3.length) x3 k a2 s2 _ _ (by omega) g1 g5 (by omega) (by omega)).imp fun r ⟨k1, k2, k3⟩ => ⟨k1, by omega, by omega⟩
  · exact Oks.pos (by omega) (Oks.now ⟨by simp, by simp only; omega, by simp only; omega⟩)
  · exact Oks.now ⟨by simp; omega, by simp only; omega, by simp only; omega⟩
 | succ d ih =>
  intro x3 x4 a s h1 h2 h4 h5
  refine Oks.step (fun k => by simp only [spec_l1Cur_points.l0]; rfl) ?_
  refine Oks.pos (by omega) ?_
  refine Oks.bind (amongK hc hl a s _ (by simp) h4 (by omega)) ?_
  rintro ⟨u, a1, s1⟩ ⟨_, g3, g4⟩
  dsimp only at g3 g4 ⊢
  refine Oks.pos (by omega) ?_
  refine Oks.bind (amongK hc hl a1 s1 _ (by simp) (by omega) (by omega)) ?_
  rintro ⟨v, a2, s2⟩ ⟨_, e3, e4⟩
  dsimp only at e3 e4 ⊢
  rw [w64 (x := ((d + 1 : Nat) : Int) - 1) (by omega) (by omega), show ((d + 1 : Nat) : Int) - 1 = (d : Int) by omega]
  exact (ih _ _ a2 s2 (by simp; omega) (by simp; omega) (by omega) (by omega)).imp fun r ⟨k1, k2, k3⟩ => ⟨k1, by omega, by omega⟩
theorem pointsK (a s : Int) (h0 : 0 ≤ a) (h1 : a ≤ 30000000) : Oks (fun k => spec_l1Cur_points.f k code a s) (fun r => r.1.length ≤ 10 ∧ a ≤ r.2.1 ∧ r.2.1 ≤ a + 100) := by
 unfold spec_l1Cur_points.f
 refine Oks.bind (amongK hc hl a s _ (by simp) h0 (by omega)) ?_
 rintro ⟨u, a1, s1⟩ ⟨_, g3, g4⟩
 dsimp only at g3 g4 ⊢
 refine Oks.bind (pickK hc hl a1 s1 5 (by omega) (by omega)) ?_
 rintro ⟨v, a2, s2⟩ ⟨e1, e2, e3, e4⟩
 dsimp only at e1 e2 e3 e4 ⊢
 have e5 := e2 (by omega)
 rw [w64 (x := 1 + v) (by omega) (by omega), show 1 + v = (((1 + v).toNat : Nat) : Int) by omega]
 exact (points_l0 hc hl (1 + v).toNat [] u a2 s2 (by simp; omega) (by simp; omega) (by omega) (by omega)).imp fun r ⟨k1, k2, k3⟩ => ⟨k1, by omega, by omega⟩
theorem day11K (a s : Int) (h0 : 0 ≤ a) (h1 : a ≤ 90000000) : Oks (fun _ => spec_l1Cur_day11.f code a s) (fun r => a ≤ r.2.1 ∧ r.2.1 ≤ a + 4) := by
 unfold spec_l1Cur_day11.f
 simp only [Option.bind_some]
 refine Oks.bind (pickK hc hl a s 24 h0 (by omega)) ?_
 rintro ⟨v, a1, s1⟩ ⟨e1, e2, e3, e4⟩
 dsimp only at e1 e2 e3 e4 ⊢
 have e5 := e2 (by omega)
 have q : Int.tdiv v 11 = v / 11 := Int.tdiv_eq_ediv_of_nonneg e1
 rw [q, w64 (x := v / 11) (by omega) (by omega), w64 (x := 7 + v / 11) (by omega) (by omega)]
 refine Oks.pos (by omega) (Oks.pos (by simp; omega) ?_)
 refine Oks.bind (amongK hc hl a1 s1 _ (by simp; omega) (by omega) (by omega)) ?_
 rintro ⟨u, a2, s2⟩ ⟨_, g3, g4⟩
 exact Oks.now ⟨by simp only at g3 ⊢; omega, by simp only at g4 ⊢; omega⟩
end Go.Proofs.Ytlipaiabjcaeiaa.Draw
namespace Go.Proofs.Ytlipaiabjcaeiaa.Draw
open Go Go.RowKit YtlipaiabjcaeiaaW.PrintWords Plain A
open Dec (DP)
variable {code : List Int} (hc : Bytes code) (hl : code.length ≤ 65536)
include hc hl
theorem drawAdd : Oks (fun k => spec_DrawAddPoint.f k code) (fun r => r.1.length ≤ 10) := by
 unfold spec_DrawAddPoint.f
 refine Oks.bind (pointsK hc hl 0 0 (by omega) (by omega)) ?_
 rintro ⟨l, a1, s1⟩ ⟨e1, e2, e3⟩
 dsimp only at e1 e2 e3 ⊢
 refine Oks.bind (day11K hc hl a1 s1 (by omega) (by omega)) ?_
 rintro ⟨d, a2, s2⟩ ⟨f1, f2⟩
 dsimp only at f1 f2 ⊢
 refine Oks.bind (amongK hc hl a2 s2 _ (by simp) (by omega) (by omega)) ?_
 rintro ⟨u, a3, s3⟩ ⟨_, g3, g4⟩
 dsimp only at g3 g4 ⊢
 refine Oks.ite (fun hp => ?_) (fun _ => Oks.now e1)
 refine Oks.bind (oneK hc hl a3 s3 3 (by omega) (by omega)) ?_
 rintro ⟨o, a4, s4⟩ ⟨h3, h4⟩
 dsimp only at h3 h4 ⊢
 refine Oks.ite (fun _ => ?_) (fun _ => Oks.now e1)
 refine Oks.bind (pickK hc hl a4 s4 _ (by omega) (by omega)) ?_
 rintro ⟨v, a5, s5⟩ ⟨k1, k2, k3, k4⟩
 exact Oks.pos k1 (Oks.pos (k2 hp) (Oks.now e1))
theorem drawNeed : Oks (fun k => spec_DrawNeedlessPoints.f k code) (fun r => r.length ≤ 10) := by
 unfold spec_DrawNeedlessPoints.f
 refine Oks.bind (pointsK hc hl 0 0 (by omega) (by omega)) ?_
 rintro ⟨l, a1, s1⟩ ⟨e1, e2, e3⟩
 dsimp only at e1 e2 e3 ⊢
 exact Oks.ite (fun _ => Oks.pos (by omega) (Oks.now (by simp; omega))) (fun _ => Oks.now e1)
theorem drawOn : Oks (fun k => spec_DrawDeclinationOn.f k code) (fun r => r.1.length ≤ 10) := by
 unfold spec_DrawDeclinationOn.f
 refine Oks.bind (pointsK hc hl 0 0 (by omega) (by omega)) ?_
 rintro ⟨l, a1, s1⟩ ⟨e1, e2, e3⟩
 dsimp only at e1 e2 e3 ⊢
 refine Oks.bind (day11K hc hl a1 s1 (by omega) (by omega)) ?_
 rintro ⟨d, a2, s2⟩ _
 exact Oks.now e1
end Go.Proofs.Ytlipaiabjcaeiaa.Draw
namespace Go.Proofs.Ytlipaiabjcaeiaa.Dec
open Go.RowKit YtlipaiabjcaeiaaW.PrintWords Plain A
def onB (l : List DP) (day : Int) : Bool := okL l && inR day 0 999
theorem onB_iff {l : List DP} {day : Int} : onB l day = true ↔ Pts l ∧ 0 ≤ day ∧ day ≤ 999 := by
 unfold onB
 rw [Bool.and_eq_true, okL_iff, inR_iff]
theorem implDeclinationOn_ev (l : List DP) (hb : l.length ≤ 140737488351232) (day : Int) : Ev (fun k => impl_DeclinationOn.f k l day) (if onB l day = true then (decl l day, true) else (0, false)) := by
 obtain ⟨K1, h1⟩ := arePoints_ev l hb
 by_cases hc : onB l day = true
 ·
  rw [if_pos hc]
  obtain ⟨hp, hd⟩ := onB_iff.1 hc
  obtain ⟨K2, h2⟩ := decl_ev hp hd
  have e1 := (okL_iff l).2 hp
  have e2 : inR day 0 999 = true := inR_iff.2 hd
  refine ⟨max K1 K2, fun k hk => ?_⟩
  simp [impl_DeclinationOn.f, h1 k (by omega), h2 k (by omega), isDay_eq, e1, e2]
 ·
  rw [if_neg hc]
  refine ⟨K1, fun k hk => ?_⟩
  unfold onB at hc
  cases e1 : okL l <;> cases e2 : inR day 0 999 <;> simp [e1, e2] at hc <;> simp [impl_DeclinationOn.f, h1 k (by omega), isDay_eq, e1, e2]
theorem specDeclinationOn_ev (l : List DP) (hb : l.length ≤ 140737488351232) (day : Int) : Ev (fun k => spec_DeclinationOn.f k l day) (if onB l day = true then (decl l day, true) else (0, false)) := by
 obtain ⟨K1, h1⟩ := good_ev l hb
 by_cases hc : onB l day = true
 ·
  rw [if_pos hc]
  obtain ⟨hp, hd⟩ := onB_iff.1 hc
  obtain ⟨K2, h2⟩ := on_ev hp hd
  have e1 := (okL_iff l).2 hp
  have e2 : inR day 0 999 = true := inR_iff.2 hd
  refine ⟨max K1 K2, fun k hk => ?_⟩
  simp [spec_DeclinationOn.f, h1 k (by omega), h2 k (by omega), day_eq, e1, e2]
 ·
  rw [if_neg hc]
  refine ⟨K1, fun k hk => ?_⟩
  unfold onB at hc
  cases e1 : okL l <;> cases e2 : inR day 0 999 <;> simp [e1, e2] at hc <;> simp [spec_DeclinationOn.f, h1 k (by omega), day_eq, e1, e2]
def fin (p : Int × Int) : Int × Int × Bool := if p.1 < 0 then (0, 0, false) else (p.1, p.2, true)
theorem okL_row (l : List DP) (h : 0 < l.length) : okL l = rowOk l := by
 unfold okL rowOk
 rw [decide_eq_true h, Bool.true_and]
 congr 1
 exact decide_eq_decide.2 (by omega)
theorem rowOk_nil : rowOk [] = true := rfl
def specT (l : List DP) (p : DP) (i : Nat) : List DP := if i < l.length ∧ dayAt l i = p.f0 then l.take i ++ p :: l.drop (i + 1) else l.take i ++ p :: l.drop i
theorem specT_eq (l : List DP) (p : DP) : specT l p (lowB l p.f0) = addT l p := by
 unfold specT addT insL
 split
 ·
  rename_i h
  rw [List.set_eq_take_append_cons_drop, if_pos h.1]
 · rfl
theorem specT_len (l : List DP) (p : DP) (i : Nat) (h : i ≤ l.length) : (specT l p i).length ≤ l.length + 1 := by
 unfold specT
 split <;> simp <;> omega
theorem lowB_lt : ∀ (l : List DP) (d : Int) (t : Nat), t < lowB l d → dayAt l t < d
 | [], _, _, h => by simp [lowB] at h
 | x :: r, d, t, h => by
  unfold lowB at h
  split at h
  ·
   cases t with
   | zero => assumption
   | succ t => exact lowB_lt r d t (by omega)
  · cases h
theorem lowB_at : ∀ (l : List DP) (d : Int), lowB l d < l.length → d ≤ dayAt l (lowB l d)
 | [], _, h => by cases h
 | x :: r, d, h => by
  unfold lowB at h ⊢
  split
  ·
   rename_i hx
   rw [if_pos hx] at h
   have := lowB_at r d (by simpa using h)
   exact this
  ·
   rename_i hx
   have e : dayAt (x :: r) 0 = x.f0 := rfl
   rw [e]
   omega
theorem addT_bad (l : List DP) (p : DP) (h : ¬ inR p.f0 0 999 = true) : okL (addT l p) = false := by
 rw [← specT_eq]
 have hi := lowB_le l p.f0
 generalize lowB l p.f0 = i at *
 cases hk : okL (specT l p i) with
 | false => rfl
 | true =>
  refine absurd (inR_iff.2 ?_) h
  have hp := (okL_iff _).1 hk
  have hil : i < (specT l p i).length := by
   unfold specT
   split <;> simp <;> omega
  have := hp.day i hil
  have e : dayAt (specT l p i) i = p.f0 := by
   unfold dayAt specT
   split <;> simp [List.getD, List.getElem?_append, hi]
  rw [e] at this
  exact this
theorem tail_ev (out : List DP) (hb : out.length ≤ 140737488351232) : Ev (fun k => (spec_l11Good.f k out).bind fun t => if t = true then Option.some (out, true) else Option.some (([] : List DP), false)) (if okL out = true then (out, true) else ([], false)) := by
 refine Ev.bind (good_ev out hb) ?_
 cases okL out
 · exact Ev.neg (by decide) (Ev.now _)
 · exact Ev.pos rfl (Ev.now _)
theorem j3_ev (l : List DP) (p : DP) (i : Nat) (hb : l.length ≤ 1073741824) (hi : i ≤ l.length) (b : Bool) (hbb : b = decide (i < l.length ∧ dayAt l i = p.f0)) : Ev (fun k => spec_AddPoint.j3 k l (i : Int) (l.drop i) b p.f0 p.f1) (if okL (specT l p i) = true then (specT l p i, true) else ([], false)) := by
 have hlen := specT_len l p i hi
 cases b with
 | true =>
  have h := of_decide_eq_true hbb.symm
  have e : specT l p i = ([] ++ l.take i) ++ [p] ++ (l.drop i).drop 1 := by unfold specT; rw [if_pos h, List.drop_drop]; simp
  rw [e] at hlen ⊢
  refine Ev.step (f := fun k => (spec_l11Good.f k (([] ++ l.take i) ++ [p] ++ (l.drop i).drop 1)).bind fun t => if t = true then Option.some ((([] ++ l.take i) ++ [p] ++ (l.drop i).drop 1), true) else Option.some (([] : List DP), false)) (fun k => ?_) (tail_ev _ (by omega))
  simp only [spec_AddPoint.j3, Option.bind_some, if_true, Int.toNat_natCast]
  rw [if_pos (by rw [List.length_drop]; omega), if_pos (by omega), if_pos (by omega), if_pos (by simp; omega), if_pos (by simp; omega), if_pos (by simp; omega)]
 | false =>
  have h := of_decide_eq_false hbb.symm
  have e : specT l p i = ([] ++ l.take i) ++ [p] ++ l.drop i := by unfold specT; rw [if_neg h]; simp
  rw [e] at hlen ⊢
  refine Ev.step (f := fun k => (spec_l11Good.f k (([] ++ l.take i) ++ [p] ++ l.drop i)).bind fun t => if t = true then Option.some ((([] ++ l.take i) ++ [p] ++ l.drop i), true) else Option.some (([] : List DP), false)) (fun k => ?_) (tail_ev _ (by omega))
  simp only [spec_AddPoint.j3, Option.bind_some, Bool.false_eq_true, if_false, Int.toNat_natCast]
  rw [if_pos (by omega), if_pos (by omega), if_pos (by simp; omega), if_pos (by simp; omega), if_pos (by simp; omega)]
theorem j2_ev (l : List DP) (p : DP) (i : Nat) (hb : l.length ≤ 1073741824) (hi : i ≤ l.length) : Ev (fun k => spec_AddPoint.j2 k l (i : Int) p.f0 p.f1) (if okL (specT l p i) = true then (specT l p i, true) else ([], false)) := by
 have hd : (l.drop i).length = l.length - i := List.length_drop
 by_cases h : i < l.length
 ·
  have ex : (rd_T56 (l.drop i) 0).f0 = dayAt l i := by
   show ((l.drop i).getD 0 z).f0 = (l.getD i z).f0
   simp [List.getD]
  refine Ev.step (fun k => ?_) (j3_ev l p i hb hi (dayAt l i == p.f0) ?_)
  ·
   simp only [spec_AddPoint.j2, Option.bind_some, Int.toNat_natCast]
   rw [if_pos (by omega), if_pos (by omega), if_pos (by omega), if_pos (by omega), ex]
  ·
   rw [show (dayAt l i == p.f0) = decide (dayAt l i = p.f0) from rfl]
   exact decide_eq_decide.2 ⟨fun h2 => ⟨h, h2⟩, fun h2 => h2.2⟩
 ·
  refine Ev.step (fun k => ?_) (j3_ev l p i hb hi false (decide_eq_false (fun h2 => h h2.1)).symm)
  simp only [spec_AddPoint.j2, Option.bind_some, Int.toNat_natCast]
  rw [if_pos (by omega), if_pos (by omega), if_neg (by omega)]
theorem l0_ev (l : List DP) (p : DP) (hb : l.length ≤ 1073741824) : ∀ (d i : Nat), i + d = lowB l p.f0 → Ev (fun k => spec_AddPoint.l0 k l (i : Int) p.f0 p.f1) (if okL (specT l p (lowB l p.f0)) = true then (specT l p (lowB l p.f0), true) else ([], false)) := by
 have hle := lowB_le l p.f0
 intro d
 induction d with
 | zero =>
  intro i hi
  have ex : (rd_T56 l (i : Int)).f0 = dayAt l i := rfl
  have h := j2_ev l p i hb (by omega)
  rw [← hi]
  refine Ev.step (fun k => ?_) h
  simp only [spec_AddPoint.l0]
  by_cases hl : i < l.length
  ·
   have := lowB_at l p.f0 (by omega)
   rw [← hi] at this
   rw [if_pos (by omega), if_pos (by omega), ex, if_neg (by simp only [Nat.add_zero] at this; omega)]
  · rw [if_neg (by omega)]
 | succ d ih =>
  intro i hi
  have ex : (rd_T56 l (i : Int)).f0 = dayAt l i := rfl
  have h1 := lowB_lt l p.f0 i (by omega)
  have h2 := ih (i + 1) (by omega)
  refine Ev.step (fun k => ?_) h2
  simp only [spec_AddPoint.l0]
  rw [if_pos (by omega), if_pos (by omega), ex, if_pos h1, w64 (x := (i : Int) + 1) (by omega) (by omega)]
  rfl
theorem specAdd_ev (l : List DP) (p : DP) (hb : l.length ≤ 1073741824) : Ev (fun k => spec_AddPoint.f k l p.f0 p.f1) (addM l p) := by
 unfold spec_AddPoint.f
 refine Ev.bind (good_ev l (by omega)) ?_
 have main : Ev (fun k => spec_AddPoint.l0 k l 0 p.f0 p.f1) (if okL (addT l p) = true then (addT l p, true) else ([], false)) := by
  have := l0_ev l p hb (lowB l p.f0) 0 (by omega)
  rw [specT_eq] at this
  exact this
 have goes : rowOk l = true → Ev (fun k => spec_AddPoint.l0 k l 0 p.f0 p.f1) (addM l p) := fun h => by
  unfold addM
  rw [if_pos h]
  by_cases hd : inR p.f0 0 999 = true
  · rw [if_pos hd]; exact main
  ·
   rw [if_neg hd]
   rw [if_neg (by rw [addT_bad l p hd]; decide)] at main
   exact main
 cases hk : okL l with
 | true =>
  refine Ev.pos rfl (Ev.step (f := fun k => spec_AddPoint.l0 k l 0 p.f0 p.f1) (fun k => by simp only [spec_AddPoint.j0, Bool.false_eq_true, if_false]) (goes ?_))
  rw [← okL_row l ((okL_iff l).1 hk).pos]; exact hk
 | false =>
  refine Ev.neg (by decide) ?_
  by_cases h0 : 0 < l.length
  ·
   rw [decide_eq_true (by omega)]
   have e : addM l p = ([], false) := by unfold addM; rw [if_neg (by rw [← okL_row l h0, hk]; decide)]
   rw [e]
   exact Ev.step (f := fun _ => Option.some (([] : List DP), false)) (fun k => by simp only [spec_AddPoint.j0, if_true]) (Ev.now _)
  ·
   rw [decide_eq_false (by omega)]
   obtain rfl : l = [] := List.eq_nil_of_length_eq_zero (by omega)
   exact Ev.step (f := fun k => spec_AddPoint.l0 k [] 0 p.f0 p.f1) (fun k => by simp only [spec_AddPoint.j0, Bool.false_eq_true, if_false]) (goes rowOk_nil)
theorem addM_len (l : List DP) (p : DP) : (addM l p).1.length ≤ 9 := by
 unfold addM
 split
 ·
  split
  ·
   split
   ·
    rename_i h
    have := ((okL_iff _).1 h).few
    simp only; omega
   · simp
  · simp
 · simp
theorem same_loop {l r : List DP} (hl : Pts l) (hr : Pts r) : ∀ (e d : Nat), d + e = 1000 → needTo l r d = true → Ev (fun k => spec_l11Same.l0 k l r (d : Int)) (needTo l r 1000) := by
 intro e
 induction e with
 | zero =>
  intro d hd ht
  obtain rfl : d = 1000 := by omega
  rw [ht]
  refine Ev.step (f := fun _ => some true) (fun k => ?_) (Ev.now _)
  conv => lhs; unfold spec_l11Same.l0
  rw [if_neg (by omega)]
 | succ e ih =>
  intro d hd ht
  have hw : wrap64 ((d : Int) + 1) = ((d + 1 : Nat) : Int) := by unfold wrap64; omega
  refine Ev.step (f := fun k => (spec_l11On.f k l (d : Int)).bind fun t324 => ((spec_l11On.f k r (d : Int)).bind fun t325 => (if t324 = t325 then (spec_l11Same.l0 k l r ((d + 1 : Nat) : Int)) else (some false)))) (fun k => ?_) ?_
  ·
   conv => lhs; unfold spec_l11Same.l0
   rw [if_pos (by omega), hw]
  ·
   refine Ev.bind (on_ev hl (day := (d : Int)) (by omega)) (Ev.bind (on_ev hr (day := (d : Int)) (by omega)) ?_)
   by_cases c : decl l (d : Int) = decl r (d : Int)
   ·
    refine Ev.pos c (ih (d + 1) (by omega) ?_)
    show (needTo l r d && decide (decl l (d : Int) = decl r (d : Int))) = true
    rw [ht, decide_eq_true c]; rfl
   ·
    have hf : needTo l r (d + 1) = false := by
     show (needTo l r d && decide (decl l (d : Int) = decl r (d : Int))) = false
     rw [decide_eq_false c, Bool.and_false]
    have h2 := needTo_false hf e
    rw [show d + 1 + e = 1000 by omega] at h2
    rw [h2]
    exact Ev.neg c (Ev.now _)
theorem need_loop {l : List DP} (hl : Pts l) : ∀ (d i : Nat), i + d = l.length → Ev (fun k => spec_NeedlessPoints.l0 k l (needL l i) (i : Int)) (needL l l.length, true) := by
 have h8 := hl.few
 intro d
 induction d with
 | zero =>
  intro i hi
  obtain rfl : i = l.length := by omega
  refine Ev.step (f := fun k => spec_NeedlessPoints.j1 k l (needL l l.length) (l.length : Int) false) (fun k => ?_) ?_
  ·
   conv => lhs; unfold spec_NeedlessPoints.l0
   rw [if_neg (by omega)]
  ·
   refine Ev.step (f := fun _ => some (needL l l.length, true)) (fun k => ?_) (Ev.now _)
   simp only [spec_NeedlessPoints.j1, Bool.false_eq_true, if_false]
 | succ d ih =>
  intro i hi
  have hlt : i < l.length := by omega
  have hll := lessP_len l i hlt
  have hrec := ih (i + 1) (by omega)
  have hnx : needL l (i + 1) = if needB l i = true then needL l i ++ [(i : Int)] else needL l i := rfl
  rw [hnx] at hrec
  have hnl := needL_len l i
  have hw : wrap64 ((i : Int) + 1) = ((i + 1 : Nat) : Int) := by unfold wrap64; omega
  refine Ev.step (f := fun k => spec_NeedlessPoints.j1 k l (needL l i) (i : Int) (decide ((l.length : Int) > 1))) (fun k => ?_) ?_
  ·
   conv => lhs; unfold spec_NeedlessPoints.l0
   rw [if_pos (by omega)]
  ·
   by_cases c : (l.length : Int) > 1
   ·
    rw [decide_eq_true c]
    have hpr : Pts (lessP l i) := lessP_pts hl i hlt (by omega)
    have h1 : (l.take i).length = i := by rw [List.length_take]; omega
    have h2 : (l.drop (i + 1)).length = l.length - (i + 1) := List.length_drop
    refine Ev.step (f := fun k => (spec_l11Same.f k l (lessP l i)).bind fun t347 => (if t347 = true then (spec_NeedlessPoints.l0 k l (needL l i ++ [(i : Int)]) ((i + 1 : Nat) : Int)) else (spec_NeedlessPoints.l0 k l (needL l i) ((i + 1 : Nat) : Int)))) (fun k => ?_) ?_
    ·
     conv => lhs; unfold spec_NeedlessPoints.j1
     rw [if_pos rfl, Option.bind_some, if_pos (by omega), if_pos (by omega), Option.bind_some, Int.toNat_natCast, if_pos (by simp only [List.length_nil]; omega), Option.bind_some, List.nil_append, hw, if_pos (by omega), if_pos (by omega), Option.bind_some, Int.toNat_natCast, if_pos (by omega), if_pos (by omega)]
     rfl
    ·
     refine Ev.bind (same_loop hl hpr 1000 0 (by omega) (decide_eq_true (by omega))) ?_
     show Ev (fun k => if needB l i = true then _ else _) _
     by_cases q : needB l i = true
     ·
      rw [if_pos q] at hrec
      exact Ev.pos q hrec
     ·
      rw [if_neg q] at hrec
      exact Ev.neg q hrec
   ·
    rw [decide_eq_false c]
    have hl1 : l.length = 1 := by omega
    obtain rfl : i = 0 := by omega
    have hz : needB l 0 = false := by
     have h0 : needTo l (lessP l 0) 0 = false := decide_eq_false (by omega)
     have := needTo_false h0 1000
     rw [Nat.zero_add] at this
     exact this
    have he : needL l l.length = [] := by
     rw [hl1]
     show (if needB l 0 = true then _ else _) = _
     rw [hz]; rfl
    rw [he]
    refine Ev.step (f := fun _ => some (([] : List Int), true)) (fun k => ?_) (Ev.now _)
    simp only [spec_NeedlessPoints.j1, Bool.false_eq_true, if_false]
    rfl
theorem specNeed_ev (l : List DP) (hb : l.length ≤ 140737488351232) : Ev (fun k => spec_NeedlessPoints.f k l) (needM l) := by
 refine Ev.bindc rfl (Ev.bind (good_ev l hb) ?_)
 unfold needM
 by_cases hv : okL l = true
 ·
  rw [if_pos hv]
  exact Ev.pos hv (need_loop ((okL_iff l).mp hv) l.length 0 (by omega))
 ·
  rw [if_neg hv]
  exact Ev.neg hv (Ev.now _)
end Go.Proofs.Ytlipaiabjcaeiaa.Dec
namespace Go.Proofs.Ytlipaiabjcaeiaa.Dec
open Go.RowKit YtlipaiabjcaeiaaW.PrintWords Plain A Draw
theorem rIntsP_ev (l : List Int) (hb : l.length ≤ 140737488351232) : Ev (fun k => laws_rInts.f k l l) true := by
 unfold laws_rInts.f
 refine Ev.pos rfl ?_
 exact eq_all laws_rInts.l0 (fun k x0 x4 h0 => by
  simp only [laws_rInts.l0, if_true]
  by_cases h : x4 < (x0.length : Int)
  · rw [if_pos h, if_pos h0, if_pos h, if_pos h]
  · rw [if_neg h, if_neg h]) l hb
theorem rPoints_ev (l : List DP) (hb : l.length ≤ 140737488351232) : Ev (fun k => laws_rPoints.f k l l) true := by
 unfold laws_rPoints.f
 refine Ev.pos rfl ?_
 exact eq_all laws_rPoints.l0 (fun k x0 x4 h0 => by
  simp only [laws_rPoints.l0, beq_self_eq_true, Bool.not_true, Bool.or_self, Bool.false_eq_true, if_false]
  by_cases h : x4 < (x0.length : Int)
  · rw [if_pos h, if_pos h0, if_pos h, if_pos h]
  · rw [if_neg h, if_neg h]) l hb
theorem scan_at {l : List DP} (h : Pts l) {j : Nat} (hj : j < l.length) : ∀ (d i : Nat), 0 < i → i ≤ j → i + d = l.length → scan l (dayAt l j) i d = tenAt l j
 | 0, i, h0, h1, h2 => by omega
 | d + 1, i, h0, h1, h2 => by
  rw [scan]
  by_cases e : i = j
  ·
   subst e
   rw [if_pos (Int.le_refl _)]
   exact interp_at h h0 hj
  ·
   have := h.lt (j - i - 1) i j (by omega) hj
   rw [if_neg (by omega)]
   exact scan_at h hj d (i + 1) (by omega) (by omega) (by omega)
theorem decl_at {l : List DP} (h : Pts l) {j : Nat} (hj : j < l.length) : decl l (dayAt l j) = tenAt l j := by
 unfold decl
 by_cases e : j = 0
 ·
  subst e
  rw [if_pos (Int.le_refl _)]
 ·
  have := h.lt (j - 1) 0 j (by omega) hj
  rw [if_neg (by omega)]
  exact scan_at h hj (l.length - 1) 1 (by omega) (by omega) (by omega)
theorem addT_at (l : List DP) (p : DP) : lowB l p.f0 < (addT l p).length ∧ dayAt (addT l p) (lowB l p.f0) = p.f0 ∧ tenAt (addT l p) (lowB l p.f0) = p.f1 := by
 have hi := lowB_le l p.f0
 rw [← specT_eq]
 generalize lowB l p.f0 = i at *
 refine ⟨?_, ?_, ?_⟩
 ·
  unfold specT
  split <;> simp <;> omega
 ·
  unfold dayAt specT
  split <;> simp [List.getD, List.getElem?_append, hi]
 ·
  unfold tenAt specT
  split <;> simp [List.getD, List.getElem?_append, hi]
theorem needTo_at {l r : List DP} : ∀ (n : Nat), needTo l r n = true → ∀ d, d < n → decl l (d : Int) = decl r (d : Int)
 | 0, _, d, hd => by omega
 | n + 1, h, d, hd => by
  have h2 : (needTo l r n && decide (decl l (n : Int) = decl r (n : Int))) = true := h
  rw [Bool.and_eq_true] at h2
  by_cases e : d = n
  · subst e; exact of_decide_eq_true h2.2
  · exact needTo_at n h2.1 d (by omega)
theorem needB_facts {l : List DP} {j : Nat} (h : needB l j = true) : 0 < (lessP l j).length ∧ ∀ d : Nat, d < 1000 → decl l (d : Int) = decl (lessP l j) (d : Int) := by
 have st : ∀ n : Nat, n = 1000 → needB l j = needTo l (lessP l j) n := fun n hn => by rw [hn]; rfl
 obtain ⟨n, hn⟩ : ∃ n : Nat, n = 1000 := ⟨_, rfl⟩
 rw [st n hn] at h
 rw [← hn]
 exact ⟨needTo_pos h, needTo_at n h⟩
theorem needL_mem {l : List DP} {x : Int} (n : Nat) : x ∈ needL l n → ∃ j : Nat, j < n ∧ x = (j : Int) ∧ needB l j = true := by
 induction n with
 | zero =>
  intro h
  have e : needL l 0 = [] := rfl
  rw [e] at h
  exact absurd h (List.not_mem_nil)
 | succ n ih =>
  intro h
  have st : needL l (n + 1) = if needB l n = true then needL l n ++ [(n : Int)] else needL l n := rfl
  rw [st] at h
  generalize hq : needB l n = b at h
  cases b with
  | true =>
   rw [if_pos rfl] at h
   rcases List.mem_append.1 h with h | h
   ·
    obtain ⟨j, h1, h2⟩ := ih h
    exact ⟨j, by omega, h2⟩
   · exact ⟨n, by omega, List.mem_singleton.1 h, hq⟩
  | false =>
   rw [if_neg (by decide)] at h
   obtain ⟨j, h1, h2⟩ := ih h
   exact ⟨j, by omega, h2⟩
theorem lastP (code : List Int) (hc : Bytes code) (hl : code.length ≤ 65536) : Ev (fun k => (spec_DrawDeclinationOn.f k code).bind fun bt => ((impl_DeclinationOn.f k bt.1 bt.2).bind fun b1 => ((spec_DeclinationOn.f k bt.1 bt.2).bind fun b2 => (if b1.1 = b2.1 then (some (b1.2 == b2.2)) else (some false))))) true := by
 obtain ⟨⟨l, day⟩, hD, hn⟩ := drawOn hc hl
 dsimp only at hn
 refine Ev.bind hD (Ev.bind (implDeclinationOn_ev l (by omega) day) (Ev.bind (specDeclinationOn_ev l (by omega) day) (Ev.pos rfl ?_)))
 rw [beq_self_eq_true]
 exact Ev.now _
theorem l1_law (code : List Int) (l r : List DP) (N : List Int) (i : Nat) (hp : Pts l) (hr : Pts r) (hd : ∀ d : Nat, d < 1000 → decl l (d : Int) = decl r (d : Int)) (hnext : Ev (fun k => laws_FnPoints.l0 k code l N (wrap64 ((i : Int) + 1))) true) : ∀ (e d : Nat), d + 37 * e ≥ 1000 → d ≤ 1036 → Ev (fun k => laws_FnPoints.l1 k code l N (i : Int) r (d : Int)) true := by
 have hf := hp.few
 have hg := hr.few
 have stop : ∀ d : Nat, 1000 ≤ d → Ev (fun k => laws_FnPoints.l1 k code l N (i : Int) r (d : Int)) true := fun d h =>
  Ev.step (fun k => by simp only [laws_FnPoints.l1]; rw [if_neg (by omega)]) hnext
 intro e
 induction e with
 | zero => intro d h1 h2; exact stop d (by omega)
 | succ e ih =>
  intro d h1 h2
  by_cases hd1 : 1000 ≤ d
  · exact stop d hd1
  have i1 := implDeclinationOn_ev l (by omega) (d : Int)
  have i2 := implDeclinationOn_ev r (by omega) (d : Int)
  rw [if_pos (onB_iff.2 ⟨hp, by omega, by omega⟩)] at i1
  rw [if_pos (onB_iff.2 ⟨hr, by omega, by omega⟩)] at i2
  refine Ev.step (fun k => by simp only [laws_FnPoints.l1]; rfl) ?_
  refine Ev.pos (by omega) (Ev.bind i1 (Ev.bind i2 (Ev.pos rfl (Ev.pos rfl (Ev.pos (hd d (by omega)) ?_)))))
  rw [w64 (x := (d : Int) + 37) (by omega) (by omega)]
  exact ih (d + 37) (by omega) (by omega)
theorem l0_law (code : List Int) (hc : Bytes code) (hl : code.length ≤ 65536) (l : List DP) (N : List Int) (hb : l.length ≤ 10) (hN : N.length ≤ 10) (hm : ∀ x ∈ N, Pts l ∧ ∃ j : Nat, j < l.length ∧ x = (j : Int) ∧ 0 < (lessP l j).length ∧ ∀ d : Nat, d < 1000 → decl l (d : Int) = decl (lessP l j) (d : Int)) : ∀ (e i : Nat), i + e = N.length → Ev (fun k => laws_FnPoints.l0 k code l N (i : Int)) true := by
 intro e
 induction e with
 | zero =>
  intro i hi
  refine Ev.step (fun k => by simp only [laws_FnPoints.l0]; rw [if_neg (by omega)]) (lastP code hc hl)
 | succ e ih =>
  intro i hi
  have hil : i < N.length := by omega
  have er : rd N (i : Int) = N[i] := by
   show N.getD (i : Int).toNat 0 = _
   simp [List.getD, hil]
  obtain ⟨hp, j, hj, ej, hpos, hsm⟩ := hm N[i] (List.getElem_mem hil)
  have hr := lessP_pts hp j hj hpos
  have hlen := lessP_len l j hj
  have hnext : Ev (fun k => laws_FnPoints.l0 k code l N (wrap64 ((i : Int) + 1))) true := by
   rw [w64 (x := (i : Int) + 1) (by omega) (by omega)]
   exact ih (i + 1) (by omega)
  have h1 : Ev (fun k => laws_FnPoints.l1 k code l N (i : Int) (lessP l j) 0) true := l1_law code l (lessP l j) N i hp hr hsm hnext 30 0 (by omega) (by omega)
  have e1 : ([] ++ l.take ((j : Int)).toNat ++ l.drop ((j : Int) + 1).toNat : List DP) = lessP l j := by
   rw [Int.toNat_natCast, show ((j : Int) + 1).toNat = j + 1 by omega]
   rfl
  refine Ev.step (fun k => ?_) h1
  rw [laws_FnPoints.l0]
  rw [er, ej]
  rw [if_pos (by omega), if_pos (by omega)]
  rw [Option.bind_some]
  rw [if_pos (show (0 : Int) ≤ (j : Int) by omega), if_pos (show (j : Int) ≤ (l.length : Int) by omega)]
  rw [Option.bind_some, if_pos (show ([] : List DP).length + (l.take ((j : Int)).toNat).length < 8796093022208 by rw [List.length_take, List.length_nil]; omega), Option.bind_some, w64 (x := (j : Int) + 1) (by omega) (by omega), if_pos (show (0 : Int) ≤ (j : Int) + 1 by omega), if_pos (show (j : Int) + 1 ≤ (l.length : Int) by omega), Option.bind_some, if_pos (show (([] : List DP) ++ l.take ((j : Int)).toNat).length + (l.drop ((j : Int) + 1).toNat).length < 8796093022208 by rw [List.length_append, List.length_take, List.length_drop, List.length_nil]; omega)]
  rw [e1]
theorem needM_mem (l : List DP) (x : Int) (h : x ∈ (needM l).1) : Pts l ∧ ∃ j : Nat, j < l.length ∧ x = (j : Int) ∧ 0 < (lessP l j).length ∧ ∀ d : Nat, d < 1000 → decl l (d : Int) = decl (lessP l j) (d : Int) := by
 unfold needM at h
 split at h
 ·
  rename_i hk
  obtain ⟨j, h1, h2, h3⟩ := needL_mem _ h
  exact ⟨(okL_iff l).1 hk, j, h1, h2, needB_facts h3⟩
 · cases h
theorem j1_points (code : List Int) (hc : Bytes code) (hl : code.length ≤ 65536) : Ev (fun k => laws_FnPoints.j1 k code) true := by
 obtain ⟨l, hD, hn⟩ := drawNeed hc hl
 have hi : impl_NeedlessPoints.f l = some (needM l) := by unfold impl_NeedlessPoints.f; rw [if_pos (by omega)]
 have hs := specNeed_ev l (by omega)
 have hm := needM_mem l
 have hlen : (needM l).1.length ≤ 10 := by
  unfold needM
  split
  ·
   have := needL_len l l.length
   simp only
   omega
  · simp
 generalize needM l = r at *
 refine Ev.step (fun k => by simp only [laws_FnPoints.j1]; rfl) ?_
 refine Ev.bind hD (Ev.bindc hi (Ev.bind hs (Ev.neg (by simp) (Ev.bind (rIntsP_ev r.1 (by omega)) ?_))))
 refine Ev.step (f := fun k => laws_FnPoints.l0 k code l r.1 0) (fun k => by simp only [laws_FnPoints.j2, Bool.not_true, Bool.false_eq_true, if_false]) ?_
 exact l0_law code hc hl l r.1 hn hlen hm r.1.length 0 (by omega)
theorem j0_points (code : List Int) (hc : Bytes code) (hl : code.length ≤ 65536) (l : List DP) (hn : l.length ≤ 10) (p : DP) : Ev (fun k => laws_FnPoints.j0 k code (addM l p).1 (addM l p).2 false p.f0 p.f1) true := by
 have h1 := j1_points code hc hl
 unfold addM
 have no : Ev (fun k => laws_FnPoints.j0 k code ([] : List DP) false false p.f0 p.f1) true :=
  Ev.step (f := fun k => laws_FnPoints.j1 k code) (fun k => by simp only [laws_FnPoints.j0, Bool.false_eq_true, if_false]) h1
 split
 ·
  split
  ·
   rename_i hd
   split
   ·
    rename_i hk
    have hp := (okL_iff _).1 hk
    have hf := hp.few
    obtain ⟨g1, g2, g3⟩ := addT_at l p
    have hday := inR_iff.1 hd
    have e := decl_at hp g1
    rw [g2, g3] at e
    have i1 := implDeclinationOn_ev (addT l p) (by omega) p.f0
    rw [if_pos (onB_iff.2 ⟨hp, hday⟩), e] at i1
    have i2 := arePoints_ev (addT l p) (by omega)
    rw [hk] at i2
    refine Ev.step (fun k => by simp only [laws_FnPoints.j0, Bool.false_eq_true, if_false, if_true]; rfl) ?_
    exact Ev.bind i1 (Ev.pos rfl (Ev.pos rfl (Ev.bind i2 (Ev.pos rfl h1))))
   · exact no
  · exact no
 · exact no
end Go.Proofs.Ytlipaiabjcaeiaa.Dec
namespace Go.Proofs.Ytlipaiabjcaeiaa.Pure
open Go.RowKit YtlipaiabjcaeiaaW.PrintWords Plain A Dec Draw
theorem FnPoints (code : List Int) (hb : code.length * 1 ≤ 140737488351232) (hw : ∀ x ∈ code, (Lit.int .u8 x).wf = true) : ∃ k, laws_FnPoints.f k code = some true := by
 refine Ev.rounds ?_
 have hc := Bytes.of_wf hw
 refine Ev.bindc (show laws_rBig.f code = some (decide ((code.length : Int) > 65536)) from rfl) ?_
 by_cases c : (code.length : Int) > 65536
 · exact Ev.pos (decide_eq_true c) (Ev.now _)
 have hl : code.length ≤ 65536 := by omega
 refine Ev.neg (by rw [decide_eq_false c]; decide) ?_
 obtain ⟨⟨l, a, b⟩, hD, hn⟩ := drawAdd hc hl
 dsimp only at hn
 refine Ev.bind hD ?_
 have hi : impl_AddPoint.f l a b = some (addM l ⟨a, b⟩) := by unfold impl_AddPoint.f; rw [if_pos (by omega)]
 refine Ev.bindc hi (Ev.bind (specAdd_ev l ⟨a, b⟩ (by omega)) (Ev.neg (by simp) ?_))
 refine Ev.bind (rPoints_ev (addM l ⟨a, b⟩).1 (by have := addM_len l ⟨a, b⟩; omega)) ?_
 exact j0_points code hc hl l hn ⟨a, b⟩
end Go.Proofs.Ytlipaiabjcaeiaa.Pure
namespace Go.Proofs.Ytlipaiabjcaeiaa.Opens
open Go.ChangeShapes Go.WideShapes Go.Deep Go.RowKit YtlipaiabjcaeiaaW.PrintWords
theorem list_of {α : Type} {P : Nat → α → Prop} : ∀ (n : Nat), (∀ i, i < n → ∃ x, P i x) → ∃ xs : List α, xs.length = n ∧ ∀ i x, xs[i]? = some x → P i x
 | 0, _ => ⟨[], rfl, fun i x h => by simp at h⟩
 | n + 1, h => by
  obtain ⟨xs, hl, hx⟩ := list_of n (fun i hi => h i (Nat.lt_succ_of_lt hi))
  obtain ⟨y, hy⟩ := h n (Nat.lt_succ_self n)
  refine ⟨xs ++ [y], by simp [hl], fun i x hi => ?_⟩
  by_cases hlt : i < xs.length
  ·
   rw [List.getElem?_append_left hlt] at hi
   exact hx i x hi
  ·
   rw [List.getElem?_append_right (by omega)] at hi
   have h0 : i - xs.length = 0 := by
    have := (List.getElem?_eq_some_iff.1 hi).1
    simp at this
    omega
   rw [h0] at hi
   simp at hi
   subst hi
   have : i = n := by omega
   subst this
   exact hy
section
variable {H : Type} {enc : TypeId × Value → H} {P : Program} {w : World} {base : Nat} {spare : Nat → Bool} {held : Bool}
theorem open_row {α : Type} (d : Kd α) {Q : α → Prop} {t e : TypeId} {a : Option Addr} {len cap : Nat} {dd : DataW H} {ps : List MemPlace} (ht : P.underlying t = some (.slice e)) (hC : P.cellsOf e = d.sz)
  (hd : ∀ n cs y, DataW.trod enc P w base spare held n e cs = some y → ∃ x, d.K w x cs ∧ Q x)
  (h : DataW.Trod enc P w base spare held t (.slice a len cap) dd ps) : ∃ xs : List α, xs.length = len ∧ len ≤ cap ∧ d.C w a len xs ∧ ∀ x ∈ xs, Q x := by
 obtain ⟨fuel, hf⟩ := h
 rcases open_slice ht hf with ⟨hcs, _⟩ | ⟨x, l, c, m, n, D, Pl, hcs, _, hl, hm, hmm, _, hi⟩
 ·
  simp [Value.cells] at hcs
  obtain ⟨rfl, rfl, rfl⟩ := hcs
  exact ⟨[], rfl, Nat.le_refl _, ⟨rfl, by omega, fun h => by omega⟩, fun x hx => by simp at hx⟩
 ·
  simp [Value.cells] at hcs
  obtain ⟨rfl, rfl, rfl⟩ := hcs
  have hle : len ≤ m := by subst hmm; split <;> omega
  obtain ⟨xs, hxl, hx⟩ := list_of (P := fun i (z : α) => Q z ∧ ∃ cs, d.K w z cs ∧ w.cells? base (x.add (i * d.sz)) d.sz = some cs) len (fun i hil => by
   obtain ⟨cs, h1, h2⟩ := hi i (by omega)
   rw [hC] at h1
   obtain ⟨z, h3, h4⟩ := hd _ _ _ h2
   exact ⟨z, h4, cs, h3, h1⟩)
  refine ⟨xs, hxl, hl, ⟨hxl, by unfold maxLen at hm; omega, fun _ => ⟨x, rfl, fun j p hp => ?_⟩⟩, fun z hz => ?_⟩
  ·
   obtain ⟨_, cs, h1, h2⟩ := hx j p hp
   obtain ⟨_, hlen, hat⟩ := World.cells?_some h2
   refine ⟨cs, hlen, h1, fun i u hu => ?_⟩
   have hil : i < d.sz := by have := (List.getElem?_eq_some_iff.1 hu).1; omega
   rw [← Go.Deep.add_add, hat i hil, hu]
  ·
   obtain ⟨j, hj⟩ := List.getElem?_of_mem hz
   exact (hx j z hj).1
theorem sized_row {t e : TypeId} {a : Option Addr} {len cap : Nat} {d : DataW H} {ps : List MemPlace} {ts : List TypeId} {ds : List (DataW H)} {j : Nat}
  (hsz : (DataW.weightsEach P ts ds).all (· ≤ reachBytes) = true) (ht : ts[j]? = some t) (hd : ds[j]? = some d) (hu : P.underlying t = some (.slice e)) {B : Nat} (hB : P.bytesOf e = B)
  (h : DataW.Trod enc P w base spare held t (.slice a len cap) d ps) : len * B ≤ 140737488351232 := by
 obtain ⟨fuel, hf⟩ := h
 rcases open_slice hu hf with ⟨hcs, _⟩ | ⟨x, l, c, m, n, D, Pl, hcs, _, hl, hm, hmm, hx, hi⟩
 ·
  simp [Value.cells] at hcs
  obtain ⟨rfl, rfl, rfl⟩ := hcs
  simp
 ·
  simp [Value.cells] at hcs
  obtain ⟨rfl, rfl, rfl⟩ := hcs
  obtain ⟨hx, _⟩ := Prod.mk.inj hx
  subst hx
  have z := sized_slice hsz ht hd hu
  rw [hB] at z
  simp only [List.length_map, List.length_range] at z
  have hle : len ≤ m := by subst hmm; split <;> omega
  rw [show len + (m - len) = m by omega] at z
  exact Nat.le_trans (Nat.mul_le_mul_right _ hle) z
end
end Go.Proofs.Ytlipaiabjcaeiaa.Opens
namespace Go.Proofs.Ytlipaiabjcaeiaa.fnPoints
open Go.ChangeShapes Go.WideShapes Go.ChangeAt Go.RowKit
open Go.ChangeMaps (open_string shut_string)
open A YtlipaiabjcaeiaaW.PrintWords Opens
theorem own : ownKnob Try.prog.godebug = none := by kernel_rfl
theorem laidOut : laidOutB Try.prog = true := by kernel_rfl
set_option maxRecDepth 100000 in
theorem lifted (os : Os) (started : os.Started) (H : Type) (enc : TypeId × Value → H) :
  ReturnsInHanded {} Try.checked os 5 .any (Rows.fnPointsSpec.pre6 enc Try.prog Try.f5 Rows.fnPointsRow.domain false) (Rows.fnPointsSpec.post enc Try.prog Try.f5 false true false false) := by
 refine returnsInHanded_of_change_sized (C := Try.checked) own started qz10 Try.func5
  (ChangeSpec.witness6 (enc := enc) (C := Try.checked) false ⟨#[], #[.slice none 0 0], []⟩ 8 qz10 qz10 qz10 qz10) ?_
 intro W base args ds gs before hval0 hW hcnd hsz0 _
 have hsz : (DataW.weightsEach Try.prog (Try.f5.params.toList ++ Rows.fnPointsSpec.plain.varTypes Try.prog) (ds ++ gs)).all (· ≤ reachBytes) = true := hsz0
 have hval : ∀ (j : Nat) t v, Try.f5.params[j]? = some t → args[j]? = some v → Value.okWide Try.prog W .any base t v := hval0
 have hW' := hW
 obtain ⟨p, q, hA0, hV, rfl, hfz, hnd⟩ := hW
 have hA : DataW.TrodAll enc Try.prog W 0 (fun _ => true) true Try.f5.params.toList args.toList ds p := hA0
 rw [Try.params5] at hA hval hsz
 obtain ⟨v0, vs0, d0, ds0, p0, q0, hargs, rfl, rfl, h0, r0⟩ := trodAll_cons hA
 obtain ⟨rfl, rfl, rfl⟩ := trodAll_nil r0
 obtain rfl : args = #[v0] := by cases args; simp_all
 obtain ⟨rfl, rfl⟩ := trodVars_none hV
 have k0 := h0
 have lt0 : ∀ x ∈ p0, x.block < W.heap.size := by obtain ⟨m, hm⟩ := k0; exact DataW.trod_lt m _ _ _ hm
 obtain ⟨a0, len0, cap0, rfl⟩ := okWide_slice Try.underlying22 (hval 0 22 v0 rfl rfl)
 obtain ⟨l0, hl0, hc0, hr0, hw0⟩ := Opens.open_row (Kd.int .u8) (Q := fun x => (Lit.int .u8 x).wf = true) (e := 5) Try.underlying22 qz10 (fun _ _ _ h => by obtain ⟨x, rfl, _, hw⟩ := DataW.trod_int Try.underlying5 h; exact ⟨x, rfl, hw⟩) h0
 have y0 : len0 * 1 ≤ 140737488351232 := Opens.sized_row hsz (j := 0) (t := 22) rfl rfl Try.underlying22 qz10 h0
 subst hl0
 clear hA0 hval0 hsz0 hsz
 obtain ⟨k, hk⟩ := Pure.FnPoints l0 y0 hw0
 refine (laws_FnPoints.calls k _ _ l0 true W hr0 hc0 hk trivial).mono fun e W' ⟨he, hb⟩ => ?_
 have bel : Below W.heap.size W W' := hb
 subst he
 exact ⟨_, rfl, _, _, _, [], _, [], hW', trodAll_mk1 (shut_bool Try.underlying4 _), (trodAll_cons_mk (Below.trod laidOut qz10 (of_decide_eq_true qz10) k0 bel lt0) trodAll_mk0), rfl, bel.frame _, fun h => by cases h⟩
theorem over : Rows.fnPointsRow.holds Try.pinned (OpenSpec.ofChange Rows.fnPointsSpec) :=
 OpenClaim.holds_of_wide 5 Try.f5 rfl rfl rfl rfl rfl rfl rfl ⟨rfl, rfl, rfl, rfl, rfl⟩ rfl rfl rfl rfl rfl qz10 Try.func5 qz10
  (of_decide_eq_true qz10) (by unfold Func.isWrapper; first | (rw [if_pos (by decide +kernel)]; kernel_rfl) | (rw [if_neg (by decide +kernel)]; exact ⟨rfl, rfl⟩))
  (fun os started H enc _ => lifted os started H enc)
theorem proved : Rows.FnPointsSaid := over
#print axioms proved
end Go.Proofs.Ytlipaiabjcaeiaa.fnPoints
namespace Go.Proofs.Ytlipaiabjcaeiaa
theorem fnPoints_holds : Rows.FnPointsSaid := fnPoints.proved
end Go.Proofs.Ytlipaiabjcaeiaa
