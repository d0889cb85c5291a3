/- The row of the law FnReverses: whatever the input, it returns true; its arguments read as they did. No conditions. -/
import Derived.Deep.Slices
import Derived.Deep.Fields
import Derived.ChangeSame
import Derived.SizedLaws
import Derived.Test.YtlipaiabjcaeiaaRows
import Derived.ProofKit
import Derived.OpenShut
import Derived.ShutString
import Derived.ChangeOld
import Derived.Test.YtlipaiabjcaeiaaKFnReversesU2
set_option linter.unusedSimpArgs false
set_option linter.unusedVariables false
namespace Go.Proofs.Ytlipaiabjcaeiaa.Draw
open Go Go.RowKit YtlipaiabjcaeiaaW.PrintWords Plain A
def Oks {α : Type} (g : Nat → Option α) (P : α → Prop) : Prop := ∃ r, Ev g r ∧ P r
theorem Oks.bind {α β : Type} {g : Nat → Option α} {f : Nat → α → Option β} {P : α → Prop} {Q : β → Prop} (h : Oks g P) (k : ∀ r, P r → Oks (fun n => f n r) Q) : Oks (fun n => (g n).bind (f n)) Q := by
 obtain ⟨r, h1, h2⟩ := h; obtain ⟨q, k1, k2⟩ := k r h2; exact ⟨q, Ev.bind h1 k1, k2⟩
theorem Oks.now {α : Type} {P : α → Prop} {r : α} (h : P r) : Oks (fun _ => some r) P := ⟨r, Ev.now _, h⟩
theorem Oks.pos {α : Type} {c : Prop} [Decidable c] {g f : Nat → Option α} {P : α → Prop} (hc : c) (h : Oks g P) : Oks (fun n => if c then g n else f n) P := by
 obtain ⟨r, h1, h2⟩ := h; exact ⟨r, Ev.pos hc h1, h2⟩
theorem Oks.neg {α : Type} {c : Prop} [Decidable c] {g f : Nat → Option α} {P : α → Prop} (hc : ¬ c) (h : Oks f P) : Oks (fun n => if c then g n else f n) P := by
 obtain ⟨r, h1, h2⟩ := h; exact ⟨r, Ev.neg hc h1, h2⟩
theorem Oks.ite {α : Type} {c : Prop} [Decidable c] {g f : Nat → Option α} {P : α → Prop} (h : c → Oks g P) (k : ¬ c → Oks f P) : Oks (fun n => if c then g n else f n) P := by
 by_cases hc : c
 · exact Oks.pos hc (h hc)
 · exact Oks.neg hc (k hc)
theorem Oks.step {α : Type} {g f : Nat → Option α} {P : α → Prop} (e : ∀ k, g (k + 1) = f k) (h : Oks f P) : Oks g P := by
 obtain ⟨r, h1, h2⟩ := h; exact ⟨r, Ev.step e h1, h2⟩
theorem Oks.imp {α : Type} {g : Nat → Option α} {P Q : α → Prop} (h : Oks g P) (k : ∀ r, P r → Q r) : Oks g Q := by
 obtain ⟨r, h1, h2⟩ := h; exact ⟨r, h1, k r h2⟩
theorem Oks.of {α : Type} {g : Nat → Option α} {P : α → Prop} {r : α} (h : Ev g r) (k : P r) : Oks g P := ⟨r, h, k⟩
def Bytes (code : List Int) : Prop := ∀ x ∈ code, 0 ≤ x ∧ x ≤ 255
theorem Bytes.of_wf {code : List Int} (h : ∀ x ∈ code, (Lit.int .u8 x).wf = true) : Bytes code := fun x hx => by
 have := h x hx; simp only [Lit.wf, IntKind.min, IntKind.max, IntKind.signed, IntKind.bits, Bool.and_eq_true, decide_eq_true_eq, Bool.false_eq_true, if_false] at this; omega
theorem Bytes.at_ {code : List Int} (h : Bytes code) (i : Int) : 0 ≤ rd code i ∧ rd code i ≤ 255 := by
 have e : rd code i = code.getD i.toNat 0 := rfl; rw [e]; by_cases hi : i.toNat < code.length
 ·
  have e2 : code.getD i.toNat 0 = code[i.toNat] := by simp [List.getD, hi]
  rw [e2]; exact h _ (List.getElem_mem hi)
 ·
  have e2 : code.getD i.toNat 0 = 0 := by simp [List.getD, hi]
  rw [e2]; omega
theorem and255 (x : Int) (h0 : 0 ≤ x) (h1 : x ≤ 18446744073709551615) : 0 ≤ Go.bits .and .u64 x 255 ∧ Go.bits .and .u64 x 255 ≤ 255 := by
 have h := bits_and_u64_nat x.toNat 255 (by omega) (by omega); rw [Int.toNat_of_nonneg h0] at h; have h2 : x.toNat &&& 255 ≤ 255 := Nat.and_le_right; have e : Go.bits .and .u64 x 255 = ((x.toNat &&& 255 : Nat) : Int) := h; rw [e]; omega
theorem seed_low (x : Int) : 0 ≤ wrap64 (Go.bits .and .u64 (IntKind.u64.wrap x / 1099511627776) 255) ∧ wrap64 (Go.bits .and .u64 (IntKind.u64.wrap x / 1099511627776) 255) ≤ 255 := by
 have h := IntKind.wrap_u64 x; have h2 := and255 (IntKind.u64.wrap x / 1099511627776) (by omega) (by omega); rw [w64 (by omega) (by omega)]; exact h2
theorem next_ok {code : List Int} (hc : Bytes code) (hl : code.length ≤ 65536) (a s : Int) (h0 : 0 ≤ a) (h1 : a ≤ 1000000000) : ∃ v s', spec_l1Cur_next.f code a s = some (v, a + 1, s') ∧ 0 ≤ v ∧ v ≤ 255 := by
 have hr := hc.at_ a; have e1 : wrap64 (rd code a) = rd code a := w64 (by omega) (by omega); have e2 : wrap64 (a + 1) = a + 1 := w64 (by omega) (by omega); unfold spec_l1Cur_next.f; rw [e2]; by_cases c1 : a < (code.length : Int)
 ·
  rw [if_pos c1, if_pos h0, if_pos (by omega), e1]; exact ⟨_, _, rfl, hr⟩
 ·
  rw [if_neg c1, if_neg (by omega)]; exact ⟨_, _, rfl, seed_low _⟩
theorem pick_ok {code : List Int} (hc : Bytes code) (hl : code.length ≤ 65536) (a s n : Int) (h0 : 0 ≤ a) (h1 : a ≤ 100000000) : ∃ v a' s', spec_l1Cur_pick.f code a s n = some (v, a', s') ∧ 0 ≤ v ∧ (0 < n → v < n) ∧ a ≤ a' ∧ a' ≤ a + 2 := by
 unfold spec_l1Cur_pick.f; by_cases c1 : n ≤ 1
 ·
  rw [if_pos c1]; exact ⟨0, a, s, rfl, by omega, by omega, by omega, by omega⟩
 rw [if_neg c1]; obtain ⟨v, s1, e, hv⟩ := next_ok hc hl a s h0 (by omega); rw [e, Option.bind_some]; by_cases c2 : n > 200
 ·
  obtain ⟨v2, s2, e2, hv2⟩ := next_ok hc hl (a + 1) s1 (by omega) (by omega); have e3 : wrap64 (wrap64 (v * 256) + v2) = v * 256 + v2 := by rw [w64 (x := v * 256) (by omega) (by omega), w64 (by omega) (by omega)]
  rw [if_pos c2, e2, Option.bind_some, if_neg (by omega), e3]; have hm := Int.tmod_lt_of_pos (v * 256 + v2) (show (0 : Int) < n by omega); have hm0 := Int.tmod_nonneg n (show (0 : Int) ≤ v * 256 + v2 by omega); exact ⟨_, _, _, rfl, hm0, fun _ => hm, qz117, qz117⟩
 ·
  rw [if_neg c2, if_neg (by omega)]; have hm := Int.tmod_lt_of_pos v (show (0 : Int) < n by omega); have hm0 := Int.tmod_nonneg n (show (0 : Int) ≤ v by omega); exact ⟨_, _, _, rfl, hm0, fun _ => hm, qz117, qz117⟩
theorem among_ok {code : List Int} (hc : Bytes code) (hl : code.length ≤ 65536) (a s : Int) (l : List Int) (hn : 0 < l.length) (h0 : 0 ≤ a) (h1 : a ≤ 100000000) : ∃ v a' s', spec_l1Cur_among.f code a s l = some (v, a', s') ∧ v ∈ l ∧ a ≤ a' ∧ a' ≤ a + 2 := by
 unfold spec_l1Cur_among.f; obtain ⟨v, a', s', e, hv0, hv1, ha⟩ := pick_ok hc hl a s (l.length : Int) h0 h1; have hv := hv1 (by omega); rw [e, Option.bind_some, if_pos hv0, if_pos hv]; refine ⟨_, _, _, rfl, ?_, ha⟩; have e2 : rd l v = l.getD v.toNat 0 := rfl; have hi : v.toNat < l.length := by omega
 have e3 : l.getD v.toNat 0 = l[v.toNat] := by simp [List.getD, hi]
 rw [e2, e3]; exact List.getElem_mem _
theorem pickK {code : List Int} (hc : Bytes code) (hl : code.length ≤ 65536) (a s n : Int) (h0 : 0 ≤ a) (h1 : a ≤ 100000000) : Oks (fun _ => spec_l1Cur_pick.f code a s n) (fun r => 0 ≤ r.1 ∧ (0 < n → r.1 < n) ∧ a ≤ r.2.1 ∧ r.2.1 ≤ a + 2) := by
 obtain ⟨v, a', s', e, h⟩ := pick_ok hc hl a s n h0 h1; exact ⟨_, Ev.some (fun _ => e), h⟩
theorem amongK {code : List Int} (hc : Bytes code) (hl : code.length ≤ 65536) (a s : Int) (l : List Int) (hn : 0 < l.length) (h0 : 0 ≤ a) (h1 : a ≤ 100000000) : Oks (fun _ => spec_l1Cur_among.f code a s l) (fun r => r.1 ∈ l ∧ a ≤ r.2.1 ∧ r.2.1 ≤ a + 2) := by
 obtain ⟨v, a', s', e, h⟩ := among_ok hc hl a s l hn h0 h1; exact ⟨_, Ev.some (fun _ => e), h⟩
theorem oneK {code : List Int} (hc : Bytes code) (hl : code.length ≤ 65536) (a s n : Int) (h0 : 0 ≤ a) (h1 : a ≤ 100000000) : Oks (fun _ => spec_l1Cur_one.f code a s n) (fun r => a ≤ r.2.1 ∧ r.2.1 ≤ a + 2) := by
 obtain ⟨v, a', s', e, h⟩ := pick_ok hc hl a s n h0 h1; exact ⟨(v == 0, a', s'), Ev.some (fun _ => by unfold spec_l1Cur_one.f; rw [e]; rfl), h.2.2⟩
variable {code : List Int} (hc : Bytes code) (hl : code.length ≤ 65536)
include hc hl
theorem leg_j0 (a s b0 b1 b2 b3 b4 : Int) (h0 : 0 ≤ a) (h1 : a ≤ 90000000) : Oks (fun k => spec_l1Cur_leg.j0 k code a s b0 b1 b2 b3 b4) (fun r => a ≤ r.2.2.2.2.2.1 ∧ r.2.2.2.2.2.1 ≤ a + 4) := by
 refine Oks.step (fun k => by simp only [spec_l1Cur_leg.j0]; rfl) ?_; refine Oks.bind (pickK hc hl a s 40 h0 (by omega)) ?_; rintro ⟨v, a1, s1⟩ ⟨e1, e2, e3, e4⟩
 dsimp only at e1 e2 e3 e4 ⊢
 refine Oks.ite (fun _ => ?_) (fun _ => Oks.ite (fun _ => ?_) (fun _ => Oks.ite (fun _ => ?_) (fun _ => Oks.ite (fun _ => ?_) (fun _ => Oks.now ⟨qz117, qz117⟩))))
 all_goals
  refine Oks.bind (amongK hc hl a1 s1 _ (by simp) (by omega) (by omega)) ?_; rintro ⟨u, a2, s2⟩ ⟨_, g3, g4⟩
  dsimp only at g3 g4 ⊢
  exact Oks.now ⟨qz117, qz117⟩
theorem legK (a s : Int) (h0 : 0 ≤ a) (h1 : a ≤ 80000000) : Oks (fun k => spec_l1Cur_leg.f k code a s) (fun r => a ≤ r.2.2.2.2.2.1 ∧ r.2.2.2.2.2.1 ≤ a + 20) := by
 unfold spec_l1Cur_leg.f; refine Oks.bind (pickK hc hl a s 6 h0 (by omega)) ?_; rintro ⟨v1, a1, s1⟩ ⟨_, _, e3, e4⟩
 dsimp only at e3 e4 ⊢
 refine Oks.bind (pickK hc hl a1 s1 6 (by omega) (by omega)) ?_; rintro ⟨v2, a2, s2⟩ ⟨_, _, f3, f4⟩
 dsimp only at f3 f4 ⊢
 refine Oks.bind (amongK hc hl a2 s2 _ (by simp) (by omega) (by omega)) ?_; rintro ⟨v3, a3, s3⟩ ⟨_, g3, g4⟩
 dsimp only at g3 g4 ⊢
 refine Oks.bind (amongK hc hl a3 s3 _ (by simp) (by omega) (by omega)) ?_; rintro ⟨v4, a4, s4⟩ ⟨_, h3, h4⟩
 dsimp only at h3 h4 ⊢
 refine Oks.bind (amongK hc hl a4 s4 _ (by simp) (by omega) (by omega)) ?_; rintro ⟨v5, a5, s5⟩ ⟨_, i3, i4⟩
 dsimp only at i3 i4 ⊢
 exact Oks.ite (fun _ => (leg_j0 hc hl a5 s5 _ _ _ _ _ (by omega) (by omega)).imp fun r ⟨k1, k2⟩ => ⟨by omega, by omega⟩) (fun _ => (leg_j0 hc hl a5 s5 _ _ _ _ _ (by omega) (by omega)).imp fun r ⟨k1, k2⟩ => ⟨by omega, by omega⟩)
end Go.Proofs.Ytlipaiabjcaeiaa.Draw
namespace Go.Proofs.Ytlipaiabjcaeiaa.Draw
open Go Go.RowKit YtlipaiabjcaeiaaW.PrintWords Plain A
open Book (EN)
theorem least_ok (x y : Int) : ∃ r, spec_l1Least.f x y = some r := by unfold spec_l1Least.f; split <;> exact ⟨_, rfl⟩
variable {code : List Int} (hc : Bytes code) (hl : code.length ≤ 65536)
include hc hl
theorem entryK (a s : Int) (h0 : 0 ≤ a) (h1 : a ≤ 70000000) : Oks (fun k => spec_l1Cur_entry.f k code a s) (fun r => a ≤ r.2.2.2.2.2.2.1 ∧ r.2.2.2.2.2.2.1 ≤ a + 26) := by
 unfold spec_l1Cur_entry.f; refine Oks.bind (legK hc hl a s h0 (by omega)) ?_; rintro ⟨b0, b1, b2, b3, b4, a1, s1⟩ ⟨e3, e4⟩
 dsimp only at e3 e4 ⊢
 refine Oks.bind (oneK hc hl a1 s1 3 (by omega) (by omega)) ?_; rintro ⟨o, a2, s2⟩ ⟨f3, f4⟩
 dsimp only at f3 f4 ⊢
 refine Oks.bind (oneK hc hl a2 s2 60 (by omega) (by omega)) ?_; rintro ⟨o2, a3, s3⟩ ⟨g3, g4⟩
 dsimp only at g3 g4 ⊢
 refine Oks.ite (fun _ => ?_) (fun _ => Oks.now ⟨qz117, qz117⟩); refine Oks.bind (amongK hc hl a3 s3 _ (by simp) (by omega) (by omega)) ?_; rintro ⟨u, a4, s4⟩ ⟨_, h3, h4⟩
 dsimp only at h3 h4 ⊢
 exact Oks.now ⟨qz117, qz117⟩
theorem book_l1 : ∀ (d : Nat) (x3 : List EN) (a s : Int), x3.length + d = 20 → 0 ≤ a → a ≤ 60000000 + 2 * (20 - d : Int) → Oks (fun k => spec_l1Cur_book.l1 k x3 code a s) (fun r => r.1.length ≤ 20) := by
 intro d
 induction d with
 | zero =>
  intro x3 a s h1 h4 h5; refine Oks.step (fun k => by simp only [spec_l1Cur_book.l1]; rfl) ?_; refine Oks.bind (pickK hc hl a s 2 h4 (by omega)) ?_; rintro ⟨v, a1, s1⟩ ⟨g1, g2, g3, g4⟩
  dsimp only at g1 g2 g3 g4 ⊢
  have g5 := g2 (by omega); rw [w64 (x := 12 + v) (by omega) (by omega)]; exact Oks.neg (by omega) (Oks.now qz117)
 | succ d ih =>
  intro x3 a s h1 h4 h5; refine Oks.step (fun k => by simp only [spec_l1Cur_book.l1]; rfl) ?_; refine Oks.bind (pickK hc hl a s 2 h4 (by omega)) ?_; rintro ⟨v, a1, s1⟩ ⟨g1, g2, g3, g4⟩
  dsimp only at g1 g2 g3 g4 ⊢
  refine Oks.ite (fun _ => Oks.pos (by omega) ?_) (fun _ => Oks.now qz117); exact ih _ a1 s1 qz125 (by omega) (by omega)
theorem book_l0 : ∀ (d : Nat) (x3 : List EN) (a s : Int), x3.length + d ≤ 6 → 0 ≤ a → a ≤ 40000000 + 50 * (6 - d : Int) → Oks (fun k => spec_l1Cur_book.l0 k x3 (d : Int) code a s) (fun r => r.1.length ≤ 20) := by
 intro d
 induction d with
 | zero =>
  intro x3 a s h1 h4 h5; refine Oks.step (fun k => by simp only [spec_l1Cur_book.l0]; rfl) ?_; refine Oks.neg (by omega) ?_; refine Oks.bind (oneK hc hl a s 24 h4 (by omega)) ?_; rintro ⟨o, a1, s1⟩ ⟨g3, g4⟩
  dsimp only at g3 g4 ⊢
  exact Oks.ite (fun _ => book_l1 hc hl (20 - x3.length) x3 a1 s1 (by omega) (by omega) (by omega)) (fun _ => Oks.now qz117)
 | succ d ih =>
  intro x3 a s h1 h4 h5; have hd : wrap64 (((d + 1 : Nat) : Int) - 1) = (d : Int) := by rw [w64 (by omega) (by omega)]; omega
  have j1 : ∀ (o : Bool) (a1 s1 b0 b1 b2 b3 b4 : Int) (b5 : Bool), (o = true → 0 < x3.length) → a ≤ a1 → a1 ≤ a + 30 → Oks (fun k => spec_l1Cur_book.j1 k x3 ((d + 1 : Nat) : Int) o code a1 s1 b0 b1 b2 b3 b4 b5) (fun r => r.1.length ≤ 20) := by
   intro o a1 s1 b0 b1 b2 b3 b4 b5 q0 q1 q2; refine Oks.step (fun k => by simp only [spec_l1Cur_book.j1, hd]; rfl) ?_; refine Oks.ite (fun ho => ?_) (fun _ => Oks.pos (by omega) (ih _ a1 s1 qz125 (by omega) (by omega))); have q3 := q0 ho; refine Oks.bind (pickK hc hl a1 s1 _ (by omega) (by omega)) ?_; rintro ⟨v, a2, s2⟩ ⟨g1, g2, g3, g4⟩
   dsimp only at g1 g2 g3 g4 ⊢
   refine Oks.pos g1 ?_; refine Oks.pos (g2 (by omega)) ?_; refine Oks.bind (amongK hc hl a2 s2 _ (by simp) (by omega) (by omega)) ?_; rintro ⟨v3, a3, s3⟩ ⟨_, f3, f4⟩
   dsimp only at f3 f4 ⊢
   refine Oks.bind (amongK hc hl a3 s3 _ (by simp) (by omega) (by omega)) ?_; rintro ⟨v4, a4, s4⟩ ⟨_, i3, i4⟩
   dsimp only at i3 i4 ⊢
   refine Oks.bind (amongK hc hl a4 s4 _ (by simp) (by omega) (by omega)) ?_; rintro ⟨v5, a5, s5⟩ ⟨_, j3, j4⟩
   dsimp only at j3 j4 ⊢
   obtain ⟨t, ht⟩ := least_ok 90 (wrap64 ((rd_T52 x3 v).f4 + v5)); rw [ht]; simp only [Option.bind_some]; refine Oks.bind (pickK hc hl a5 s5 4 (by omega) (by omega)) ?_; rintro ⟨v6, a6, s6⟩ ⟨_, _, k3, k4⟩
   dsimp only at k3 k4 ⊢
   exact Oks.ite (fun _ => Oks.pos (by omega) (ih _ a6 s6 qz125 (by omega) (by omega))) (fun _ => Oks.ite (fun _ => Oks.pos (by omega) (ih _ a6 s6 qz125 (by omega) (by omega))) (fun _ => Oks.ite (fun _ => Oks.pos (by omega) (ih _ a6 s6 qz125 (by omega) (by omega))) (fun _ => Oks.pos (by omega) (ih _ a6 s6 qz125 (by omega) (by omega)))))
  refine Oks.step (fun k => by simp only [spec_l1Cur_book.l0]; rfl) ?_; refine Oks.pos (by omega) ?_; refine Oks.bind (entryK hc hl a s h4 (by omega)) ?_; rintro ⟨b0, b1, b2, b3, b4, b5, a1, s1⟩ ⟨g3, g4⟩
  dsimp only at g3 g4 ⊢
  refine Oks.ite (fun hp => ?_) (fun _ => j1 _ _ _ _ _ _ _ _ _ (fun h => by cases h) (by omega) (by omega)); refine Oks.bind (oneK hc hl a1 s1 3 (by omega) (by omega)) ?_; rintro ⟨o, a2, s2⟩ ⟨f3, f4⟩
  dsimp only at f3 f4 ⊢
  exact j1 _ _ _ _ _ _ _ _ _ (fun _ => by omega) (by omega) (by omega)
theorem bookK : Oks (fun k => spec_l1Cur_book.f k code 0 0) (fun r => r.1.length ≤ 20) := by
 unfold spec_l1Cur_book.f; refine Oks.bind (pickK hc hl 0 0 6 (by omega) (by omega)) ?_; rintro ⟨v, a1, s1⟩ ⟨e1, e2, e3, e4⟩
 dsimp only at e1 e2 e3 e4 ⊢
 have e5 := e2 (by omega); rw [show v = ((v.toNat : Nat) : Int) by omega]; exact book_l0 hc hl v.toNat [] a1 s1 qz125 (by omega) (by omega)
theorem drawBook : Oks (fun k => spec_DrawBookText.f k code) (fun r => r.length ≤ 20) := by
 unfold spec_DrawBookText.f; refine Oks.bind (bookK hc hl) ?_; rintro ⟨l, a1, s1⟩ h; exact Oks.now h
theorem drawReverse : Oks (fun k => spec_DrawReverseBook.f k code) (fun r => r.length ≤ 20) := by
 unfold spec_DrawReverseBook.f; exact Oks.bind (drawBook hc hl) fun r h => Oks.now h
theorem drawPairs : Oks (fun k => spec_DrawPairErrors.f k code) (fun r => r.length ≤ 20) := by
 unfold spec_DrawPairErrors.f; exact Oks.bind (drawBook hc hl) fun r h => Oks.now h
theorem drawLegOf : Oks (fun k => spec_DrawLegOf.f k code) (fun _ => True) := by
 unfold spec_DrawLegOf.f spec_DrawIsEntry.f; refine Oks.bind (Oks.bind (entryK hc hl 0 0 (by omega) (by omega)) (fun r _ => Oks.now (P := fun _ => True) trivial)) fun r _ => Oks.now trivial
end Go.Proofs.Ytlipaiabjcaeiaa.Draw
namespace Go.Proofs.Ytlipaiabjcaeiaa.Book
open Go.RowKit YtlipaiabjcaeiaaW.PrintWords Plain A Ent
theorem upB_step (l : List EN) (i : Nat) (h : i < l.length) : gotE (upB l (l.length - i)) = gotE (upB l (l.length - (i + 1))) ++ [revE (l.getD i z)] := by
 rw [show l.length - i = l.length - (i + 1) + 1 by omega, upB, gotE_snoc]; show gotE _ ++ [revE (l.getD (l.length - 1 - (l.length - (i + 1))) z)] = _; rw [show l.length - 1 - (l.length - (i + 1)) = i by omega]
theorem specRev (l : List EN) (hn : l.length ≤ 12) : ∀ (i : Nat), i ≤ l.length → Ev (fun k => spec_ReverseBook.l0 k l (gotE (upB l (l.length - i))) ((i : Int) - 1)) (gotE (upB l l.length), true) := by
 intro i
 induction i with
 | zero =>
  intro hi; exact Ev.step (f := fun _ => some (gotE (upB l l.length), true)) (fun k => by simp only [spec_ReverseBook.l0]; rw [if_neg (by omega)]; rfl) (Ev.now _)
 | succ i ih =>
  intro hi; have e0 : ((i + 1 : Nat) : Int) - 1 = (i : Int) := by omega
  have b0 : (i : Int) ≥ 0 := by omega
  have b1 : (i : Int) < (l.length : Int) := by omega
  have b2 : (gotE (upB l (l.length - (i + 1)))).length < 2932031007402 := by rw [gotE_len, upB_len]; omega
  have ex : rd_T52 l (i : Int) = l.getD i z := rfl; have e : wrap64 ((i : Int) - 1) = (i : Int) - 1 := w64 (by omega) (by omega); have hst := upB_step l i (by omega); rw [e0]; refine Ev.step (fun k => ?_) (ih (by omega)); simp only [spec_ReverseBook.l0]; rw [if_pos b0, if_pos b0, if_pos b1, if_pos b2, e, ex, hst]; rfl
theorem specRev_ev (l : List EN) (hb : l.length ≤ 140737488351232) : Ev (fun k => spec_ReverseBook.f k l) (revM l) := by
 unfold spec_ReverseBook.f revM; refine Ev.bindc rfl ?_; refine Ev.bind (l7Book_ev l hb) ?_; refine Ev.ite (fun hv => ?_) (fun _ => Ev.now _); have hn := book_len hv; rw [w64 (by omega) (by omega)]; have h := specRev l hn l.length (Nat.le_refl _); rw [Nat.sub_self] at h; exact h
theorem revM_length (l : List EN) : (revM l).1.length ≤ 12 := by
 unfold revM; split
 ·
  rename_i hv
  have := book_len hv; show (gotE (upB l l.length)).length ≤ 12; rw [gotE_len, upB_len]; exact this
 · simp
end Go.Proofs.Ytlipaiabjcaeiaa.Book
namespace Go.Proofs.Ytlipaiabjcaeiaa.Book
open Go.RowKit YtlipaiabjcaeiaaW.PrintWords Plain A
def lenFrom (l : List EN) : Nat → Nat → Int → Int
 | _, 0, acc => acc
 | i, d + 1, acc => lenFrom l (i + 1) d (wrap64 (acc + (l.getD i z).f2))
def lenM (l : List EN) : Int × Bool := if bookB l = true then (lenFrom l 0 l.length 0, true) else (0, false)
theorem lenImpl (l : List EN) (hb : l.length ≤ 140737488351232) : ∀ (d i : Nat) (acc : Int), i + d = l.length → Ev (fun k => impl_BookLength.l0 k acc l (l.length : Int) (i : Int)) (lenFrom l i d acc, true) := by
 intro d
 induction d with
 | zero =>
  intro i acc hi; exact Ev.step (f := fun _ => some (acc, true)) (fun k => by simp only [impl_BookLength.l0]; rw [if_neg (by omega)]) (Ev.now _)
 | succ d ih =>
  intro i acc hi; refine Ev.step (fun k => ?_) (ih (i + 1) (wrap64 (acc + (l.getD i z).f2)) (by omega)); simp only [impl_BookLength.l0]; rw [if_pos (by omega), if_pos (by omega), if_pos (by omega), w64 (x := (i : Int) + 1) (by omega) (by omega)]; rfl
theorem lenSpec (l : List EN) (hb : l.length ≤ 140737488351232) : ∀ (d i : Nat) (acc : Int), i + d = l.length → Ev (fun k => spec_BookLength.l0 k l acc (i : Int)) (lenFrom l i d acc, true) := by
 intro d
 induction d with
 | zero =>
  intro i acc hi; exact Ev.step (f := fun _ => some (acc, true)) (fun k => by simp only [spec_BookLength.l0]; rw [if_neg (by omega)]) (Ev.now _)
 | succ d ih =>
  intro i acc hi; refine Ev.step (fun k => ?_) (ih (i + 1) (wrap64 (acc + (l.getD i z).f2)) (by omega)); simp only [spec_BookLength.l0]; rw [if_pos (by omega), if_pos (by omega), w64 (x := (i : Int) + 1) (by omega) (by omega)]; rfl
theorem implLen_ev (l : List EN) (hb : l.length ≤ 140737488351232) : Ev (fun k => impl_BookLength.f k l) (lenM l) := by
 unfold impl_BookLength.f lenM; refine Ev.bindc (isBook_eq l) ?_; exact Ev.ite (fun hv => lenImpl l hb l.length 0 0 (by omega)) (fun _ => Ev.now _)
theorem specLen_ev (l : List EN) (hb : l.length ≤ 140737488351232) : Ev (fun k => spec_BookLength.f k l) (lenM l) := by
 unfold spec_BookLength.f lenM; refine Ev.bind (l7Book_ev l hb) ?_; exact Ev.ite (fun hv => lenSpec l hb l.length 0 0 (by omega)) (fun _ => Ev.now _)
abbrev scan := impl_firstOf.scan
def at_ (l : List EN) (i : Nat) : EN := l.getD i z
def firstM (l : List EN) (i : Nat) : Int := scan l (at_ l i) 0 l.length
theorem pair_iff {a b c d : Int} : (a + b = c + d ∧ a * b = c * d) ↔ (a = c ∧ b = d) ∨ (a = d ∧ b = c) := by
 constructor
 ·
  rintro ⟨h1, h2⟩
  have e : (a - c) * (a - d) = 0 := by
   have : b = c + d - a := by omega
   subst this
   grind
  rcases Int.mul_eq_zero.1 e with h | h
  · exact .inl ⟨by omega, by omega⟩
  · exact .inr ⟨by omega, by omega⟩
 ·
  rintro (⟨rfl, rfl⟩ | ⟨rfl, rfl⟩)
  · exact ⟨rfl, rfl⟩
  · exact ⟨by omega, Int.mul_comm _ _⟩
theorem joins_iff (x y : EN) : impl_firstOf.joinsB x y = true ↔ (x.f0 + x.f1 = y.f0 + y.f1 ∧ x.f0 * x.f1 = y.f0 * y.f1) := by
 rw [pair_iff]; unfold impl_firstOf.joinsB; simp
theorem implFirst_eq (l : List EN) (i : Nat) (hi : i < l.length) (hb : l.length ≤ 140737488351232) : impl_firstOf.f l (i : Int) = some (firstM l i) := by
 unfold impl_firstOf.f; rw [if_pos ⟨by omega, by omega, hb⟩]; rfl
theorem joins_self (x : EN) : impl_firstOf.joinsB x x = true := by
 unfold impl_firstOf.joinsB; simp
theorem specFirst_ev (l : List EN) (hv : bookB l = true) (i : Nat) (hi : i < l.length) : Ev (fun k => spec_l7First.f k l (i : Int)) (firstM l i) := by
 have hn := book_len hv; have hy := okE_iff (book_at hv hi)
 have key : ∀ (d j : Nat), j + d = l.length → j ≤ i → Ev (fun k => spec_l7First.l0 k l (i : Int) (j : Int)) (scan l (at_ l i) j d) := by
  intro d
  induction d with
  | zero => intro j hj hji; omega
  | succ d ih =>
   intro j hj hji; have hx := okE_iff (book_at hv (show j < l.length by omega)); have ex : rd_T52 l (j : Int) = at_ l j := rfl; have ey : rd_T52 l (i : Int) = at_ l i := rfl; replace hx : (0 ≤ (at_ l j).f0 ∧ (at_ l j).f0 ≤ 7) ∧ (0 ≤ (at_ l j).f1 ∧ (at_ l j).f1 ≤ 7) := ⟨hx.1, hx.2.1⟩; have hy' : (0 ≤ (at_ l i).f0 ∧ (at_ l i).f0 ≤ 7) ∧ (0 ≤ (at_ l i).f1 ∧ (at_ l i).f1 ≤ 7) := ⟨hy.1, hy.2.1⟩; have m1 := mul_bound (x := (at_ l j).f0) (y := (at_ l j).f1) 7 7 (by omega) (by omega) (by omega) (by omega); have m2 := mul_bound (x := (at_ l i).f0) (y := (at_ l i).f1) 7 7 (by omega) (by omega) (by omega) (by omega); have b0 : 0 ≤ (j : Int) := by omega
   have b1 : (j : Int) < (l.length : Int) := by omega
   have b2 : 0 ≤ (i : Int) := by omega
   have b3 : (i : Int) < (l.length : Int) := by omega
   have hj1 : j + 1 + d = l.length := by omega
   have hj2 : j ≠ i → j + 1 ≤ i := by omega
   have hle1 : -9223372036854775808 ≤ (j : Int) + 1 ∧ (j : Int) + 1 ≤ 9223372036854775807 := by omega
   have v1 : -9223372036854775808 ≤ (at_ l j).f0 + (at_ l j).f1 ∧ (at_ l j).f0 + (at_ l j).f1 ≤ 9223372036854775807 := by omega
   have v2 : -9223372036854775808 ≤ (at_ l i).f0 + (at_ l i).f1 ∧ (at_ l i).f0 + (at_ l i).f1 ≤ 9223372036854775807 := by omega
   have v3 : -9223372036854775808 ≤ (at_ l j).f0 * (at_ l j).f1 ∧ (at_ l j).f0 * (at_ l j).f1 ≤ 9223372036854775807 := by omega
   have v4 : -9223372036854775808 ≤ (at_ l i).f0 * (at_ l i).f1 ∧ (at_ l i).f0 * (at_ l i).f1 ≤ 9223372036854775807 := by omega
   have e0 : (j : Int) + 1 = ((j + 1 : Nat) : Int) := by omega
   have w1 : wrap64 ((at_ l j).f0 + (at_ l j).f1) = (at_ l j).f0 + (at_ l j).f1 := w64 v1.1 v1.2; have w2 : wrap64 ((at_ l i).f0 + (at_ l i).f1) = (at_ l i).f0 + (at_ l i).f1 := w64 v2.1 v2.2; have w3 : wrap64 ((at_ l j).f0 * (at_ l j).f1) = (at_ l j).f0 * (at_ l j).f1 := w64 v3.1 v3.2; have w4 : wrap64 ((at_ l i).f0 * (at_ l i).f1) = (at_ l i).f0 * (at_ l i).f1 := w64 v4.1 v4.2; have e : wrap64 ((j : Int) + 1) = ((j + 1 : Nat) : Int) := by rw [w64 hle1.1 hle1.2]; exact e0
   have hjo := joins_iff (at_ l j) (at_ l i)
   have step : ∀ k, spec_l7First.l0 (k + 1) l (i : Int) (j : Int) = if impl_firstOf.joinsB (at_ l j) (at_ l i) = true then some (j : Int) else spec_l7First.l0 k l (i : Int) ((j + 1 : Nat) : Int) := by
    intro k; simp only [spec_l7First.l0]; rw [if_pos b0, if_pos b1, if_pos b2, if_pos b3, ex, ey, w1, w2, w3, w4, e]; by_cases h1 : (at_ l j).f0 + (at_ l j).f1 = (at_ l i).f0 + (at_ l i).f1
    ·
     by_cases h2 : (at_ l j).f0 * (at_ l j).f1 = (at_ l i).f0 * (at_ l i).f1
     · rw [if_pos h1, if_pos h2, if_pos (hjo.2 ⟨h1, h2⟩)]
     · rw [if_pos h1, if_neg h2, if_neg (fun h => h2 (hjo.1 h).2)]
    · rw [if_neg h1, if_neg (fun h => h1 (hjo.1 h).1)]
   have es : scan l (at_ l i) j (d + 1) = if impl_firstOf.joinsB (at_ l j) (at_ l i) = true then (j : Int) else scan l (at_ l i) (j + 1) d := rfl
   rw [es]; by_cases hc : impl_firstOf.joinsB (at_ l j) (at_ l i) = true
   ·
    refine Ev.step (f := fun _ => some (j : Int)) (fun k => by rw [step, if_pos hc]) ?_; rw [if_pos hc]; exact Ev.now _
   ·
    rw [if_neg hc]; have hne : j ≠ i := fun h => hc (by rw [h]; exact joins_self _)
    exact Ev.step (fun k => by rw [step, if_neg hc]) (ih (j + 1) hj1 (hj2 hne))
 exact key l.length 0 (by omega) (by omega)
theorem scan_le (l : List EN) (i : Nat) : ∀ (d j : Nat), j + d = l.length → j ≤ i → i < l.length → ∃ k : Nat, scan l (at_ l i) j d = (k : Int) ∧ k ≤ i ∧ j ≤ k ∧ impl_firstOf.joinsB (at_ l k) (at_ l i) = true
 | 0, j, hj, hji, hi => by omega
 | d + 1, j, hj, hji, hi => by
  have es : scan l (at_ l i) j (d + 1) = if impl_firstOf.joinsB (at_ l j) (at_ l i) = true then (j : Int) else scan l (at_ l i) (j + 1) d := rfl
  rw [es]; by_cases hc : impl_firstOf.joinsB (at_ l j) (at_ l i) = true
  · exact ⟨j, (by rw [if_pos hc]), hji, Nat.le_refl _, hc⟩
  ·
   have hne : j ≠ i := fun h => hc (by rw [h]; exact joins_self _)
   obtain ⟨k, h1, h2, h3, h4⟩ := scan_le l i d (j + 1) (by omega) (by omega) hi; exact ⟨k, (by rw [if_neg hc, h1]), h2, by omega, h4⟩
theorem firstM_spec (l : List EN) (i : Nat) (hi : i < l.length) : ∃ k : Nat, firstM l i = (k : Int) ∧ k ≤ i ∧ impl_firstOf.joinsB (at_ l k) (at_ l i) = true := by
 obtain ⟨k, h1, h2, _, h4⟩ := scan_le l i l.length 0 (by omega) (by omega) hi; exact ⟨k, h1, h2, h4⟩
def merge (l : List EN) : Nat → Nat → List EN → List EN
 | _, 0, acc => acc
 | i, d + 1, acc => if firstM l i = (i : Int) then merge l (i + 1) d (acc ++ [at_ l i]) else merge l (i + 1) d acc
def mergeM (l : List EN) : List EN × Bool := if bookB l = true then (merge l 0 l.length [], true) else ([], false)
theorem mergeImpl (l : List EN) (hv : bookB l = true) : ∀ (d i : Nat) (acc : List EN), i + d = l.length → acc.length ≤ i → Ev (fun k => impl_MergePairs.l0 k l acc l (l.length : Int) (i : Int)) (merge l i d acc, true) := by
 have hn := book_len hv; intro d
 induction d with
 | zero =>
  intro i acc hi ha; exact Ev.step (f := fun _ => some (acc, true)) (fun k => by simp only [impl_MergePairs.l0]; rw [if_neg (by omega)]) (Ev.now _)
 | succ d ih =>
  intro i acc hi ha; have b0 : 0 ≤ (i : Int) := by omega
  have b1 : (i : Int) < (l.length : Int) := by omega
  have b2 : acc.length < 2932031007402 := by omega
  have ex : rd_T52 l (i : Int) = at_ l i := rfl; have ef := implFirst_eq l i (by omega) (by omega); have g1 : i + 1 + d = l.length := by omega
  have g2 : acc.length ≤ i + 1 := by omega
  have g3 : (acc ++ [at_ l i]).length ≤ i + 1 := by rw [List.length_append, List.length_singleton]; omega
  have e : wrap64 ((i : Int) + 1) = ((i + 1 : Nat) : Int) := by rw [w64 (by omega) (by omega)]; omega
  rw [merge]; by_cases hc : firstM l i = (i : Int)
  ·
   rw [if_pos hc]; refine Ev.step (fun k => ?_) (ih (i + 1) (acc ++ [at_ l i]) g1 g3); simp only [impl_MergePairs.l0]; rw [if_pos b1, if_pos b0, if_pos b1, ef, Option.bind_some, if_pos hc, if_pos b2, e, ex]
  ·
   rw [if_neg hc]; refine Ev.step (fun k => ?_) (ih (i + 1) acc g1 g2); simp only [impl_MergePairs.l0]; rw [if_pos b1, if_pos b0, if_pos b1, ef, Option.bind_some, if_neg hc, e]
theorem mergeSpec (l : List EN) (hv : bookB l = true) : ∀ (d i : Nat) (acc : List EN), i + d = l.length → acc.length ≤ i → Ev (fun k => spec_MergePairs.l0 k l acc (i : Int)) (merge l i d acc, true) := by
 have hn := book_len hv; intro d
 induction d with
 | zero =>
  intro i acc hi ha; exact Ev.step (f := fun _ => some (acc, true)) (fun k => by simp only [spec_MergePairs.l0]; rw [if_neg (by omega)]) (Ev.now _)
 | succ d ih =>
  intro i acc hi ha; have b0 : 0 ≤ (i : Int) := by omega
  have b1 : (i : Int) < (l.length : Int) := by omega
  have b2 : acc.length < 2932031007402 := by omega
  have ex : rd_T52 l (i : Int) = at_ l i := rfl; obtain ⟨K1, h1⟩ := specFirst_ev l hv i (by omega)
  dsimp only at h1
  have g1 : i + 1 + d = l.length := by omega
  have g2 : acc.length ≤ i + 1 := by omega
  have g3 : (acc ++ [at_ l i]).length ≤ i + 1 := by rw [List.length_append, List.length_singleton]; omega
  have e : wrap64 ((i : Int) + 1) = ((i + 1 : Nat) : Int) := by rw [w64 (by omega) (by omega)]; omega
  rw [merge]; by_cases hc : firstM l i = (i : Int)
  ·
   rw [if_pos hc]; obtain ⟨K2, h2⟩ := ih (i + 1) (acc ++ [at_ l i]) g1 g3; clear e; refine ⟨max K1 K2 + 1, fun k hk => ?_⟩; obtain ⟨k, rfl⟩ : ∃ m, k = m + 1 := ⟨k - 1, by omega⟩
   have k1 : K1 ≤ k := by omega
   have k2 : K2 ≤ k := by omega
   have e : wrap64 ((i : Int) + 1) = ((i + 1 : Nat) : Int) := by rw [w64 (by omega) (by omega)]; omega
   simp only [spec_MergePairs.l0]; rw [if_pos b1, h1 k k1, Option.bind_some, if_pos hc, if_pos b0, if_pos b2, e, ex]; exact h2 k k2
  ·
   rw [if_neg hc]; obtain ⟨K2, h2⟩ := ih (i + 1) acc g1 g2; clear e; refine ⟨max K1 K2 + 1, fun k hk => ?_⟩; obtain ⟨k, rfl⟩ : ∃ m, k = m + 1 := ⟨k - 1, by omega⟩
   have k1 : K1 ≤ k := by omega
   have k2 : K2 ≤ k := by omega
   have e : wrap64 ((i : Int) + 1) = ((i + 1 : Nat) : Int) := by rw [w64 (by omega) (by omega)]; omega
   simp only [spec_MergePairs.l0]; rw [if_pos b1, h1 k k1, Option.bind_some, if_neg hc, e]; exact h2 k k2
theorem implMerge_ev (l : List EN) (hb : l.length ≤ 140737488351232) : Ev (fun k => impl_MergePairs.f k l) (mergeM l) := by
 unfold impl_MergePairs.f mergeM; refine Ev.bindc (isBook_eq l) ?_; exact Ev.ite (fun hv => mergeImpl l hv l.length 0 [] (by omega) (by simp)) (fun _ => Ev.now _)
theorem specMerge_ev (l : List EN) (hb : l.length ≤ 140737488351232) : Ev (fun k => spec_MergePairs.f k l) (mergeM l) := by
 unfold spec_MergePairs.f mergeM; refine Ev.bindc rfl ?_; refine Ev.bind (l7Book_ev l hb) ?_; exact Ev.ite (fun hv => mergeSpec l hv l.length 0 [] (by omega) (by simp)) (fun _ => Ev.now _)
theorem merge_length (l : List EN) : ∀ (d i : Nat) (acc : List EN), (merge l i d acc).length ≤ acc.length + d
 | 0, i, acc => by simp [merge]
 | d + 1, i, acc => by
  rw [merge]; split
  ·
   have := merge_length l d (i + 1) (acc ++ [at_ l i]); rw [List.length_append, List.length_singleton] at this; omega
  ·
   have := merge_length l d (i + 1) acc; omega
theorem mergeM_length (l : List EN) : (mergeM l).1.length ≤ 12 := by
 unfold mergeM; split
 ·
  rename_i hv
  have := book_len hv; have := merge_length l l.length 0 []; simp at this; show (merge l 0 l.length []).length ≤ 12; omega
 · simp
def cO (x : EN) : Int := if x.f5 = true then (x.f3 + 180) % 360 else x.f3
def sO (x : EN) : Int := if x.f5 = true then -x.f4 else x.f4
theorem cO_bound {x : EN} (h : okE x = true) : 0 ≤ cO x ∧ cO x ≤ 359 := by
 have := okE_iff h; unfold cO; split <;> omega
theorem sO_bound {x : EN} (h : okE x = true) : -90 ≤ sO x ∧ sO x ≤ 90 := by
 have := okE_iff h; unfold sO; split <;> omega
theorem fw_impl {x : EN} (h : okE x = true) : impl_Entry_forwards.f x.f0 x.f1 x.f2 x.f3 x.f4 x.f5 = some (x.f0, x.f1, x.f2, cO x, sO x) := by
 have := okE_iff h; unfold impl_Entry_forwards.f cO sO; by_cases h5 : x.f5 = true
 · rw [if_pos h5, if_pos h5, if_pos h5, w64 (x := x.f3 + 180) (by omega) (by omega), w64 (x := -x.f4) (by omega) (by omega), Int.tmod_eq_emod_of_nonneg (by omega)]
 · rw [if_neg h5, if_neg h5, if_neg h5]
theorem fw_spec {x : EN} (h : okE x = true) : spec_l7Leg.f x.f0 x.f1 x.f2 x.f3 x.f4 x.f5 = some (x.f0, x.f1, x.f2, cO x, sO x) := fw_impl h
def absI (x : Int) : Int := if x < 0 then -x else x
def cB (a b : EN) : Int := if b.f0 = a.f0 then cO b else (cO b + 180) % 360
def sB (a b : EN) : Int := if b.f0 = a.f0 then sO b else -sO b
def tn (a b : EN) : Int := if absI (cO a - cB a b) < 360 - absI (cO a - cB a b) then absI (cO a - cB a b) else 360 - absI (cO a - cB a b)
def agr (a b : EN) : Bool := decide (tn a b ≤ 2) && (decide (absI (sO a - sB a b) ≤ 2) && decide (absI (a.f2 - b.f2) ≤ 2))
theorem abs_eq (x : Int) (h1 : -1000 ≤ x) (h2 : x ≤ 1000) : impl_absolute.f x = some (absI x) := by
 unfold impl_absolute.f; rw [w64 (by omega) (by omega)]
 congr 1
 unfold mx absI; split <;> split <;> omega
theorem turn_eq (a b : Int) (h1 : 0 ≤ a ∧ a ≤ 359) (h2 : 0 ≤ b ∧ b ≤ 359) : impl_turn.f a b = some (if absI (a - b) < 360 - absI (a - b) then absI (a - b) else 360 - absI (a - b)) := by
 unfold impl_turn.f; rw [w64 (x := a - b) (by omega) (by omega), abs_eq _ (by omega) (by omega), Option.bind_some]; have hb : 0 ≤ absI (a - b) ∧ absI (a - b) ≤ 359 := by unfold absI; split <;> omega
 generalize absI (a - b) = t at *; rw [w64 (by omega) (by omega)]
 congr 1
 unfold mn; split <;> split <;> omega
theorem cB_bound {a b : EN} (h : okE b = true) : 0 ≤ cB a b ∧ cB a b ≤ 359 := by
 have := cO_bound h; unfold cB; split <;> omega
theorem sB_bound {a b : EN} (h : okE b = true) : -90 ≤ sB a b ∧ sB a b ≤ 90 := by
 have := sO_bound h; unfold sB; split <;> omega
theorem agree_eq {a b : EN} (ha : okE a = true) (hb : okE b = true) : impl_agree.f a.f0 a.f1 a.f2 (cO a) (sO a) b.f0 b.f1 b.f2 (cO b) (sO b) 2 2 = some (agr a b) := by
 have a1 := cO_bound ha; have a2 := sO_bound ha; have a3 := okE_iff ha; have b1 := cO_bound hb; have b2 := sO_bound hb; have b3 := okE_iff hb; have c1 := cB_bound (a := a) hb; have c2 := sB_bound (a := a) hb
 have key : ∀ (c s : Int), c = cB a b → s = sB a b → ((impl_turn.f (cO a) c).bind fun t => if t ≤ 2 then ((impl_absolute.f (wrap64 (sO a - s))).bind fun t => if t ≤ 2 then ((impl_absolute.f (wrap64 (a.f2 - b.f2))).bind fun t => some (decide (t ≤ 2))) else some false) else some false) = some (agr a b) := by
  rintro c s rfl rfl; rw [turn_eq _ _ a1 c1, Option.bind_some, w64 (x := sO a - sB a b) (by omega) (by omega), w64 (x := a.f2 - b.f2) (by omega) (by omega), abs_eq _ (by omega) (by omega), abs_eq _ (by omega) (by omega), Option.bind_some, Option.bind_some]; show (if tn a b ≤ 2 then _ else _) = _; unfold agr; by_cases h1 : tn a b ≤ 2
  ·
   by_cases h2 : absI (sO a - sB a b) ≤ 2
   · simp [h1, h2]
   · simp [h1, h2]
  · simp [h1]
 unfold impl_agree.f; by_cases h : b.f0 = a.f0
 ·
  rw [if_pos h]; exact key (cO b) (sO b) (by unfold cB; rw [if_pos h]) (by unfold sB; rw [if_pos h])
 ·
  rw [if_neg h]; simp only [impl_Leg_reverse.f, impl_back.f, Option.bind_some]; rw [w64 (x := cO b + 180) (by omega) (by omega), w64 (x := -sO b) (by omega) (by omega), Int.tmod_eq_emod_of_nonneg (by omega)]; exact key _ _ (by unfold cB; rw [if_neg h]) (by unfold sB; rw [if_neg h])
theorem apart_eq (a b : Int) (h1 : -1000 ≤ a ∧ a ≤ 1000) (h2 : -1000 ≤ b ∧ b ≤ 1000) : spec_l7Apart.f a b = some (absI (a - b)) := by
 unfold spec_l7Apart.f spec_l1Most.f; rw [w64 (x := a - b) (by omega) (by omega), w64 (x := b - a) (by omega) (by omega)]; unfold absI; by_cases h : a - b > b - a
 ·
  rw [if_pos h, if_neg (by omega)]; rfl
 ·
  rw [if_neg h]; show some (b - a) = _; by_cases h' : a - b < 0
  ·
   rw [if_pos h']
   congr 1
   omega
  ·
   rw [if_neg h']
   congr 1
   omega
theorem turned_self {a : EN} (ha : okE a = true) : spec_l7Turned.f a.f0 a.f1 a.f2 a.f3 a.f4 a.f5 a.f0 = some (a.f0, a.f1, a.f2, cO a, sO a) := by
 unfold spec_l7Turned.f; rw [fw_spec ha, Option.bind_some, if_pos rfl]
theorem turned_other {a b : EN} (hb : okE b = true) : ∃ u v : Int, spec_l7Turned.f b.f0 b.f1 b.f2 b.f3 b.f4 b.f5 a.f0 = some (u, v, b.f2, cB a b, sB a b) := by
 have b1 := cO_bound hb; have b2 := sO_bound hb; unfold spec_l7Turned.f; rw [fw_spec hb, Option.bind_some]; unfold cB sB; by_cases h : b.f0 = a.f0
 · exact ⟨_, _, (by rw [if_pos h, if_pos h, if_pos h])⟩
 · exact ⟨_, _, (by rw [if_neg h, if_neg h, if_neg h, w64 (x := cO b + 180) (by omega) (by omega), w64 (x := -sO b) (by omega) (by omega), Int.tmod_eq_emod_of_nonneg (by omega)])⟩
def firstN (l : List EN) (i : Nat) : EN := at_ l (firstM l i).toNat
def errs (l : List EN) : Nat → Nat → List Int → List Int
 | _, 0, acc => acc
 | i, d + 1, acc => if agr (firstN l i) (at_ l i) = true then errs l (i + 1) d acc else errs l (i + 1) d (acc ++ [(i : Int)])
def errsM (l : List EN) : List Int × Bool := if bookB l = true then (errs l 0 l.length [], true) else ([], false)
theorem errsImpl (l : List EN) (hv : bookB l = true) : ∀ (d i : Nat) (acc : List Int), i + d = l.length → acc.length ≤ i → Ev (fun k => impl_PairErrors.l0 k l acc l (l.length : Int) (i : Int)) (errs l i d acc, true) := by
 have hn := book_len hv; intro d
 induction d with
 | zero =>
  intro i acc hi ha; exact Ev.step (f := fun _ => some (acc, true)) (fun k => by simp only [impl_PairErrors.l0]; rw [if_neg (by omega)]) (Ev.now _)
 | succ d ih =>
  intro i acc hi ha; have hil : i < l.length := by omega
  obtain ⟨q, hq, hqi, _⟩ := firstM_spec l i hil; have b0 : 0 ≤ (i : Int) := by omega
  have b1 : (i : Int) < (l.length : Int) := by omega
  have b2 : acc.length < 17592186044416 := by omega
  have b3 : 0 ≤ (q : Int) := by omega
  have b4 : (q : Int) < (l.length : Int) := by omega
  have b5 : q < l.length := by omega
  have g1 : i + 1 + d = l.length := by omega
  have g2 : acc.length ≤ i + 1 := by omega
  have g3 : (acc ++ [(i : Int)]).length ≤ i + 1 := by rw [List.length_append, List.length_singleton]; omega
  have ex : rd_T52 l (i : Int) = at_ l i := rfl; have ey : rd_T52 l (q : Int) = at_ l q := rfl; have ef := implFirst_eq l i hil (by omega); have eN : firstN l i = at_ l q := by unfold firstN; rw [hq]; rfl
  have e : wrap64 ((i : Int) + 1) = ((i + 1 : Nat) : Int) := by rw [w64 (by omega) (by omega)]; omega
  have va := book_at hv b5; have vb := book_at hv hil; rw [hq] at ef; rw [errs, eN]
  have step : ∀ k, impl_PairErrors.l0 (k + 1) l acc l (l.length : Int) (i : Int) = if agr (at_ l q) (at_ l i) = true then impl_PairErrors.l0 k l acc l (l.length : Int) ((i + 1 : Nat) : Int) else impl_PairErrors.l0 k l (acc ++ [(i : Int)]) l (l.length : Int) ((i + 1 : Nat) : Int) := by
   intro k; simp only [impl_PairErrors.l0]; rw [if_pos b1, if_pos b0, if_pos b1, ef, Option.bind_some, if_pos b3, if_pos b4, ex, ey, fw_impl (x := at_ l q) va, Option.bind_some, fw_impl (x := at_ l i) vb, Option.bind_some, agree_eq (a := at_ l q) (b := at_ l i) va vb, Option.bind_some, if_pos b2, e]
  by_cases hc : agr (at_ l q) (at_ l i) = true
  ·
   rw [if_pos hc]; exact Ev.step (fun k => by rw [step, if_pos hc]) (ih (i + 1) acc g1 g2)
  ·
   rw [if_neg hc]; exact Ev.step (fun k => by rw [step, if_neg hc]) (ih (i + 1) (acc ++ [(i : Int)]) g1 g3)
theorem errsSpec (l : List EN) (hv : bookB l = true) : ∀ (d i : Nat) (acc : List Int), i + d = l.length → acc.length ≤ i → Ev (fun k => spec_PairErrors.l0 k l acc (i : Int)) (errs l i d acc, true) := by
 have hn := book_len hv; intro d
 induction d with
 | zero =>
  intro i acc hi ha; exact Ev.step (f := fun _ => some (acc, true)) (fun k => by simp only [spec_PairErrors.l0]; rw [if_neg (by omega)]) (Ev.now _)
 | succ d ih =>
  intro i acc hi ha; have hil : i < l.length := by omega
  obtain ⟨q, hq, hqi, _⟩ := firstM_spec l i hil; have b0 : 0 ≤ (i : Int) := by omega
  have b1 : (i : Int) < (l.length : Int) := by omega
  have b2 : acc.length < 17592186044416 := by omega
  have b3 : 0 ≤ (q : Int) := by omega
  have b4 : (q : Int) < (l.length : Int) := by omega
  have b5 : q < l.length := by omega
  have g1 : i + 1 + d = l.length := by omega
  have g2 : acc.length ≤ i + 1 := by omega
  have g3 : (acc ++ [(i : Int)]).length ≤ i + 1 := by rw [List.length_append, List.length_singleton]; omega
  have ex : rd_T52 l (i : Int) = at_ l i := rfl; have ey : rd_T52 l (q : Int) = at_ l q := rfl; have eN : firstN l i = at_ l q := by unfold firstN; rw [hq]; rfl
  have va : okE (at_ l q) = true := book_at hv b5; have vb : okE (at_ l i) = true := book_at hv hil; obtain ⟨K1, h1⟩ := specFirst_ev l hv i hil
  dsimp only at h1
  rw [hq] at h1; rw [errs, eN]; obtain ⟨u, v, ho⟩ := turned_other (a := at_ l q) vb; have a1 := cO_bound va; have a2 := sO_bound va; have a3 := okE_iff va; have c1 := cB_bound (a := at_ l q) vb; have c2 := sB_bound (a := at_ l q) vb; have c3 := okE_iff vb; have p1 := apart_eq (cO (at_ l q)) (cB (at_ l q) (at_ l i)) (by omega) (by omega); have p2 := apart_eq (at_ l q).f2 (at_ l i).f2 (by omega) (by omega); have p3 := apart_eq (sO (at_ l q)) (sB (at_ l q) (at_ l i)) (by omega) (by omega); have hb : 0 ≤ absI (cO (at_ l q) - cB (at_ l q) (at_ l i)) ∧ absI (cO (at_ l q) - cB (at_ l q) (at_ l i)) ≤ 359 := by unfold absI; split <;> omega
  have pl : spec_l1Least.f (absI (cO (at_ l q) - cB (at_ l q) (at_ l i))) (wrap64 (360 - absI (cO (at_ l q) - cB (at_ l q) (at_ l i)))) = some (tn (at_ l q) (at_ l i)) := by
   rw [w64 (by omega) (by omega)]; unfold spec_l1Least.f tn; split <;> rfl
  have e : wrap64 ((i : Int) + 1) = ((i + 1 : Nat) : Int) := by rw [w64 (by omega) (by omega)]; omega
  have step : ∀ k, K1 ≤ k → spec_PairErrors.l0 (k + 1) l acc (i : Int) = if agr (at_ l q) (at_ l i) = true then spec_PairErrors.l0 k l acc ((i + 1 : Nat) : Int) else spec_PairErrors.l0 k l (acc ++ [(i : Int)]) ((i + 1 : Nat) : Int) := by
   intro k hk; simp only [spec_PairErrors.l0]; rw [if_pos b1, h1 k hk, Option.bind_some, if_pos b3, if_pos b4, ey, turned_self va, Option.bind_some, if_pos b0, ex, ho, Option.bind_some, p1, Option.bind_some, p2, Option.bind_some, if_pos b2, pl, Option.bind_some, p3, Option.bind_some, e]; unfold agr; by_cases t1 : absI ((at_ l q).f2 - (at_ l i).f2) ≤ 2
   ·
    rw [if_neg (show ¬ absI ((at_ l q).f2 - (at_ l i).f2) > 2 from Int.not_lt.2 t1)]; by_cases t2 : tn (at_ l q) (at_ l i) ≤ 2
    ·
     rw [if_neg (show ¬ tn (at_ l q) (at_ l i) > 2 from Int.not_lt.2 t2)]; by_cases t3 : absI (sO (at_ l q) - sB (at_ l q) (at_ l i)) ≤ 2
     ·
      rw [if_neg (show ¬ absI (sO (at_ l q) - sB (at_ l q) (at_ l i)) > 2 from Int.not_lt.2 t3)]; simp [t1, t2, t3]
     ·
      rw [if_pos (show absI (sO (at_ l q) - sB (at_ l q) (at_ l i)) > 2 from Int.not_le.1 t3)]; simp [t3]
    ·
     rw [if_pos (show tn (at_ l q) (at_ l i) > 2 from Int.not_le.1 t2)]; simp [t2]
   ·
    rw [if_pos (show absI ((at_ l q).f2 - (at_ l i).f2) > 2 from Int.not_le.1 t1)]; simp [t1]
  clear e pl; by_cases hc : agr (at_ l q) (at_ l i) = true
  ·
   rw [if_pos hc]; obtain ⟨K2, h2⟩ := ih (i + 1) acc g1 g2; refine ⟨max K1 K2 + 1, fun k hk => ?_⟩; obtain ⟨k, rfl⟩ : ∃ m, k = m + 1 := ⟨k - 1, by omega⟩
   dsimp only
   rw [step k (by omega), if_pos hc]; exact h2 k (by omega)
  ·
   rw [if_neg hc]; obtain ⟨K2, h2⟩ := ih (i + 1) (acc ++ [(i : Int)]) g1 g3; refine ⟨max K1 K2 + 1, fun k hk => ?_⟩; obtain ⟨k, rfl⟩ : ∃ m, k = m + 1 := ⟨k - 1, by omega⟩
   dsimp only
   rw [step k (by omega), if_neg hc]; exact h2 k (by omega)
theorem implErrs_ev (l : List EN) (hb : l.length ≤ 140737488351232) : Ev (fun k => impl_PairErrors.f k l) (errsM l) := by
 unfold impl_PairErrors.f errsM; refine Ev.bindc (isBook_eq l) ?_; exact Ev.ite (fun hv => errsImpl l hv l.length 0 [] (by omega) (by simp)) (fun _ => Ev.now _)
theorem specErrs_ev (l : List EN) (hb : l.length ≤ 140737488351232) : Ev (fun k => spec_PairErrors.f k l) (errsM l) := by
 unfold spec_PairErrors.f errsM; refine Ev.bindc rfl ?_; refine Ev.bind (l7Book_ev l hb) ?_; exact Ev.ite (fun hv => errsSpec l hv l.length 0 [] (by omega) (by simp)) (fun _ => Ev.now _)
theorem errs_length (l : List EN) : ∀ (d i : Nat) (acc : List Int), (errs l i d acc).length ≤ acc.length + d
 | 0, i, acc => by simp [errs]
 | d + 1, i, acc => by
  rw [errs]; split
  ·
   have := errs_length l d (i + 1) acc; omega
  ·
   have := errs_length l d (i + 1) (acc ++ [(i : Int)]); rw [List.length_append, List.length_singleton] at this; omega
theorem errsM_length (l : List EN) : (errsM l).1.length ≤ 12 := by
 unfold errsM; split
 ·
  rename_i hv
  have := book_len hv; have := errs_length l l.length 0 []; simp at this; show (errs l 0 l.length []).length ≤ 12; omega
 · simp
end Go.Proofs.Ytlipaiabjcaeiaa.Book
namespace Go.Proofs.Ytlipaiabjcaeiaa.Book
open Go.RowKit YtlipaiabjcaeiaaW.PrintWords Plain A Ent
def rv (l : List EN) : List EN := (l.map revE).reverse
theorem revE_revE (x : EN) : revE (revE x) = x := by simp [revE]
theorem rv_len (l : List EN) : (rv l).length = l.length := by simp [rv]
theorem rv_rv (l : List EN) : rv (rv l) = l := by
 unfold rv; rw [List.map_reverse, List.reverse_reverse, List.map_map]; have : (revE ∘ revE) = id := funext revE_revE; rw [this, List.map_id]
theorem got_take (l : List EN) : ∀ k, k ≤ l.length → gotE (upB l k) = ((l.drop (l.length - k)).map revE).reverse
 | 0, _ => by
  rw [Nat.sub_zero, List.drop_length]; rfl
 | k + 1, h => by
  have hi : l.length - 1 - k < l.length := by omega
  have e : l.drop (l.length - (k + 1)) = l.getD (l.length - 1 - k) z :: l.drop (l.length - k) := by
   rw [show l.length - (k + 1) = l.length - 1 - k by omega, List.drop_eq_getElem_cons hi, show l.length - 1 - k + 1 = l.length - k by omega]
   congr 1
   simp [List.getD, hi]
  rw [upB, gotE_snoc, got_take l k (by omega), e, List.map_cons, List.reverse_cons]
theorem got_all (l : List EN) : gotE (upB l l.length) = rv l := by
 rw [got_take l l.length (Nat.le_refl _), Nat.sub_self, List.drop_zero]; rfl
theorem legB_swap (a b c d e : Int) : legB b a c d e = legB a b c d e := by
 unfold legB; have : decide (b ≠ a) = decide (a ≠ b) := decide_eq_decide.2 ⟨fun h e => h e.symm, fun h e => h e.symm⟩; rw [this]; cases inR a 0 7 <;> cases inR b 0 7 <;> simp
theorem okE_rev (x : EN) : okE (revE x) = okE x := legB_swap _ _ _ _ _
theorem bookB_rv (l : List EN) : bookB (rv l) = bookB l := by
 unfold bookB; rw [rv_len]; unfold rv; rw [List.all_reverse, List.all_map]; have : (okE ∘ revE) = okE := funext okE_rev; rw [this]
theorem revM_rv (l : List EN) (h : bookB l = true) : revM (rv l) = (l, true) := by
 unfold revM; rw [bookB_rv, if_pos h, got_all, rv_rv]
theorem rv_at (l : List EN) (i : Nat) (h : i < l.length) : (rv l).getD (l.length - 1 - i) z = revE (l.getD i z) := by
 have e2 : l.length - 1 - (l.length - 1 - i) = i := by omega
 unfold rv; rw [List.getD_eq_getElem?_getD, List.getElem?_reverse qz125, List.length_map, List.getElem?_map, e2]; simp [List.getD, h]
def sumT : List EN → Int
 | [] => 0
 | x :: r => x.f2 + sumT r
theorem sumT_app : ∀ a b : List EN, sumT (a ++ b) = sumT a + sumT b
 | [], b => by simp [sumT]
 | x :: a, b => by rw [List.cons_append, sumT, sumT, sumT_app a b, Int.add_assoc]
theorem sumT_rev : ∀ l : List EN, sumT l.reverse = sumT l
 | [] => rfl
 | x :: r => by rw [List.reverse_cons, sumT_app, sumT_rev r, sumT, sumT, sumT]; omega
theorem sumT_map : ∀ l : List EN, sumT (l.map revE) = sumT l
 | [] => rfl
 | x :: r => by rw [List.map_cons, sumT, sumT, sumT_map r]; rfl
theorem sumT_rv (l : List EN) : sumT (rv l) = sumT l := by unfold rv; rw [sumT_rev, sumT_map]
theorem len_sum {l : List EN} (h : bookB l = true) : ∀ (d i : Nat) (acc : Int), i + d = l.length → 0 ≤ acc → acc ≤ 500 * i → lenFrom l i d acc = acc + sumT (l.drop i)
 | 0, i, acc, hi, _, _ => by
  rw [show i = l.length by omega, List.drop_length]; simp [lenFrom, sumT]
 | d + 1, i, acc, hi, h0, h1 => by
  have hil : i < l.length := by omega
  have ho := okE_iff (book_at h hil); have hn := book_len h
  have e : l.drop i = l.getD i z :: l.drop (i + 1) := by
   rw [List.drop_eq_getElem_cons hil]
   congr 1
   simp [List.getD, hil]
  have hh := len_sum h d (i + 1) (acc + (l.getD i z).f2) (by omega) (by omega) (by omega); rw [lenFrom, w64 (by omega) (by omega), hh, e, sumT]; omega
theorem lenM_sum (l : List EN) : lenM l = if bookB l = true then (sumT l, true) else (0, false) := by
 unfold lenM; by_cases h : bookB l = true
 · rw [if_pos h, if_pos h, len_sum h l.length 0 0 (by omega) (by omega) (by omega), List.drop_zero, Int.zero_add]
 · rw [if_neg h, if_neg h]
theorem lenM_rv (l : List EN) : lenM (rv l) = lenM l := by rw [lenM_sum, lenM_sum, bookB_rv, sumT_rv]
def Sole (l : List EN) : Prop := ∀ i j, i < j → j < l.length → impl_firstOf.joinsB (at_ l i) (at_ l j) = false
theorem scan_hit (l : List EN) (y : EN) (m : Nat) (hm : impl_firstOf.joinsB (at_ l m) y = true) : ∀ (d i : Nat), i ≤ m → m < i + d → ∃ k : Nat, scan l y i d = (k : Int) ∧ k ≤ m
 | 0, i, h1, h2 => by omega
 | d + 1, i, h1, h2 => by
  show ∃ k : Nat, (if impl_firstOf.joinsB (l.getD i z) y = true then (i : Int) else scan l y (i + 1) d) = (k : Int) ∧ k ≤ m
  by_cases h : impl_firstOf.joinsB (l.getD i z) y = true
  ·
   rw [if_pos h]; exact ⟨i, rfl, h1⟩
  ·
   rw [if_neg h]; have : i ≠ m := fun e => h (by rw [e]; exact hm)
   exact scan_hit l y m hm d (i + 1) (by omega) (by omega)
theorem first_low {l : List EN} {i j : Nat} (hij : i < j) (hj : j < l.length) (h : firstM l j = (j : Int)) : impl_firstOf.joinsB (at_ l i) (at_ l j) = false := by
 cases hb : impl_firstOf.joinsB (at_ l i) (at_ l j) with
 | false => rfl
 | true =>
  obtain ⟨k, h1, h2⟩ := scan_hit l (at_ l j) i hb l.length 0 (by omega) (by omega); have : firstM l j = (k : Int) := h1; omega
theorem first_of_sole {l : List EN} (h : Sole l) {j : Nat} (hj : j < l.length) : firstM l j = (j : Int) := by
 obtain ⟨k, h1, h2, h3⟩ := firstM_spec l j hj; rw [h1]; rcases Nat.lt_or_eq_of_le h2 with hk | rfl
 ·
  rw [h k j hk hj] at h3; cases h3
 · rfl
theorem at_app (a b : List EN) (i : Nat) : at_ (a ++ b) i = if i < a.length then at_ a i else at_ b (i - a.length) := by
 unfold at_; simp only [List.getD_eq_getElem?_getD, List.getElem?_append]; split <;> rfl
theorem merge_sole (l : List EN) : ∀ (d i : Nat) (acc : List EN), i + d = l.length → Sole acc → (∀ t, t < acc.length → ∃ m, m < i ∧ at_ acc t = at_ l m) → Sole (merge l i d acc) ∧ (∀ t, t < (merge l i d acc).length → ∃ m, m < l.length ∧ at_ (merge l i d acc) t = at_ l m)
 | 0, i, acc, hi, hs, hm => ⟨hs, fun t ht => by obtain ⟨m, h1, h2⟩ := hm t ht; exact ⟨m, by omega, h2⟩⟩
 | d + 1, i, acc, hi, hs, hm => by
  have hil : i < l.length := by omega
  rw [merge]; by_cases h : firstM l i = (i : Int)
  ·
   rw [if_pos h]; have hlen : (acc ++ [at_ l i]).length = acc.length + 1 := by rw [List.length_append, List.length_singleton]
   refine merge_sole l d (i + 1) (acc ++ [at_ l i]) (by omega) (fun a b hab hb => ?_) (fun t ht => ?_)
   ·
    rw [hlen] at hb; rw [at_app, at_app, if_pos (by omega)]; by_cases hb2 : b < acc.length
    ·
     rw [if_pos hb2]; exact hs a b hab hb2
    ·
     rw [if_neg hb2, show b - acc.length = 0 by omega]; obtain ⟨m, h1, h2⟩ := hm a (by omega); rw [h2]; exact first_low h1 hil h
   ·
    rw [hlen] at ht; rw [at_app]; by_cases ht2 : t < acc.length
    ·
     rw [if_pos ht2]; obtain ⟨m, h1, h2⟩ := hm t ht2; exact ⟨m, by omega, h2⟩
    ·
     rw [if_neg ht2, show t - acc.length = 0 by omega]; exact ⟨i, by omega, rfl⟩
  ·
   rw [if_neg h]; exact merge_sole l d (i + 1) acc (by omega) hs (fun t ht => by obtain ⟨m, h1, h2⟩ := hm t ht; exact ⟨m, by omega, h2⟩)
theorem all_at (l : List EN) (P : EN → Bool) : l.all P = true ↔ ∀ i, i < l.length → P (at_ l i) = true := by
 rw [List.all_eq_true]
 constructor
 ·
  intro h i hi; have : at_ l i = l[i] := by simp [at_, List.getD, hi]
  rw [this]; exact h _ (List.getElem_mem hi)
 ·
  intro h x hx; obtain ⟨i, hi, e⟩ := List.getElem_of_mem hx; have := h i hi; have e2 : at_ l i = l[i] := by simp [at_, List.getD, hi]
  rw [e2, e] at this; exact this
theorem merge_book {l : List EN} (h : bookB l = true) : Sole (merge l 0 l.length []) ∧ bookB (merge l 0 l.length []) = true := by
 obtain ⟨h1, h2⟩ := merge_sole l l.length 0 [] (by omega) (fun i j _ hj => by cases hj) (fun t ht => by cases ht); refine ⟨h1, ?_⟩; have hl := merge_length l l.length 0 []; have hn := book_len h; unfold bookB; rw [Bool.and_eq_true, decide_eq_true_eq]; refine ⟨(all_at _ _).2 fun i hi => ?_, (by simp at hl; omega)⟩; obtain ⟨m, g1, g2⟩ := h2 i hi; rw [g2]; exact book_at h g1
theorem merge_id {l : List EN} (h : Sole l) : ∀ (d i : Nat) (acc : List EN), i + d = l.length → merge l i d acc = acc ++ l.drop i
 | 0, i, acc, hi => by rw [show i = l.length by omega, List.drop_length, List.append_nil]; rfl
 | d + 1, i, acc, hi => by
  have hil : i < l.length := by omega
  have e : l.drop i = at_ l i :: l.drop (i + 1) := by
   rw [List.drop_eq_getElem_cons hil]
   congr 1
   simp [at_, List.getD, hil]
  rw [merge, if_pos (first_of_sole h hil), merge_id h d (i + 1) _ (by omega), e, List.append_assoc]; rfl
theorem merge_again (l : List EN) (h : bookB l = true) : mergeM (merge l 0 l.length []) = (merge l 0 l.length [], true) := by
 obtain ⟨h1, h2⟩ := merge_book h; generalize merge l 0 l.length [] = m at *; unfold mergeM; rw [if_pos h2, merge_id h1 m.length 0 [] (by omega), List.drop_zero, List.nil_append]
theorem agr_self {x : EN} (h : okE x = true) : agr x x = true := by
 unfold agr tn cB sB absI; have := cO_bound h; simp
theorem errs_none {l : List EN} (hb : bookB l = true) (h : Sole l) : ∀ (d i : Nat), i + d = l.length → errs l i d [] = []
 | 0, i, hi => rfl
 | d + 1, i, hi => by
  have hil : i < l.length := by omega
  have e : firstN l i = at_ l i := by unfold firstN; rw [first_of_sole h hil, Int.toNat_natCast]
  rw [errs, e, if_pos (agr_self (show okE (at_ l i) = true from book_at hb hil)), errs_none hb h d (i + 1) (by omega)]
theorem errs_merged (l : List EN) (h : bookB l = true) : errsM (merge l 0 l.length []) = ([], true) := by
 obtain ⟨h1, h2⟩ := merge_book h; unfold errsM; rw [if_pos h2, errs_none h2 h1 _ 0 (by omega)]
theorem legOf_eq (x : EN) (h : okE x = true) : impl_LegOf.f x.f0 x.f1 x.f2 x.f3 x.f4 x.f5 = some (x.f0, x.f1, x.f2, cO x, sO x, true) := by
 unfold impl_LegOf.f; rw [isEntry_eq, Option.bind_some, if_pos (show legB x.f0 x.f1 x.f2 x.f3 x.f4 = true from h), fw_impl h]; rfl
theorem cO_rev {x : EN} (h : okE x = true) : Int.tmod (wrap64 (cO x + 180)) 360 = cO (revE x) := by
 have h1 := cO_bound h; have h2 := okE_iff h; rw [w64 (by omega) (by omega), Int.tmod_eq_emod_of_nonneg (by omega)]; unfold cO revE; cases x.f5 <;> simp <;> omega
theorem sO_rev {x : EN} (h : okE x = true) : sO x = wrap64 (-sO (revE x)) := by
 have h2 := okE_iff h; have h1 := sO_bound (x := revE x) (by rw [okE_rev]; exact h); rw [w64 (by omega) (by omega)]; unfold sO revE; cases x.f5 <;> simp
end Go.Proofs.Ytlipaiabjcaeiaa.Book
namespace Go.Proofs.Ytlipaiabjcaeiaa.Book
open Go.RowKit YtlipaiabjcaeiaaW.PrintWords Plain A Ent Draw
theorem rInts_ev (l : List Int) (hb : l.length ≤ 140737488351232) : Ev (fun k => laws_rInts.f k l l) true := by
 unfold laws_rInts.f; refine Ev.pos rfl ?_
 exact eq_all laws_rInts.l0 (fun k x0 x4 h0 => by
  simp only [laws_rInts.l0, if_true]; by_cases h : x4 < (x0.length : Int)
  · rw [if_pos h, if_pos h0, if_pos h, if_pos h]
  · rw [if_neg h, if_neg h]) l hb
theorem rEntries_ev (l : List EN) (hb : l.length ≤ 140737488351232) : Ev (fun k => laws_rEntries.f k l l) true := by
 unfold laws_rEntries.f; refine Ev.pos rfl ?_
 exact eq_all laws_rEntries.l0 (fun k x0 x4 h0 => by
  simp only [laws_rEntries.l0, beq_self_eq_true, Bool.not_true, Bool.or_self, Bool.false_eq_true, if_false]; by_cases h : x4 < (x0.length : Int)
  · rw [if_pos h, if_pos h0, if_pos h, if_pos h]
  · rw [if_neg h, if_neg h]) l hb
theorem legOf_both (a b c d e : Int) (f : Bool) : ∃ r, impl_LegOf.f a b c d e f = some r ∧ spec_LegOf.f a b c d e f = some r := by
 simp only [spec_LegOf.f, impl_LegOf.f, isEntry_eq, l7One_eq, spec_l7Leg.f, impl_Entry_forwards.f, Option.bind_some]; cases legB a b c d e <;> cases f <;> exact ⟨_, rfl, rfl⟩
theorem j7_law (code : List Int) (hc : Bytes code) (hl : code.length ≤ 65536) : Ev (fun k => laws_FnReverses.j7 k code false) true := by
 obtain ⟨⟨a, b, c, d, e, f⟩, hD, _⟩ := drawLegOf hc hl; obtain ⟨r, h1, h2⟩ := legOf_both a b c d e f; refine Ev.step (fun k => by simp only [laws_FnReverses.j7, Bool.false_eq_true, if_false]; rfl) ?_; refine Ev.bind hD (Ev.bindc h1 (Ev.bindc h2 (Ev.pos (by simp) ?_))); rw [beq_self_eq_true]; exact Ev.now _
theorem j6_law (code : List Int) (hc : Bytes code) (hl : code.length ≤ 65536) : Ev (fun k => laws_FnReverses.j6 k code) true := by
 obtain ⟨l, hD, hn⟩ := drawPairs hc hl; have hlen := errsM_length l; refine Ev.step (fun k => by simp only [laws_FnReverses.j6]; rfl) ?_; refine Ev.bind hD (Ev.bind (implErrs_ev l (by omega)) (Ev.bind (specErrs_ev l (by omega)) ?_)); generalize errsM l = r at *; refine Ev.neg (by simp) (Ev.bind (rInts_ev r.1 (by omega)) ?_); exact j7_law code hc hl
theorem j4_law (code : List Int) (hc : Bytes code) (hl : code.length ≤ 65536) (l : List EN) (hn : l.length ≤ 20) : Ev (fun k => laws_FnReverses.j4 k code l) true := by
 have h6 := j6_law code hc hl; have hlen := mergeM_length l; refine Ev.step (fun k => by simp only [laws_FnReverses.j4]; rfl) ?_; refine Ev.bind (implMerge_ev l (by omega)) (Ev.bind (specMerge_ev l (by omega)) (Ev.neg (by simp) (Ev.bind (rEntries_ev (mergeM l).1 (by omega)) ?_))); by_cases h : bookB l = true
 ·
  have e : mergeM l = (merge l 0 l.length [], true) := by unfold mergeM; rw [if_pos h]
  have i1 := implMerge_ev (merge l 0 l.length []) (by rw [e] at hlen; simp only at hlen; omega); have i2 := implErrs_ev (merge l 0 l.length []) (by rw [e] at hlen; simp only at hlen; omega); rw [merge_again l h] at i1; rw [errs_merged l h] at i2; rw [e] at hlen ⊢; refine Ev.step (fun k => by simp only [laws_FnReverses.j5, Bool.not_true, Bool.false_eq_true, if_false, if_true]; rfl) ?_; exact Ev.bind i1 (Ev.bind i2 (Ev.pos rfl (Ev.bind (rEntries_ev _ (by simp only at hlen ⊢; omega)) (Ev.pos rfl (Ev.pos rfl (Ev.pos rfl h6))))))
 ·
  have e : mergeM l = ([], false) := by unfold mergeM; rw [if_neg h]
  rw [e]; exact Ev.step (f := fun k => laws_FnReverses.j6 k code) (fun k => by simp only [laws_FnReverses.j5, Bool.not_true, Bool.false_eq_true, if_false]) h6
theorem l0_law (code : List Int) (hc : Bytes code) (hl : code.length ≤ 65536) (l : List EN) (hb : bookB l = true) : ∀ (d i : Nat), i + d = l.length → Ev (fun k => laws_FnReverses.l0 k code l (rv l) (i : Int)) true
 | 0, i, hi => by
  have hn := book_len hb; refine Ev.step (f := fun k => laws_FnReverses.j4 k code l) (fun k => ?_) (j4_law code hc hl l (by omega)); rw [laws_FnReverses.l0]; rw [if_neg (by omega)]
 | d + 1, i, hi => by
  have hn := book_len hb; have hil : i < l.length := by omega
  have ho := book_at hb hil; have hor : okE (revE (l.getD i z)) = true := by rw [okE_rev]; exact ho
  have ex : rd_T52 l (i : Int) = l.getD i z := rfl; have ew : wrap64 (wrap64 ((l.length : Int) - 1) - (i : Int)) = ((l.length - 1 - i : Nat) : Int) := by rw [w64 (x := (l.length : Int) - 1) (by omega) (by omega), w64 (by omega) (by omega)]; omega
  have er : rd_T52 (rv l) ((l.length - 1 - i : Nat) : Int) = revE (l.getD i z) := rv_at l i hil; have hnext := l0_law code hc hl l hb d (i + 1) (by omega); have e1 : wrap64 ((i : Int) + 1) = ((i + 1 : Nat) : Int) := by rw [w64 (by omega) (by omega)]; omega
  have g1 := legOf_eq _ ho; have g2 := legOf_eq _ hor; refine Ev.step (fun k => ?_) hnext; rw [laws_FnReverses.l0]; rw [ex, ew, er, e1]; rw [if_pos (show (i : Int) < (l.length : Int) by omega), if_pos (show (0 : Int) ≤ (i : Int) by omega), g1, Option.bind_some, if_pos (show (0 : Int) ≤ ((l.length - 1 - i : Nat) : Int) by omega), if_pos (show ((l.length - 1 - i : Nat) : Int) < ((rv l).length : Int) by rw [rv_len]; omega), g2, Option.bind_some]; simp only; rw [if_pos trivial, if_pos trivial, if_pos (show (l.getD i z).f0 = (revE (l.getD i z)).f1 from rfl), if_pos (show (l.getD i z).f1 = (revE (l.getD i z)).f0 from rfl), if_pos (sO_rev ho), if_pos (cO_rev ho)]
theorem j0_law (code : List Int) (hc : Bytes code) (hl : code.length ≤ 65536) (l : List EN) (hn : l.length ≤ 20) : Ev (fun k => laws_FnReverses.j0 k code l (revM l).1 (revM l).2 false) true := by
 have h4 := j4_law code hc hl l hn; refine Ev.step (fun k => by simp only [laws_FnReverses.j0, Bool.false_eq_true, if_false]; rfl) ?_; refine Ev.bind (implLen_ev l (by omega)) (Ev.bind (specLen_ev l (by omega)) (Ev.pos rfl (Ev.neg (by simp) ?_))); by_cases h : bookB l = true
 ·
  have e : revM l = (rv l, true) := by unfold revM; rw [if_pos h, got_all]
  have e2 : (lenM l).2 = true := by unfold lenM; rw [if_pos h]
  have i1 : impl_ReverseBook.f (rv l) = some (l, true) := by unfold impl_ReverseBook.f; rw [if_pos (by rw [rv_len]; omega), revM_rv l h]
  have i2 := implLen_ev (rv l) (by rw [rv_len]; omega); rw [lenM_rv] at i2; rw [e, e2]; refine Ev.step (fun k => by simp only [laws_FnReverses.j1, bne_self_eq_false, Bool.false_eq_true, if_false, if_true]; rfl) ?_; refine Ev.bindc i1 (Ev.bind i2 (Ev.pos rfl (Ev.bind (rEntries_ev l (by omega)) (Ev.pos rfl (Ev.pos e2 ?_))))); rw [bne_self_eq_false]; refine Ev.step (f := fun k => laws_FnReverses.l0 k code l (rv l) 0) (fun k => by simp only [laws_FnReverses.j2, Bool.false_eq_true, if_false]) ?_; exact l0_law code hc hl l h l.length 0 (by omega)
 ·
  have e : revM l = ([], false) := by unfold revM; rw [if_neg h]
  have e2 : (lenM l).2 = false := by unfold lenM; rw [if_neg h]
  rw [e, e2]; exact Ev.step (f := fun k => laws_FnReverses.j4 k code l) (fun k => by simp only [laws_FnReverses.j1, bne_self_eq_false, Bool.false_eq_true, if_false]) h4
end Go.Proofs.Ytlipaiabjcaeiaa.Book
namespace Go.Proofs.Ytlipaiabjcaeiaa.Pure
open Go.RowKit YtlipaiabjcaeiaaW.PrintWords Plain A Book Draw
theorem FnReverses (code : List Int) (hb : code.length * 1 ≤ 140737488351232) (hw : ∀ x ∈ code, (Lit.int .u8 x).wf = true) : ∃ k, laws_FnReverses.f k code = some true := by
 refine Ev.rounds ?_; have hc := Bytes.of_wf hw; refine Ev.bindc (show laws_rBig.f code = some (decide ((code.length : Int) > 65536)) from rfl) ?_; by_cases c : (code.length : Int) > 65536
 · exact Ev.pos (decide_eq_true c) (Ev.now _)
 have hl : code.length ≤ 65536 := by omega
 refine Ev.neg (by rw [decide_eq_false c]; decide) ?_; obtain ⟨l, hD, hn⟩ := drawReverse hc hl; have hi : impl_ReverseBook.f l = some (revM l) := by unfold impl_ReverseBook.f; rw [if_pos (by omega)]
 have hlen := revM_length l; refine Ev.bind hD (Ev.bindc hi (Ev.bind (specRev_ev l (by omega)) (Ev.neg (by simp) ?_))); refine Ev.bind (rEntries_ev (revM l).1 (by omega)) ?_; exact j0_law code hc hl l hn
end Go.Proofs.Ytlipaiabjcaeiaa.Pure
namespace Go.Proofs.Ytlipaiabjcaeiaa.Opens
open Go.ChangeShapes Go.WideShapes Go.Deep Go.RowKit YtlipaiabjcaeiaaW.PrintWords
theorem list_of {α : Type} {P : Nat → α → Prop} : ∀ (n : Nat), (∀ i, i < n → ∃ x, P i x) → ∃ xs : List α, xs.length = n ∧ ∀ i x, xs[i]? = some x → P i x
 | 0, _ => ⟨[], rfl, fun i x h => by simp at h⟩
 | n + 1, h => by
  obtain ⟨xs, hl, hx⟩ := list_of n (fun i hi => h i (Nat.lt_succ_of_lt hi)); obtain ⟨y, hy⟩ := h n (Nat.lt_succ_self n); refine ⟨xs ++ [y], by simp [hl], fun i x hi => ?_⟩; by_cases hlt : i < xs.length
  ·
   rw [List.getElem?_append_left hlt] at hi; exact hx i x hi
  ·
   rw [List.getElem?_append_right (by omega)] at hi
   have h0 : i - xs.length = 0 := by
    have := (List.getElem?_eq_some_iff.1 hi).1; simp at this; omega
   rw [h0] at hi; simp at hi; subst hi; have : i = n := by omega
   subst this; exact hy
section
variable {H : Type} {enc : TypeId × Value → H} {P : Program} {w : World} {base : Nat} {spare : Nat → Bool} {held : Bool}
theorem open_row {α : Type} (d : Kd α) {Q : α → Prop} {t e : TypeId} {a : Option Addr} {len cap : Nat} {dd : DataW H} {ps : List MemPlace} (ht : P.underlying t = some (.slice e)) (hC : P.cellsOf e = d.sz)
  (hd : ∀ n cs y, DataW.trod enc P w base spare held n e cs = some y → ∃ x, d.K w x cs ∧ Q x)
  (h : DataW.Trod enc P w base spare held t (.slice a len cap) dd ps) : ∃ xs : List α, xs.length = len ∧ len ≤ cap ∧ d.C w a len xs ∧ ∀ x ∈ xs, Q x := by
 obtain ⟨fuel, hf⟩ := h; rcases open_slice ht hf with ⟨hcs, _⟩ | ⟨x, l, c, m, n, D, Pl, hcs, _, hl, hm, hmm, _, hi⟩
 ·
  simp [Value.cells] at hcs; obtain ⟨rfl, rfl, rfl⟩ := hcs; exact ⟨[], rfl, Nat.le_refl _, ⟨rfl, by omega, fun h => by omega⟩, fun x hx => by simp at hx⟩
 ·
  simp [Value.cells] at hcs; obtain ⟨rfl, rfl, rfl⟩ := hcs; have hle : len ≤ m := by subst hmm; split <;> omega
  obtain ⟨xs, hxl, hx⟩ := list_of (P := fun i (z : α) => Q z ∧ ∃ cs, d.K w z cs ∧ w.cells? base (x.add (i * d.sz)) d.sz = some cs) len (fun i hil => by
   obtain ⟨cs, h1, h2⟩ := hi i (by omega); rw [hC] at h1; obtain ⟨z, h3, h4⟩ := hd _ _ _ h2
   exact ⟨z, h4, cs, h3, h1⟩)
  refine ⟨xs, hxl, hl, ⟨hxl, (by unfold maxLen at hm; omega), fun _ => ⟨x, rfl, fun j p hp => ?_⟩⟩, fun z hz => ?_⟩
  ·
   obtain ⟨_, cs, h1, h2⟩ := hx j p hp; obtain ⟨_, hlen, hat⟩ := World.cells?_some h2; refine ⟨cs, hlen, h1, fun i u hu => ?_⟩; have hil : i < d.sz := by have := (List.getElem?_eq_some_iff.1 hu).1; omega
   rw [← Go.Deep.add_add, hat i hil, hu]
  ·
   obtain ⟨j, hj⟩ := List.getElem?_of_mem hz; exact (hx j z hj).1
theorem sized_row {t e : TypeId} {a : Option Addr} {len cap : Nat} {d : DataW H} {ps : List MemPlace} {ts : List TypeId} {ds : List (DataW H)} {j : Nat}
  (hsz : (DataW.weightsEach P ts ds).all (· ≤ reachBytes) = true) (ht : ts[j]? = some t) (hd : ds[j]? = some d) (hu : P.underlying t = some (.slice e)) {B : Nat} (hB : P.bytesOf e = B)
  (h : DataW.Trod enc P w base spare held t (.slice a len cap) d ps) : len * B ≤ 140737488351232 := by
 obtain ⟨fuel, hf⟩ := h; rcases open_slice hu hf with ⟨hcs, _⟩ | ⟨x, l, c, m, n, D, Pl, hcs, _, hl, hm, hmm, hx, hi⟩
 ·
  simp [Value.cells] at hcs; obtain ⟨rfl, rfl, rfl⟩ := hcs; simp
 ·
  simp [Value.cells] at hcs; obtain ⟨rfl, rfl, rfl⟩ := hcs; obtain ⟨hx, _⟩ := Prod.mk.inj hx; subst hx; have z := sized_slice hsz ht hd hu; rw [hB] at z; simp only [List.length_map, List.length_range] at z; have hle : len ≤ m := by subst hmm; split <;> omega
  rw [show len + (m - len) = m by omega] at z; exact Nat.le_trans (Nat.mul_le_mul_right _ hle) z
end
end Go.Proofs.Ytlipaiabjcaeiaa.Opens
namespace Go.Proofs.Ytlipaiabjcaeiaa.fnReverses
open Go.ChangeShapes Go.WideShapes Go.ChangeAt Go.RowKit
open Go.ChangeMaps (open_string shut_string)
open A YtlipaiabjcaeiaaW.PrintWords Opens
theorem own : ownKnob Try.prog.godebug = none := by kernel_rfl
theorem laidOut : laidOutB Try.prog = true := by kernel_rfl
set_option maxRecDepth 100000 in
theorem lifted (os : Os) (started : os.Started) (H : Type) (enc : TypeId × Value → H) :
  ReturnsInHanded {} Try.checked os 4 .any (Rows.fnReversesSpec.pre6 enc Try.prog Try.f4 Rows.fnReversesRow.domain false) (Rows.fnReversesSpec.post enc Try.prog Try.f4 false true false false) := by
 refine returnsInHanded_of_change_sized (C := Try.checked) own started qz88 Try.func4
  (ChangeSpec.witness6 (enc := enc) (C := Try.checked) false ⟨#[], #[.slice none 0 0], []⟩ 8 qz88 qz88 qz88 qz88) ?_
 intro W base args ds gs before hval0 hW hcnd hsz0 _; have hsz : (DataW.weightsEach Try.prog (Try.f4.params.toList ++ Rows.fnReversesSpec.plain.varTypes Try.prog) (ds ++ gs)).all (· ≤ reachBytes) = true := hsz0; have hval : ∀ (j : Nat) t v, Try.f4.params[j]? = some t → args[j]? = some v → Value.okWide Try.prog W .any base t v := hval0
 have hW' := hW; obtain ⟨p, q, hA0, hV, rfl, hfz, hnd⟩ := hW; have hA : DataW.TrodAll enc Try.prog W 0 (fun _ => true) true Try.f4.params.toList args.toList ds p := hA0; rw [Try.params4] at hA hval hsz; obtain ⟨v0, vs0, d0, ds0, p0, q0, hargs, rfl, rfl, h0, r0⟩ := trodAll_cons hA; obtain ⟨rfl, rfl, rfl⟩ := trodAll_nil r0; obtain rfl : args = #[v0] := by cases args; simp_all
 obtain ⟨rfl, rfl⟩ := trodVars_none hV; have k0 := h0; have lt0 : ∀ x ∈ p0, x.block < W.heap.size := by obtain ⟨m, hm⟩ := k0; exact DataW.trod_lt m _ _ _ hm
 obtain ⟨a0, len0, cap0, rfl⟩ := okWide_slice Try.underlying22 (hval 0 22 v0 rfl rfl); obtain ⟨l0, hl0, hc0, hr0, hw0⟩ := Opens.open_row (Kd.int .u8) (Q := fun x => (Lit.int .u8 x).wf = true) (e := 5) Try.underlying22 qz88 (fun _ _ _ h => by obtain ⟨x, rfl, _, hw⟩ := DataW.trod_int Try.underlying5 h; exact ⟨x, rfl, hw⟩) h0; have y0 : len0 * 1 ≤ 140737488351232 := Opens.sized_row hsz (j := 0) (t := 22) rfl rfl Try.underlying22 qz88 h0; subst hl0; clear hA0 hval0 hsz0 hsz; obtain ⟨k, hk⟩ := Pure.FnReverses l0 y0 hw0; refine (laws_FnReverses.calls k _ _ l0 true W hr0 hc0 hk trivial).mono fun e W' ⟨he, hb⟩ => ?_
 have bel : Below W.heap.size W W' := hb; subst he; exact ⟨_, rfl, _, _, _, [], _, [], hW', trodAll_mk1 (shut_bool Try.underlying4 _), (trodAll_cons_mk (Below.trod laidOut qz88 (of_decide_eq_true qz88) k0 bel lt0) trodAll_mk0), rfl, bel.frame _, fun h => by cases h⟩
theorem over : Rows.fnReversesRow.holds Try.pinned (OpenSpec.ofChange Rows.fnReversesSpec) :=
 OpenClaim.holds_of_wide 4 Try.f4 rfl rfl rfl rfl rfl rfl rfl ⟨rfl, rfl, rfl, rfl, rfl⟩ rfl rfl rfl rfl rfl qz88 Try.func4 qz88
  (of_decide_eq_true qz88) (by unfold Func.isWrapper; first | (rw [if_pos (by decide +kernel)]; kernel_rfl) | (rw [if_neg (by decide +kernel)]; exact ⟨rfl, rfl⟩))
  (fun os started H enc _ => lifted os started H enc)
theorem proved : Rows.FnReversesSaid := over
#print axioms proved
end Go.Proofs.Ytlipaiabjcaeiaa.fnReverses
namespace Go.Proofs.Ytlipaiabjcaeiaa
theorem fnReverses_holds : Rows.FnReversesSaid := fnReverses.proved
end Go.Proofs.Ytlipaiabjcaeiaa
