/- The row of the law FnChains: whatever the input, it returns true; its arguments read as they did. No conditions. -/
import Derived.Deep.Slices
import Derived.Deep.Fields
import Derived.ChangeSame
import Derived.SizedLaws
import Derived.Test.YtlipaiabjcaeiaaDoorKFnChainsVMore
import Derived.Test.YtlipaiabjcaeiaaDoorCards
import Derived.Test.YtlipaiabjcaeiaaDoorTie
import Derived.OpenVars
import Derived.ChangeVars
import Derived.SevenTiedAt
import Derived.Stop.Joined
import Derived.LaidMore
import Derived.Test.YtlipaiabjcaeiaaDoorRows
import Derived.WalkKit
import Derived.ProofKit
import Derived.OpenShut
import Derived.ShutString
import Derived.ChangeOld
import Derived.Below
import Derived.Test.YtlipaiabjcaeiaaDoorKFnChains0
import Derived.Test.YtlipaiabjcaeiaaDoorKFnChains1
import Derived.Test.YtlipaiabjcaeiaaDoorKFnChains2
import Derived.Test.YtlipaiabjcaeiaaDoorKFnChains3
import Derived.Test.YtlipaiabjcaeiaaDoorKFnChainsU1
import Derived.Test.YtlipaiabjcaeiaaDoorKFnChainsU2
import Derived.Test.YtlipaiabjcaeiaaDoorKFnChainsU3
/- What a drawing comes to, told by a property alone: 'Oks g P': with enough rounds g answers, and the answer has P. The cursor: next, pick, one, among. -/
namespace Go.Proofs.YtlipaiabjcaeiaaDoor.Draw
open Go Go.RowKit Go.Proofs.YtlipaiabjcaeiaaDoorW.PrintWords Go.Proofs.YtlipaiabjcaeiaaDoor.Plain Go.Proofs.YtlipaiabjcaeiaaDoor.A
set_option linter.unusedVariables false
set_option linter.unusedSimpArgs false
def Oks {α : Type} (g : Nat → Option α) (P : α → Prop) : Prop := ∃ r, Ev g r ∧ P r
theorem Oks.bind {α β : Type} {g : Nat → Option α} {f : Nat → α → Option β} {P : α → Prop} {Q : β → Prop} (h : Oks g P) (k : ∀ r, P r → Oks (fun n => f n r) Q) : Oks (fun n => (g n).bind (f n)) Q := by
  obtain ⟨r, h1, h2⟩ := h
  obtain ⟨q, k1, k2⟩ := k r h2
  exact ⟨q, Ev.bind h1 k1, k2⟩
theorem Oks.now {α : Type} {P : α → Prop} {r : α} (h : P r) : Oks (fun _ => some r) P := ⟨r, Ev.now _, h⟩
theorem Oks.pos {α : Type} {c : Prop} [Decidable c] {g f : Nat → Option α} {P : α → Prop} (hc : c) (h : Oks g P) : Oks (fun n => if c then g n else f n) P := by
  obtain ⟨r, h1, h2⟩ := h
  exact ⟨r, Ev.pos hc h1, h2⟩
theorem Oks.neg {α : Type} {c : Prop} [Decidable c] {g f : Nat → Option α} {P : α → Prop} (hc : ¬ c) (h : Oks f P) : Oks (fun n => if c then g n else f n) P := by
  obtain ⟨r, h1, h2⟩ := h
  exact ⟨r, Ev.neg hc h1, h2⟩
theorem Oks.ite {α : Type} {c : Prop} [Decidable c] {g f : Nat → Option α} {P : α → Prop} (h : c → Oks g P) (k : ¬ c → Oks f P) : Oks (fun n => if c then g n else f n) P := by
  by_cases hc : c
  · exact Oks.pos hc (h hc)
  · exact Oks.neg hc (k hc)
theorem Oks.step {α : Type} {g f : Nat → Option α} {P : α → Prop} (e : ∀ k, g (k + 1) = f k) (h : Oks f P) : Oks g P := by
  obtain ⟨r, h1, h2⟩ := h
  exact ⟨r, Ev.step e h1, h2⟩
theorem Oks.imp {α : Type} {g : Nat → Option α} {P Q : α → Prop} (h : Oks g P) (k : ∀ r, P r → Q r) : Oks g Q := by
  obtain ⟨r, h1, h2⟩ := h
  exact ⟨r, h1, k r h2⟩
theorem Oks.of {α : Type} {g : Nat → Option α} {P : α → Prop} {r : α} (h : Ev g r) (k : P r) : Oks g P := ⟨r, h, k⟩
/-- The bytes of a code. -/
def Bytes (code : List Int) : Prop := ∀ x ∈ code, 0 ≤ x ∧ x ≤ 255
theorem Bytes.of_wf {code : List Int} (h : ∀ x ∈ code, (Lit.int .u8 x).wf = true) : Bytes code := fun x hx => by
  have := h x hx
  simp only [Lit.wf, IntKind.min, IntKind.max, IntKind.signed, IntKind.bits, Bool.and_eq_true, decide_eq_true_eq, Bool.false_eq_true, if_false] at this
  omega
theorem Bytes.at_ {code : List Int} (h : Bytes code) (i : Int) : 0 ≤ rd code i ∧ rd code i ≤ 255 := by
  have e : rd code i = code.getD i.toNat 0 := rfl
  rw [e]
  by_cases hi : i.toNat < code.length
  · have e2 : code.getD i.toNat 0 = code[i.toNat] := by simp [List.getD, hi]
    rw [e2]
    exact h _ (List.getElem_mem hi)
  · have e2 : code.getD i.toNat 0 = 0 := by simp [List.getD, hi]
    rw [e2]
    omega
theorem and255 (x : Int) (h0 : 0 ≤ x) (h1 : x ≤ 18446744073709551615) : 0 ≤ Go.bits .and .u64 x 255 ∧ Go.bits .and .u64 x 255 ≤ 255 := by
  have h := bits_and_u64_nat x.toNat 255 (by omega) (by omega)
  rw [Int.toNat_of_nonneg h0] at h
  have h2 : x.toNat &&& 255 ≤ 255 := Nat.and_le_right
  have e : Go.bits .and .u64 x 255 = ((x.toNat &&& 255 : Nat) : Int) := h
  rw [e]
  omega
theorem seed_low (x : Int) : 0 ≤ wrap64 (Go.bits .and .u64 (IntKind.u64.wrap x / 1099511627776) 255) ∧ wrap64 (Go.bits .and .u64 (IntKind.u64.wrap x / 1099511627776) 255) ≤ 255 := by
  have h := IntKind.wrap_u64 x
  have h2 := and255 (IntKind.u64.wrap x / 1099511627776) (by omega) (by omega)
  rw [w64 (by omega) (by omega)]
  exact h2
theorem next_ok {code : List Int} (hc : Bytes code) (hl : code.length ≤ 65536) (a s : Int) (h0 : 0 ≤ a) (h1 : a ≤ 1000000000) : ∃ v s', spec_l1Cur_next.f code a s = some (v, a + 1, s') ∧ 0 ≤ v ∧ v ≤ 255 := by
  have hr := hc.at_ a
  have e1 : wrap64 (rd code a) = rd code a := w64 (by omega) (by omega)
  have e2 : wrap64 (a + 1) = a + 1 := w64 (by omega) (by omega)
  unfold spec_l1Cur_next.f
  rw [e2]
  by_cases c1 : a < (code.length : Int)
  · rw [if_pos c1, if_pos h0, if_pos (by omega), e1]
    exact ⟨_, _, rfl, hr⟩
  · rw [if_neg c1, if_neg (by omega)]
    exact ⟨_, _, rfl, seed_low _⟩
theorem pick_ok {code : List Int} (hc : Bytes code) (hl : code.length ≤ 65536) (a s n : Int) (h0 : 0 ≤ a) (h1 : a ≤ 100000000) : ∃ v a' s', spec_l1Cur_pick.f code a s n = some (v, a', s') ∧ 0 ≤ v ∧ (0 < n → v < n) ∧ a ≤ a' ∧ a' ≤ a + 2 := by
  unfold spec_l1Cur_pick.f
  by_cases c1 : n ≤ 1
  · rw [if_pos c1]
    exact ⟨0, a, s, rfl, by omega, by omega, by omega, by omega⟩
  rw [if_neg c1]
  obtain ⟨v, s1, e, hv⟩ := next_ok hc hl a s h0 (by omega)
  rw [e, Option.bind_some]
  by_cases c2 : n > 200
  · obtain ⟨v2, s2, e2, hv2⟩ := next_ok hc hl (a + 1) s1 (by omega) (by omega)
    have e3 : wrap64 (wrap64 (v * 256) + v2) = v * 256 + v2 := by rw [w64 (x := v * 256) (by omega) (by omega), w64 (by omega) (by omega)]
    rw [if_pos c2, e2, Option.bind_some, if_neg (by omega), e3]
    have hm := Int.tmod_lt_of_pos (v * 256 + v2) (show (0 : Int) < n by omega)
    have hm0 := Int.tmod_nonneg n (show (0 : Int) ≤ v * 256 + v2 by omega)
    exact ⟨_, _, _, rfl, hm0, fun _ => hm, by simp only; omega, by simp only; omega⟩
  · rw [if_neg c2, if_neg (by omega)]
    have hm := Int.tmod_lt_of_pos v (show (0 : Int) < n by omega)
    have hm0 := Int.tmod_nonneg n (show (0 : Int) ≤ v by omega)
    exact ⟨_, _, _, rfl, hm0, fun _ => hm, by simp only; omega, by simp only; omega⟩
theorem among_ok {code : List Int} (hc : Bytes code) (hl : code.length ≤ 65536) (a s : Int) (l : List Int) (hn : 0 < l.length) (h0 : 0 ≤ a) (h1 : a ≤ 100000000) : ∃ v a' s', spec_l1Cur_among.f code a s l = some (v, a', s') ∧ v ∈ l ∧ a ≤ a' ∧ a' ≤ a + 2 := by
  unfold spec_l1Cur_among.f
  obtain ⟨v, a', s', e, hv0, hv1, ha⟩ := pick_ok hc hl a s (l.length : Int) h0 h1
  have hv := hv1 (by omega)
  rw [e, Option.bind_some, if_pos hv0, if_pos hv]
  refine ⟨_, _, _, rfl, ?_, ha⟩
  have e2 : rd l v = l.getD v.toNat 0 := rfl
  have hi : v.toNat < l.length := by omega
  have e3 : l.getD v.toNat 0 = l[v.toNat] := by simp [List.getD, hi]
  rw [e2, e3]
  exact List.getElem_mem _
theorem pickK {code : List Int} (hc : Bytes code) (hl : code.length ≤ 65536) (a s n : Int) (h0 : 0 ≤ a) (h1 : a ≤ 100000000) : Oks (fun _ => spec_l1Cur_pick.f code a s n) (fun r => 0 ≤ r.1 ∧ (0 < n → r.1 < n) ∧ a ≤ r.2.1 ∧ r.2.1 ≤ a + 2) := by
  obtain ⟨v, a', s', e, h⟩ := pick_ok hc hl a s n h0 h1
  exact ⟨_, Ev.some (fun _ => e), h⟩
theorem amongK {code : List Int} (hc : Bytes code) (hl : code.length ≤ 65536) (a s : Int) (l : List Int) (hn : 0 < l.length) (h0 : 0 ≤ a) (h1 : a ≤ 100000000) : Oks (fun _ => spec_l1Cur_among.f code a s l) (fun r => r.1 ∈ l ∧ a ≤ r.2.1 ∧ r.2.1 ≤ a + 2) := by
  obtain ⟨v, a', s', e, h⟩ := among_ok hc hl a s l hn h0 h1
  exact ⟨_, Ev.some (fun _ => e), h⟩
theorem oneK {code : List Int} (hc : Bytes code) (hl : code.length ≤ 65536) (a s n : Int) (h0 : 0 ≤ a) (h1 : a ≤ 100000000) : Oks (fun _ => spec_l1Cur_one.f code a s n) (fun r => a ≤ r.2.1 ∧ r.2.1 ≤ a + 2) := by
  obtain ⟨v, a', s', e, h⟩ := pick_ok hc hl a s n h0 h1
  exact ⟨(v == 0, a', s'), Ev.some (fun _ => by unfold spec_l1Cur_one.f; rw [e]; rfl), h.2.2⟩
end Go.Proofs.YtlipaiabjcaeiaaDoor.Draw

/- Legs that are drawn: the drawing ends. -/
namespace Go.Proofs.YtlipaiabjcaeiaaDoor.Draw
open Go Go.RowKit Go.Proofs.YtlipaiabjcaeiaaDoorW.PrintWords Go.Proofs.YtlipaiabjcaeiaaDoor.Plain Go.Proofs.YtlipaiabjcaeiaaDoor.A
set_option linter.unusedVariables false
set_option linter.unusedSimpArgs false
variable {code : List Int} (hc : Bytes code) (hl : code.length ≤ 65536)
include hc hl
theorem leg_j0 (a s b0 b1 b2 b3 b4 : Int) (h0 : 0 ≤ a) (h1 : a ≤ 90000000) : Oks (fun k => spec_l1Cur_leg.j0 k code a s b0 b1 b2 b3 b4) (fun r => a ≤ r.2.2.2.2.2.1 ∧ r.2.2.2.2.2.1 ≤ a + 4) := by
  refine Oks.step (fun k => by simp only [spec_l1Cur_leg.j0]; rfl) ?_
  refine Oks.bind (pickK hc hl a s 40 h0 (by omega)) ?_
  rintro ⟨v, a1, s1⟩ ⟨e1, e2, e3, e4⟩
  dsimp only at e1 e2 e3 e4 ⊢
  refine Oks.ite (fun _ => ?_) (fun _ => Oks.ite (fun _ => ?_) (fun _ => Oks.ite (fun _ => ?_) (fun _ => Oks.ite (fun _ => ?_) (fun _ => Oks.now ⟨by simp only; omega, by simp only; omega⟩))))
  all_goals
    refine Oks.bind (amongK hc hl a1 s1 _ (by simp) (by omega) (by omega)) ?_
    rintro ⟨u, a2, s2⟩ ⟨_, g3, g4⟩
    dsimp only at g3 g4 ⊢
    exact Oks.now ⟨by simp only; omega, by simp only; omega⟩
theorem legK (a s : Int) (h0 : 0 ≤ a) (h1 : a ≤ 80000000) : Oks (fun k => spec_l1Cur_leg.f k code a s) (fun r => a ≤ r.2.2.2.2.2.1 ∧ r.2.2.2.2.2.1 ≤ a + 20) := by
  unfold spec_l1Cur_leg.f
  refine Oks.bind (pickK hc hl a s 6 h0 (by omega)) ?_
  rintro ⟨v1, a1, s1⟩ ⟨_, _, e3, e4⟩
  dsimp only at e3 e4 ⊢
  refine Oks.bind (pickK hc hl a1 s1 6 (by omega) (by omega)) ?_
  rintro ⟨v2, a2, s2⟩ ⟨_, _, f3, f4⟩
  dsimp only at f3 f4 ⊢
  refine Oks.bind (amongK hc hl a2 s2 _ (by simp) (by omega) (by omega)) ?_
  rintro ⟨v3, a3, s3⟩ ⟨_, g3, g4⟩
  dsimp only at g3 g4 ⊢
  refine Oks.bind (amongK hc hl a3 s3 _ (by simp) (by omega) (by omega)) ?_
  rintro ⟨v4, a4, s4⟩ ⟨_, h3, h4⟩
  dsimp only at h3 h4 ⊢
  refine Oks.bind (amongK hc hl a4 s4 _ (by simp) (by omega) (by omega)) ?_
  rintro ⟨v5, a5, s5⟩ ⟨_, i3, i4⟩
  dsimp only at i3 i4 ⊢
  exact Oks.ite (fun _ => (leg_j0 hc hl a5 s5 _ _ _ _ _ (by omega) (by omega)).imp fun r ⟨k1, k2⟩ => ⟨by omega, by omega⟩) (fun _ => (leg_j0 hc hl a5 s5 _ _ _ _ _ (by omega) (by omega)).imp fun r ⟨k1, k2⟩ => ⟨by omega, by omega⟩)
end Go.Proofs.YtlipaiabjcaeiaaDoor.Draw

/- Lists of legs that are drawn, chains among them: the drawing ends. -/
namespace Go.Proofs.YtlipaiabjcaeiaaDoor.Draw
open Go Go.RowKit Go.Proofs.YtlipaiabjcaeiaaDoorW.PrintWords Go.Proofs.YtlipaiabjcaeiaaDoor.Plain Go.Proofs.YtlipaiabjcaeiaaDoor.A
set_option linter.unusedVariables false
set_option linter.unusedSimpArgs false
variable {code : List Int} (hc : Bytes code) (hl : code.length ≤ 65536)
include hc hl
theorem legs_l1 : ∀ (d : Nat) (x3 : List S45) (x5 a s : Int), x5 = 14 - (d : Int) → 0 ≤ x5 → x3.length + d ≤ 22 → 0 ≤ a → a ≤ 60000000 + 2 * x5 → Oks (fun k => spec_l1Cur_legs.l1 k x3 x5 code a s) (fun r => r.1.length ≤ 22 ∧ 0 ≤ r.2.1 ∧ r.2.1 ≤ 60001000) := by
  intro d
  induction d with
  | zero =>
    intro x3 x5 a s h0 h1 h2 h4 h5
    refine Oks.step (fun k => by simp only [spec_l1Cur_legs.l1]; rfl) ?_
    refine Oks.bind (pickK hc hl a s 2 h4 (by omega)) ?_
    rintro ⟨v, a1, s1⟩ ⟨g1, g2, g3, g4⟩
    dsimp only at g1 g2 g3 g4 ⊢
    exact Oks.ite (fun _ => Oks.neg (by omega) (Oks.now ⟨by simp only; omega, by simp only; omega, by simp only; omega⟩)) (fun _ => Oks.now ⟨by simp only; omega, by simp only; omega, by simp only; omega⟩)
  | succ d ih =>
    intro x3 x5 a s h0 h1 h2 h4 h5
    refine Oks.step (fun k => by simp only [spec_l1Cur_legs.l1]; rfl) ?_
    refine Oks.bind (pickK hc hl a s 2 h4 (by omega)) ?_
    rintro ⟨v, a1, s1⟩ ⟨g1, g2, g3, g4⟩
    dsimp only at g1 g2 g3 g4 ⊢
    refine Oks.ite (fun _ => Oks.pos (by omega) (Oks.pos (by omega) ?_)) (fun _ => Oks.now ⟨by simp only; omega, by simp only; omega, by simp only; omega⟩)
    rw [w64 (x := x5 + 1) (by omega) (by omega)]
    exact ih _ (x5 + 1) a1 s1 (by omega) (by omega) (by simp; omega) (by omega) (by omega)
theorem legs_l0 : ∀ (d : Nat) (x3 : List S45) (a s : Int), x3.length + d ≤ 8 → 0 ≤ a → a ≤ 40000000 + 30 * (8 - d : Int) → Oks (fun k => spec_l1Cur_legs.l0 k x3 (d : Int) code a s) (fun r => r.1.length ≤ 22 ∧ 0 ≤ r.2.1 ∧ r.2.1 ≤ 60001000) := by
  intro d
  induction d with
  | zero =>
    intro x3 a s h1 h4 h5
    refine Oks.step (fun k => by simp only [spec_l1Cur_legs.l0]; rfl) ?_
    refine Oks.neg (by omega) ?_
    refine Oks.bind (oneK hc hl a s 32 h4 (by omega)) ?_
    rintro ⟨o, a1, s1⟩ ⟨g3, g4⟩
    dsimp only at g3 g4 ⊢
    exact Oks.ite (fun _ => legs_l1 hc hl 14 x3 0 a1 s1 (by omega) (by omega) (by omega) (by omega) (by omega)) (fun _ => Oks.now ⟨by simp only; omega, by simp only; omega, by simp only; omega⟩)
  | succ d ih =>
    intro x3 a s h1 h4 h5
    refine Oks.step (fun k => by simp only [spec_l1Cur_legs.l0]; rfl) ?_
    refine Oks.pos (by omega) ?_
    refine Oks.bind (legK hc hl a s h4 (by omega)) ?_
    rintro ⟨b0, b1, b2, b3, b4, a1, s1⟩ ⟨g3, g4⟩
    dsimp only at g3 g4 ⊢
    rw [w64 (x := ((d + 1 : Nat) : Int) - 1) (by omega) (by omega), show ((d + 1 : Nat) : Int) - 1 = (d : Int) by omega]
    exact Oks.pos (by omega) (ih _ a1 s1 (by simp; omega) (by omega) (by omega))
theorem legsK : Oks (fun k => spec_l1Cur_legs.f k code 0 0) (fun r => r.1.length ≤ 22 ∧ 0 ≤ r.2.1 ∧ r.2.1 ≤ 60001000) := by
  unfold spec_l1Cur_legs.f
  refine Oks.bind (pickK hc hl 0 0 8 (by omega) (by omega)) ?_
  rintro ⟨v, a1, s1⟩ ⟨e1, e2, e3, e4⟩
  dsimp only at e1 e2 e3 e4 ⊢
  have e5 := e2 (by omega)
  rw [show v = ((v.toNat : Nat) : Int) by omega]
  exact legs_l0 hc hl v.toNat [] a1 s1 (by simp; omega) (by omega) (by omega)
theorem chain_l0 : ∀ (d : Nat) (x4 : List S45) (i : Nat) (a s : Int), 1 ≤ i → i + d = x4.length + 1 ∨ (d = 0 ∧ x4.length ≤ i) → x4.length ≤ 22 → 0 ≤ a → a ≤ 70000000 + 2 * (i : Int) → Oks (fun k => spec_DrawChainShift.l0 k x4 (i : Int) code a s) (fun r => r.length ≤ 22) := by
  intro d
  induction d with
  | zero =>
    intro x4 i a s h0 h1 h2 h4 h5
    refine Oks.step (fun k => by simp only [spec_DrawChainShift.l0]; rfl) ?_
    refine Oks.neg (by omega) ?_
    refine Oks.step (f := fun _ => some x4) (fun k => by simp only [spec_DrawChainShift.j1, Bool.false_eq_true, if_false]) (Oks.now h2)
  | succ d ih =>
    intro x4 i a s h0 h1 h2 h4 h5
    refine Oks.step (fun k => by simp only [spec_DrawChainShift.l0]; rfl) ?_
    refine Oks.ite (fun hi => ?_) (fun _ => Oks.step (f := fun _ => some x4) (fun k => by simp only [spec_DrawChainShift.j1, Bool.false_eq_true, if_false]) (Oks.now h2))
    refine Oks.bind (oneK hc hl a s 12 h4 (by omega)) ?_
    rintro ⟨o, a1, s1⟩ ⟨g3, g4⟩
    dsimp only at g3 g4 ⊢
    have ew : wrap64 ((i : Int) - 1) = (i : Int) - 1 := w64 (by omega) (by omega)
    have ew2 : wrap64 ((i : Int) + 1) = ((i + 1 : Nat) : Int) := by rw [w64 (by omega) (by omega)]; omega
    refine Oks.step (fun k => by simp only [spec_DrawChainShift.j1, ew, ew2]; rfl) ?_
    refine Oks.ite (fun _ => ?_) (fun _ => Oks.now h2)
    refine Oks.pos (by omega) (Oks.pos hi (Oks.pos (by omega) (Oks.pos (by omega) ?_)))
    exact Oks.ite (fun _ => ih _ (i + 1) a1 s1 (by omega) (by rw [List.length_set]; omega) (by rw [List.length_set]; exact h2) (by omega) (by omega)) (fun _ => ih _ (i + 1) a1 s1 (by omega) (by rw [List.length_set]; omega) (by rw [List.length_set]; exact h2) (by omega) (by omega))
theorem drawChain : Oks (fun k => spec_DrawChainShift.f k code) (fun r => r.length ≤ 22) := by
  unfold spec_DrawChainShift.f
  refine Oks.bind (legsK hc hl) ?_
  rintro ⟨l, a1, s1⟩ ⟨h1, h2, h3⟩
  exact chain_l0 hc hl l.length l 1 a1 s1 (by omega) (by omega) h1 h2 (by simp only at h3; omega)
theorem drawLegsLength : Oks (fun k => spec_DrawLegsLength.f k code) (fun r => r.length ≤ 22) := by
  unfold spec_DrawLegsLength.f
  exact Oks.bind (legsK hc hl) fun r h => Oks.now h.1
theorem drawLegsAt : Oks (fun k => spec_DrawLegsAt.f k code) (fun r => r.1.length ≤ 22) := by
  unfold spec_DrawLegsAt.f
  refine Oks.bind (legsK hc hl) ?_
  rintro ⟨l, a1, s1⟩ ⟨h1, h2, h3⟩
  dsimp only at h1 h2 h3 ⊢
  refine Oks.bind (amongK hc hl a1 s1 _ (by simp) h2 (by omega)) ?_
  rintro ⟨v, a2, s2⟩ _
  exact Oks.now h1
end Go.Proofs.YtlipaiabjcaeiaaDoor.Draw

/- Chains of legs, the legs at a station, the length of legs: what the program's and the reference's functions come to, in plain. -/
namespace Go.Proofs.YtlipaiabjcaeiaaDoor.Net
open Go.RowKit Go.Proofs.YtlipaiabjcaeiaaDoorW.PrintWords Go.Proofs.YtlipaiabjcaeiaaDoorW.PrintLast Go.Proofs.YtlipaiabjcaeiaaDoorW.PrintMore Go.Proofs.YtlipaiabjcaeiaaDoor.A Go.Proofs.YtlipaiabjcaeiaaDoor.Plain
set_option linter.unusedVariables false
set_option linter.unusedSimpArgs false
abbrev LG := S45
abbrev z0 : LG := z45
/-- The leg joins on to the one before it. -/
def joinB (p : Option LG) (x : LG) : Bool := match p with | none => true | some q => decide (q.f1 = x.f0)
def okC : Option LG → L → Bool
  | _, [] => true
  | p, x :: r => joinB p x && okC (some x) r
def s0 : L → Int | [] => 0 | x :: r => (shift x).f0 + s0 r
def s1 : L → Int | [] => 0 | x :: r => (shift x).f1 + s1 r
def s2 : L → Int | [] => 0 | x :: r => (shift x).f2 + s2 r
def ch (p : Option LG) (l : L) (a b c : Int) : Int × Int × Int × Bool := if okC p l = true then (a + s0 l, b + s1 l, c + s2 l, true) else (0, 0, 0, false)
def chM (l : L) : Int × Int × Int × Bool := if legsB l = true then ch none l 0 0 0 else (0, 0, 0, false)
def prevL (l : L) (i : Nat) : Option LG := if i = 0 then none else some (l.getD (i - 1) z0)
theorem ch_step (p : Option LG) (x : LG) (r : L) (a b c : Int) : ch p (x :: r) a b c = if joinB p x = true then ch (some x) r (a + (shift x).f0) (b + (shift x).f1) (c + (shift x).f2) else (0, 0, 0, false) := by
  unfold ch
  rw [okC]
  cases joinB p x
  · simp
  · simp only [Bool.true_and, if_true]
    split
    · rw [s0, s1, s2, Int.add_assoc, Int.add_assoc, Int.add_assoc]
    · rfl
theorem drop_at (l : L) (i : Nat) (h : i < l.length) : l.drop i = l.getD i z0 :: l.drop (i + 1) := by
  rw [List.drop_eq_getElem_cons h]
  congr 1
  simp [List.getD, h]
theorem good_at {l : L} (hv : legsB l = true) {i : Nat} (h : i < l.length) : Good (l.getD i z0) := by
  have e : l.getD i z0 = l[i] := by simp [List.getD, h]
  rw [e]
  exact (legsB_iff.1 hv).1 _ (List.getElem_mem h)
theorem prev_join (l : L) (i : Nat) (hi : i < l.length) : joinB (prevL l i) (l.getD i z0) = !(decide (0 < i) && ((l.getD (i - 1) z0).f1 != (l.getD i z0).f0)) := by
  unfold prevL joinB
  by_cases h : i = 0
  · subst h; rfl
  · rw [if_neg h]
    simp only
    rw [decide_eq_true (show 0 < i by omega), Bool.true_and]
    generalize (l.getD (i - 1) z0).f1 = p
    generalize (l.getD i z0).f0 = q
    by_cases e : p = q <;> simp [e]
theorem implC_l0 {l : L} (hv : legsB l = true) : ∀ (d i : Nat) (a b c : Int), i + d = l.length → (-500 * (i : Int) ≤ a ∧ a ≤ 500 * i) → (-500 * (i : Int) ≤ b ∧ b ≤ 500 * i) → (-500 * (i : Int) ≤ c ∧ c ≤ 500 * i) → Ev (fun k => impl_ChainShift.l0 k l l (l.length : Int) (i : Int) a b c) (ch (prevL l i) (l.drop i) a b c) := by
  have hn := (legsB_iff.1 hv).2
  intro d
  induction d with
  | zero =>
    intro i a b c hi ha hb hc
    have e : l.drop i = [] := by rw [show i = l.length by omega, List.drop_length]
    rw [e]
    unfold ch
    rw [okC, if_pos rfl, s0, s1, s2, Int.add_zero, Int.add_zero, Int.add_zero]
    exact Ev.step (f := fun _ => some (a, b, c, true)) (fun k => by rw [impl_ChainShift.l0]; rw [if_neg (by omega)]) (Ev.now _)
  | succ d ih =>
    intro i a b c hi ha hb hc
    have hil : i < l.length := by omega
    have hg := good_at hv hil
    have hs := shift_bound _ hg
    have ex : rd_T45 l (i : Int) = l.getD i z0 := rfl
    have ew : wrap64 ((i : Int) + 1) = ((i + 1 : Nat) : Int) := by rw [w64 (by omega) (by omega)]; omega
    have ef : impl_Leg_shift.f (l.getD i z0).f0 (l.getD i z0).f1 (l.getD i z0).f2 (l.getD i z0).f3 (l.getD i z0).f4 = some ((shift (l.getD i z0)).f0, (shift (l.getD i z0)).f1, (shift (l.getD i z0)).f2) := by
      unfold impl_Leg_shift.f
      rw [if_pos hg]
    have hnext := ih (i + 1) (a + (shift (l.getD i z0)).f0) (b + (shift (l.getD i z0)).f1) (c + (shift (l.getD i z0)).f2) (by omega) (by omega) (by omega) (by omega)
    have ep : prevL l (i + 1) = some (l.getD i z0) := by unfold prevL; rw [if_neg (by omega)]; rfl
    rw [ep] at hnext
    rw [drop_at l i hil, ch_step, prev_join l i hil]
    have j1 : ∀ q : Bool, Ev (fun k => impl_ChainShift.j1 k l l (l.length : Int) (i : Int) q a b c (l.getD i z0).f0 (l.getD i z0).f1 (l.getD i z0).f2 (l.getD i z0).f3 (l.getD i z0).f4) (if (!q) = true then ch (some (l.getD i z0)) (l.drop (i + 1)) (a + (shift (l.getD i z0)).f0) (b + (shift (l.getD i z0)).f1) (c + (shift (l.getD i z0)).f2) else (0, 0, 0, false)) := by
      intro q
      cases q with
      | true => exact Ev.step (f := fun _ => some (0, 0, 0, false)) (fun k => by simp only [impl_ChainShift.j1, if_true]) (Ev.now _)
      | false =>
        refine Ev.step (fun k => ?_) hnext
        rw [impl_ChainShift.j1]
        rw [if_neg (by decide), ef, Option.bind_some]
        unfold impl_Shift_plus.f
        rw [Option.bind_some, Int.one_mul, Int.one_mul, Int.one_mul, ew, w64 (x := (shift (l.getD i z0)).f0) (by omega) (by omega), w64 (x := (shift (l.getD i z0)).f1) (by omega) (by omega), w64 (x := (shift (l.getD i z0)).f2) (by omega) (by omega), w64 (by omega) (by omega), w64 (by omega) (by omega), w64 (by omega) (by omega)]
    by_cases h0 : 0 < i
    · rw [decide_eq_true h0, Bool.true_and]
      have ex2 : rd_T45 l (wrap64 ((i : Int) - 1)) = l.getD (i - 1) z0 := by
        rw [w64 (by omega) (by omega), show (i : Int) - 1 = ((i - 1 : Nat) : Int) by omega]
        rfl
      have ew2 : wrap64 ((i : Int) - 1) = (i : Int) - 1 := w64 (by omega) (by omega)
      refine Ev.step (fun k => ?_) (j1 _)
      rw [impl_ChainShift.l0]
      rw [ex, ex2, ew2, if_pos (show (i : Int) < (l.length : Int) by omega), if_pos (show (0 : Int) ≤ (i : Int) by omega), if_pos (show (i : Int) < (l.length : Int) by omega), if_pos (show (i : Int) > 0 by omega), if_pos (show (0 : Int) ≤ (i : Int) - 1 by omega), if_pos (show (i : Int) - 1 < (l.length : Int) by omega)]
    · rw [decide_eq_false h0, Bool.false_and]
      refine Ev.step (fun k => ?_) (j1 false)
      rw [impl_ChainShift.l0]
      rw [ex, if_pos (show (i : Int) < (l.length : Int) by omega), if_pos (show (0 : Int) ≤ (i : Int) by omega), if_pos (show (i : Int) < (l.length : Int) by omega), if_neg (show ¬ (i : Int) > 0 by omega)]
theorem specC_l0 {l : L} (hv : legsB l = true) : ∀ (d i : Nat) (a b c : Int), i + d = l.length → (-500 * (i : Int) ≤ a ∧ a ≤ 500 * i) → (-500 * (i : Int) ≤ b ∧ b ≤ 500 * i) → (-500 * (i : Int) ≤ c ∧ c ≤ 500 * i) → Ev (fun k => spec_ChainShift.l0 k l (i : Int) a b c) (ch (prevL l i) (l.drop i) a b c) := by
  have hn := (legsB_iff.1 hv).2
  intro d
  induction d with
  | zero =>
    intro i a b c hi ha hb hc
    have e : l.drop i = [] := by rw [show i = l.length by omega, List.drop_length]
    rw [e]
    unfold ch
    rw [okC, if_pos rfl, s0, s1, s2, Int.add_zero, Int.add_zero, Int.add_zero]
    exact Ev.step (f := fun _ => some (a, b, c, true)) (fun k => by rw [spec_ChainShift.l0]; rw [if_neg (by omega)]) (Ev.now _)
  | succ d ih =>
    intro i a b c hi ha hb hc
    have hil : i < l.length := by omega
    have hg := good_at hv hil
    have hs := shift_bound _ hg
    have ex : rd_T45 l (i : Int) = l.getD i z0 := rfl
    have ew : wrap64 ((i : Int) + 1) = ((i + 1 : Nat) : Int) := by rw [w64 (by omega) (by omega)]; omega
    have ef := shift_eq _ hg
    have hnext := ih (i + 1) (a + (shift (l.getD i z0)).f0) (b + (shift (l.getD i z0)).f1) (c + (shift (l.getD i z0)).f2) (by omega) (by omega) (by omega) (by omega)
    have ep : prevL l (i + 1) = some (l.getD i z0) := by unfold prevL; rw [if_neg (by omega)]; rfl
    rw [ep] at hnext
    rw [drop_at l i hil, ch_step, prev_join l i hil]
    have j1 : ∀ q : Bool, Ev (fun k => spec_ChainShift.j1 k l (i : Int) q a b c) (if (!q) = true then ch (some (l.getD i z0)) (l.drop (i + 1)) (a + (shift (l.getD i z0)).f0) (b + (shift (l.getD i z0)).f1) (c + (shift (l.getD i z0)).f2) else (0, 0, 0, false)) := by
      intro q
      cases q with
      | true => exact Ev.step (f := fun _ => some (0, 0, 0, false)) (fun k => by simp only [spec_ChainShift.j1, if_true]) (Ev.now _)
      | false =>
        refine Ev.step (fun k => ?_) hnext
        rw [spec_ChainShift.j1]
        rw [ex, if_neg (by decide), if_pos (show (0 : Int) ≤ (i : Int) by omega), if_pos (show (i : Int) < (l.length : Int) by omega), ef, Option.bind_some]
        unfold spec_l4Plus.f
        rw [Option.bind_some, Int.one_mul, Int.one_mul, Int.one_mul, ew, w64 (x := (shift (l.getD i z0)).f0) (by omega) (by omega), w64 (x := (shift (l.getD i z0)).f1) (by omega) (by omega), w64 (x := (shift (l.getD i z0)).f2) (by omega) (by omega), w64 (by omega) (by omega), w64 (by omega) (by omega), w64 (by omega) (by omega)]
    by_cases h0 : 0 < i
    · rw [decide_eq_true h0, Bool.true_and]
      have ex2 : rd_T45 l (wrap64 ((i : Int) - 1)) = l.getD (i - 1) z0 := by
        rw [w64 (by omega) (by omega), show (i : Int) - 1 = ((i - 1 : Nat) : Int) by omega]
        rfl
      have ew2 : wrap64 ((i : Int) - 1) = (i : Int) - 1 := w64 (by omega) (by omega)
      refine Ev.step (fun k => ?_) (j1 _)
      rw [spec_ChainShift.l0]
      rw [ex, ex2, ew2, if_pos (show (i : Int) < (l.length : Int) by omega), if_pos (show (i : Int) > 0 by omega), if_pos (show (0 : Int) ≤ (i : Int) - 1 by omega), if_pos (show (i : Int) - 1 < (l.length : Int) by omega), if_pos (show (0 : Int) ≤ (i : Int) by omega)]
    · rw [decide_eq_false h0, Bool.false_and]
      refine Ev.step (fun k => ?_) (j1 false)
      rw [spec_ChainShift.l0]
      rw [if_pos (show (i : Int) < (l.length : Int) by omega), if_neg (show ¬ (i : Int) > 0 by omega)]
theorem implChain_ev (l : L) (hb : l.length ≤ 140737488351232) : Ev (fun k => impl_ChainShift.f k l) (chM l) := by
  unfold impl_ChainShift.f chM
  refine Ev.bind (areLegs_ev l hb) ?_
  by_cases h : legsB l = true
  · rw [h, if_pos rfl]
    have h0 := implC_l0 h l.length 0 0 0 0 (by omega) (by omega) (by omega) (by omega)
    rw [List.drop_zero] at h0
    exact Ev.pos rfl h0
  · rw [if_neg h]
    exact Ev.neg h (Ev.now _)
theorem specChain_ev (l : L) (hb : l.length ≤ 140737488351232) : Ev (fun k => spec_ChainShift.f k l) (chM l) := by
  unfold spec_ChainShift.f chM
  refine Ev.bind (l4Legs_ev l hb) ?_
  by_cases h : legsB l = true
  · rw [h, if_pos rfl]
    have h0 := specC_l0 h l.length 0 0 0 0 (by omega) (by omega) (by omega) (by omega)
    rw [List.drop_zero] at h0
    exact Ev.pos rfl h0
  · rw [if_neg h]
    exact Ev.neg h (Ev.now _)
/-! ### A chain cut in two -/
theorem okC_left (b : L) : ∀ (a : L) (p : Option LG), okC p (a ++ b) = true → okC p a = true
  | [], _, _ => rfl
  | x :: a, p, h => by
    rw [List.cons_append, okC, Bool.and_eq_true] at h
    rw [okC, h.1, okC_left b a _ h.2]
    rfl
theorem okC_none {p : Option LG} : ∀ (l : L), okC p l = true → okC none l = true
  | [], _ => rfl
  | x :: r, h => by
    rw [okC, Bool.and_eq_true] at h
    rw [okC, h.2]
    rfl
theorem okC_right (b : L) : ∀ (a : L) (p : Option LG), okC p (a ++ b) = true → okC none b = true
  | [], _, h => okC_none b h
  | x :: a, p, h => by
    rw [List.cons_append, okC, Bool.and_eq_true] at h
    exact okC_right b a _ h.2
theorem s0_app (b : L) : ∀ a : L, s0 (a ++ b) = s0 a + s0 b
  | [] => by simp [s0]
  | x :: a => by rw [List.cons_append, s0, s0, s0_app b a, Int.add_assoc]
theorem s1_app (b : L) : ∀ a : L, s1 (a ++ b) = s1 a + s1 b
  | [] => by simp [s1]
  | x :: a => by rw [List.cons_append, s1, s1, s1_app b a, Int.add_assoc]
theorem s2_app (b : L) : ∀ a : L, s2 (a ++ b) = s2 a + s2 b
  | [] => by simp [s2]
  | x :: a => by rw [List.cons_append, s2, s2, s2_app b a, Int.add_assoc]
theorem s_bound : ∀ l : L, (∀ x ∈ l, Good x) → (-500 * (l.length : Int) ≤ s0 l ∧ s0 l ≤ 500 * l.length) ∧ (-500 * (l.length : Int) ≤ s1 l ∧ s1 l ≤ 500 * l.length) ∧ (-500 * (l.length : Int) ≤ s2 l ∧ s2 l ≤ 500 * l.length)
  | [], _ => by simp [s0, s1, s2]
  | x :: r, h => by
    have h1 := shift_bound x (h x (by simp))
    have h2 := s_bound r (fun y hy => h y (by simp [hy]))
    rw [s0, s1, s2, List.length_cons]
    omega
/-- The two parts of a chain. -/
theorem ch_parts (l : L) (hv : legsB l = true) (ho : okC none l = true) (k : Nat) : ∃ a b c a' b' c' : Int, chM (l.take k) = (a, b, c, true) ∧ chM (l.drop k) = (a', b', c', true) ∧ wrap64 (a + a') = s0 l ∧ wrap64 (b + b') = s1 l ∧ wrap64 (c + c') = s2 l := by
  obtain ⟨hg, hn⟩ := legsB_iff.1 hv
  have e := List.take_append_drop k l
  have h1 : legsB (l.take k) = true := legsB_iff.2 ⟨fun x hx => hg x (List.mem_of_mem_take hx), by rw [List.length_take]; omega⟩
  have h2 : legsB (l.drop k) = true := legsB_iff.2 ⟨fun x hx => hg x (List.mem_of_mem_drop hx), by rw [List.length_drop]; omega⟩
  have ho' := ho
  rw [← e] at ho'
  have o1 := okC_left _ _ _ ho'
  have o2 := okC_right _ _ _ ho'
  have b := s_bound l hg
  have e0 : s0 (l.take k) + s0 (l.drop k) = s0 l := by rw [← s0_app, e]
  have e1 : s1 (l.take k) + s1 (l.drop k) = s1 l := by rw [← s1_app, e]
  have e2 : s2 (l.take k) + s2 (l.drop k) = s2 l := by rw [← s2_app, e]
  refine ⟨0 + s0 (l.take k), 0 + s1 (l.take k), 0 + s2 (l.take k), 0 + s0 (l.drop k), 0 + s1 (l.drop k), 0 + s2 (l.drop k), ?_, ?_, ?_, ?_, ?_⟩
  · unfold chM ch
    rw [if_pos h1, if_pos o1]
  · unfold chM ch
    rw [if_pos h2, if_pos o2]
  · rw [w64 (by omega) (by omega)]; omega
  · rw [w64 (by omega) (by omega)]; omega
  · rw [w64 (by omega) (by omega)]; omega
/-! ### The length of legs -/
def sT : L → Int | [] => 0 | x :: r => x.f2 + sT r
theorem sT_ge : ∀ l : L, (∀ x ∈ l, Good x) → (l.length : Int) ≤ sT l
  | [], _ => by simp [sT]
  | x :: r, h => by
    have h1 := (h x (by simp)).2.2.2.1
    have h2 := sT_ge r (fun y hy => h y (by simp [hy]))
    rw [sT, List.length_cons]
    omega
def lenL (l : L) : Int × Bool := if legsB l = true then (sT l, true) else (0, false)
theorem implLen_l0 {l : L} (hv : legsB l = true) : ∀ (d i : Nat) (a : Int), i + d = l.length → (0 ≤ a ∧ a ≤ 500 * i) → Ev (fun k => impl_legsLength.l0 k a l (l.length : Int) (i : Int)) (a + sT (l.drop i)) := by
  have hn := (legsB_iff.1 hv).2
  intro d
  induction d with
  | zero =>
    intro i a hi ha
    have e : l.drop i = [] := by rw [show i = l.length by omega, List.drop_length]
    rw [e, sT, Int.add_zero]
    exact Ev.step (f := fun _ => some a) (fun k => by rw [impl_legsLength.l0]; rw [if_neg (by omega)]) (Ev.now _)
  | succ d ih =>
    intro i a hi ha
    have hil : i < l.length := by omega
    have hg := (good_at hv hil).2.2.2.1
    have ex : rd_T45 l (i : Int) = l.getD i z0 := rfl
    have ew : wrap64 ((i : Int) + 1) = ((i + 1 : Nat) : Int) := by rw [w64 (by omega) (by omega)]; omega
    have hnext := ih (i + 1) (a + (l.getD i z0).f2) (by omega) (by omega)
    rw [drop_at l i hil, sT, ← Int.add_assoc]
    refine Ev.step (fun k => ?_) hnext
    rw [impl_legsLength.l0]
    rw [ex, ew, if_pos (show (i : Int) < (l.length : Int) by omega), if_pos (show (0 : Int) ≤ (i : Int) by omega), if_pos (show (i : Int) < (l.length : Int) by omega), w64 (by omega) (by omega)]
theorem specLen_l0 {l : L} (hv : legsB l = true) : ∀ (d i : Nat) (a : Int), i + d = l.length → (0 ≤ a ∧ a ≤ 500 * i) → Ev (fun k => spec_LegsLength.l0 k l a (i : Int)) (a + sT (l.drop i), true) := by
  have hn := (legsB_iff.1 hv).2
  intro d
  induction d with
  | zero =>
    intro i a hi ha
    have e : l.drop i = [] := by rw [show i = l.length by omega, List.drop_length]
    rw [e, sT, Int.add_zero]
    exact Ev.step (f := fun _ => some (a, true)) (fun k => by rw [spec_LegsLength.l0]; rw [if_neg (by omega)]) (Ev.now _)
  | succ d ih =>
    intro i a hi ha
    have hil : i < l.length := by omega
    have hg := (good_at hv hil).2.2.2.1
    have ex : rd_T45 l (i : Int) = l.getD i z0 := rfl
    have ew : wrap64 ((i : Int) + 1) = ((i + 1 : Nat) : Int) := by rw [w64 (by omega) (by omega)]; omega
    have hnext := ih (i + 1) (a + (l.getD i z0).f2) (by omega) (by omega)
    rw [drop_at l i hil, sT, ← Int.add_assoc]
    refine Ev.step (fun k => ?_) hnext
    rw [spec_LegsLength.l0]
    rw [ex, ew, if_pos (show (i : Int) < (l.length : Int) by omega), if_pos (show (0 : Int) ≤ (i : Int) by omega), w64 (by omega) (by omega)]
theorem implLen_ev (l : L) (hb : l.length ≤ 140737488351232) : Ev (fun k => impl_LegsLength.f k l) (lenL l) := by
  unfold impl_LegsLength.f lenL
  refine Ev.bind (areLegs_ev l hb) ?_
  by_cases h : legsB l = true
  · rw [h, if_pos rfl]
    have h0 := implLen_l0 h l.length 0 0 (by omega) (by omega)
    rw [List.drop_zero, Int.zero_add] at h0
    exact Ev.pos rfl (Ev.bind (show Ev (fun k => impl_legsLength.f k l) (sT l) from h0) (Ev.now _))
  · rw [if_neg h]
    exact Ev.neg h (Ev.now _)
theorem specLen_ev (l : L) (hb : l.length ≤ 140737488351232) : Ev (fun k => spec_LegsLength.f k l) (lenL l) := by
  unfold spec_LegsLength.f lenL
  refine Ev.bind (l4Legs_ev l hb) ?_
  by_cases h : legsB l = true
  · rw [h, if_pos rfl]
    have h0 := specLen_l0 h l.length 0 0 (by omega) (by omega)
    rw [List.drop_zero, Int.zero_add] at h0
    exact Ev.pos rfl h0
  · rw [if_neg h]
    exact Ev.neg h (Ev.now _)
/-! ### The legs at a station -/
def touches (st : Int) (x : LG) : Bool := decide (x.f0 = st) || decide (x.f1 = st)
def atI (st : Int) : Nat → L → List Int
  | _, [] => []
  | i, x :: r => if touches st x = true then (i : Int) :: atI st (i + 1) r else atI st (i + 1) r
def cnt (st : Int) : L → Nat
  | [] => 0
  | x :: r => (if touches st x = true then 1 else 0) + cnt st r
theorem atI_len (st : Int) : ∀ (l : L) (i : Nat), (atI st i l).length = cnt st l
  | [], _ => rfl
  | x :: r, i => by
    rw [atI, cnt]
    split
    · rw [List.length_cons, atI_len st r (i + 1)]; omega
    · rw [atI_len st r (i + 1)]; omega
theorem cnt_le (st : Int) : ∀ l : L, cnt st l ≤ l.length
  | [] => Nat.le_refl _
  | x :: r => by
    have := cnt_le st r
    rw [cnt, List.length_cons]
    split <;> omega
def atM (l : L) (st : Int) : List Int × Bool := if legsB l = true then (if 0 ≤ st ∧ st ≤ 7 then (atI st 0 l, true) else ([], false)) else ([], false)
theorem station_eq (x : Int) : impl_isStation.f x = some (decide (0 ≤ x ∧ x ≤ 7)) := by unfold impl_isStation.f; rw [within_eq]; rfl
theorem l4Station_eq (x : Int) : spec_l4Station.f x = some (decide (0 ≤ x ∧ x ≤ 7)) := by unfold spec_l4Station.f; rw [show spec_l1In.f x 0 7 = some (decide (0 ≤ x ∧ x ≤ 7)) from within_eq x 0 7]; rfl
theorem implAt_l0 (l : L) (hn : l.length ≤ 100) (st : Int) : ∀ (d i : Nat) (acc : List Int), i + d = l.length → acc.length ≤ i → Ev (fun k => impl_legsAt.l0 k st acc l (l.length : Int) (i : Int)) (acc ++ atI st i (l.drop i)) := by
  intro d
  induction d with
  | zero =>
    intro i acc hi ha
    have e : l.drop i = [] := by rw [show i = l.length by omega, List.drop_length]
    rw [e, atI, List.append_nil]
    exact Ev.step (f := fun _ => some acc) (fun k => by rw [impl_legsAt.l0]; rw [if_neg (by omega)]) (Ev.now _)
  | succ d ih =>
    intro i acc hi ha
    have hil : i < l.length := by omega
    have ex : rd_T45 l (i : Int) = l.getD i z0 := rfl
    have ew : wrap64 ((i : Int) + 1) = ((i + 1 : Nat) : Int) := by rw [w64 (by omega) (by omega)]; omega
    have h1 := ih (i + 1) (acc ++ [(i : Int)]) (by omega) (by simp; omega)
    have h2 := ih (i + 1) acc (by omega) (by omega)
    rw [drop_at l i hil, atI]
    by_cases c0 : (l.getD i z0).f0 = st
    · rw [if_pos (by unfold touches; rw [decide_eq_true c0]; rfl)]
      rw [List.append_assoc] at h1
      refine Ev.step (fun k => ?_) h1
      rw [impl_legsAt.l0]
      rw [ex, ew, if_pos (show (i : Int) < (l.length : Int) by omega), if_pos (show (0 : Int) ≤ (i : Int) by omega), if_pos (show (i : Int) < (l.length : Int) by omega), if_pos c0, if_pos (show acc.length < 17592186044416 by omega)]
    · by_cases c1 : (l.getD i z0).f1 = st
      · rw [if_pos (by unfold touches; rw [decide_eq_true c1, Bool.or_true])]
        rw [List.append_assoc] at h1
        refine Ev.step (fun k => ?_) h1
        rw [impl_legsAt.l0]
        rw [ex, ew, if_pos (show (i : Int) < (l.length : Int) by omega), if_pos (show (0 : Int) ≤ (i : Int) by omega), if_pos (show (i : Int) < (l.length : Int) by omega), if_neg c0, if_pos c1, if_pos (show acc.length < 17592186044416 by omega)]
      · rw [if_neg (by unfold touches; simp only [Bool.or_eq_true, decide_eq_true_eq]; omega)]
        refine Ev.step (fun k => ?_) h2
        rw [impl_legsAt.l0]
        rw [ex, ew, if_pos (show (i : Int) < (l.length : Int) by omega), if_pos (show (0 : Int) ≤ (i : Int) by omega), if_pos (show (i : Int) < (l.length : Int) by omega), if_neg c0, if_neg c1]
theorem specAt_l0 (l : L) (hn : l.length ≤ 100) (st : Int) : ∀ (d i : Nat) (acc : List Int), i + d = l.length → acc.length ≤ i → Ev (fun k => spec_LegsAt.l0 k l st acc (i : Int)) (acc ++ atI st i (l.drop i), true) := by
  intro d
  induction d with
  | zero =>
    intro i acc hi ha
    have e : l.drop i = [] := by rw [show i = l.length by omega, List.drop_length]
    rw [e, atI, List.append_nil]
    exact Ev.step (f := fun _ => some (acc, true)) (fun k => by rw [spec_LegsAt.l0]; rw [if_neg (by omega)]) (Ev.now _)
  | succ d ih =>
    intro i acc hi ha
    have hil : i < l.length := by omega
    have ex : rd_T45 l (i : Int) = l.getD i z0 := rfl
    have ew : wrap64 ((i : Int) + 1) = ((i + 1 : Nat) : Int) := by rw [w64 (by omega) (by omega)]; omega
    have h1 := ih (i + 1) (acc ++ [(i : Int)]) (by omega) (by simp; omega)
    have h2 := ih (i + 1) acc (by omega) (by omega)
    rw [drop_at l i hil, atI]
    by_cases c0 : (l.getD i z0).f0 = st
    · rw [if_pos (by unfold touches; rw [decide_eq_true c0]; rfl)]
      rw [List.append_assoc] at h1
      refine Ev.step (fun k => ?_) h1
      rw [spec_LegsAt.l0]
      rw [ex, ew, if_pos (show (i : Int) < (l.length : Int) by omega), if_pos (show (0 : Int) ≤ (i : Int) by omega), if_pos c0, if_pos (show acc.length < 17592186044416 by omega)]
    · by_cases c1 : (l.getD i z0).f1 = st
      · rw [if_pos (by unfold touches; rw [decide_eq_true c1, Bool.or_true])]
        rw [List.append_assoc] at h1
        refine Ev.step (fun k => ?_) h1
        rw [spec_LegsAt.l0]
        rw [ex, ew, if_pos (show (i : Int) < (l.length : Int) by omega), if_pos (show (0 : Int) ≤ (i : Int) by omega), if_neg c0, if_pos c1, if_pos (show acc.length < 17592186044416 by omega)]
      · rw [if_neg (by unfold touches; simp only [Bool.or_eq_true, decide_eq_true_eq]; omega)]
        refine Ev.step (fun k => ?_) h2
        rw [spec_LegsAt.l0]
        rw [ex, ew, if_pos (show (i : Int) < (l.length : Int) by omega), if_pos (show (0 : Int) ≤ (i : Int) by omega), if_neg c0, if_neg c1]
theorem implAt_ev (l : L) (hb : l.length ≤ 100) (st : Int) : Ev (fun k => impl_LegsAt.f k l st) (atM l st) := by
  unfold impl_LegsAt.f atM
  refine Ev.bind (areLegs_ev l (by omega)) ?_
  by_cases h : legsB l = true
  · rw [h, if_pos rfl]
    refine Ev.pos rfl (Ev.bindc (station_eq st) ?_)
    by_cases hs : 0 ≤ st ∧ st ≤ 7
    · rw [if_pos hs]
      have h0 := implAt_l0 l hb st l.length 0 [] (by omega) (by simp)
      rw [List.drop_zero, List.nil_append] at h0
      exact Ev.pos (decide_eq_true hs) (Ev.bind (show Ev (fun k => impl_legsAt.f k l st) (atI st 0 l) from h0) (Ev.now _))
    · rw [if_neg hs]
      exact Ev.neg (by rw [decide_eq_false hs]; decide) (Ev.now _)
  · rw [if_neg h]
    exact Ev.neg h (Ev.now _)
theorem specAt_ev (l : L) (hb : l.length ≤ 100) (st : Int) : Ev (fun k => spec_LegsAt.f k l st) (atM l st) := by
  unfold spec_LegsAt.f atM
  simp only [Option.bind_some]
  refine Ev.bind (l4Legs_ev l (by omega)) ?_
  have no : Ev (fun k => spec_LegsAt.j0 k l st ([] : List Int) true) ([], false) := Ev.step (f := fun _ => some (([] : List Int), false)) (fun k => by simp only [spec_LegsAt.j0, if_true]) (Ev.now _)
  by_cases h : legsB l = true
  · rw [h, if_pos rfl]
    refine Ev.pos rfl (Ev.bindc (l4Station_eq st) ?_)
    by_cases hs : 0 ≤ st ∧ st ≤ 7
    · rw [if_pos hs, decide_eq_true hs]
      have h0 := specAt_l0 l hb st l.length 0 [] (by omega) (by simp)
      rw [List.drop_zero, List.nil_append] at h0
      exact Ev.step (f := fun k => spec_LegsAt.l0 k l st [] 0) (fun k => by simp only [spec_LegsAt.j0, Bool.not_true, Bool.false_eq_true, if_false]) h0
    · rw [if_neg hs, decide_eq_false hs]
      exact no
  · rw [if_neg h]
    exact Ev.neg h no
/-- The ends at the stations from st on, d of them. -/
def ends8 (l : L) : Nat → Nat → Nat
  | _, 0 => 0
  | st, d + 1 => cnt (st : Int) l + ends8 l (st + 1) d
theorem one_leg (a b : Fin 8) (h : a ≠ b) : ((List.range 8).map fun t => if decide ((a : Nat) = t) || decide ((b : Nat) = t) then 1 else 0).sum = 2 := by
  revert a b
  decide
theorem ends_all : ∀ (l : L), (∀ x ∈ l, Good x) → ends8 l 0 8 = 2 * l.length
  | [], _ => rfl
  | x :: r, h => by
    have ih := ends_all r (fun y hy => h y (by simp [hy]))
    obtain ⟨⟨a0, a1⟩, ⟨b0, b1⟩, hne, _⟩ := h x (by simp)
    have ea : x.f0 = ((x.f0.toNat : Nat) : Int) := by omega
    have eb : x.f1 = ((x.f1.toNat : Nat) : Int) := by omega
    have k := one_leg ⟨x.f0.toNat, by omega⟩ ⟨x.f1.toNat, by omega⟩ (fun e => hne (by have := congrArg Fin.val e; simp only at this; omega))
    have t : ∀ n : Nat, (if touches (n : Int) x = true then 1 else 0) = (if (decide (x.f0.toNat = n) || decide (x.f1.toNat = n)) = true then 1 else 0) := fun n => by
      unfold touches
      rw [show decide (x.f0 = (n : Int)) = decide (x.f0.toNat = n) from decide_eq_decide.2 ⟨fun e => by omega, fun e => by omega⟩, show decide (x.f1 = (n : Int)) = decide (x.f1.toNat = n) from decide_eq_decide.2 ⟨fun e => by omega, fun e => by omega⟩]
    simp only [ends8, cnt, t, List.length_cons, Nat.zero_add, Nat.reduceAdd] at ih ⊢
    simp only [List.range, List.range.loop, List.map_cons, List.map_nil, List.sum_cons, List.sum_nil] at k
    omega
end Go.Proofs.YtlipaiabjcaeiaaDoor.Net

/- The law FnChains, as a plain statement: the shift of a chain is the sum of its parts, and every leg is at its two ends. Conditions: those of the row's own reading. -/
namespace Go.Proofs.YtlipaiabjcaeiaaDoor.Net
open Go.RowKit Go.Proofs.YtlipaiabjcaeiaaDoorW.PrintWords Go.Proofs.YtlipaiabjcaeiaaDoor.Plain Go.Proofs.YtlipaiabjcaeiaaDoor.A Go.Proofs.YtlipaiabjcaeiaaDoor.Draw
set_option linter.unusedVariables false
set_option linter.unusedSimpArgs false
theorem vInts_ev (l : List Int) (hb : l.length ≤ 140737488351232) : Ev (fun k => laws_vInts.f k l l) true := by
  unfold laws_vInts.f
  refine Ev.pos rfl ?_
  exact eq_all laws_vInts.l0 (fun k x0 x4 h0 => by
    simp only [laws_vInts.l0, if_true]
    by_cases h : x4 < (x0.length : Int)
    · rw [if_pos h, if_pos h0, if_pos h, if_pos h]
    · rw [if_neg h, if_neg h]) l hb
theorem atM_len (l : L) (st : Int) : (atM l st).1.length ≤ l.length := by
  unfold atM
  split
  · split
    · rw [atI_len]; exact cnt_le st l
    · simp
  · simp
theorem j4_law (code : List Int) (hc : Bytes code) (hl : code.length ≤ 65536) : Ev (fun k => laws_FnChains.j4 k code) true := by
  obtain ⟨⟨l, st⟩, hD, hn⟩ := drawLegsAt hc hl
  dsimp only at hn
  have hlen := atM_len l st
  refine Ev.step (fun k => by simp only [laws_FnChains.j4]; rfl) ?_
  refine Ev.bind hD (Ev.bind (implAt_ev l (by omega) st) (Ev.bind (specAt_ev l (by omega) st) (Ev.pos (by simp) (Ev.bind (vInts_ev (atM l st).1 (by omega)) (Ev.now _)))))
theorem l0_law (code : List Int) (hc : Bytes code) (hl : code.length ≤ 65536) (l : L) (hv : legsB l = true) : ∀ (d st acc : Nat), st + d = 8 → acc + ends8 l st d = 2 * l.length → acc ≤ 1000 → Ev (fun k => laws_FnChains.l0 k code l (sT l) (acc : Int) (st : Int)) true := by
  obtain ⟨hg, hn⟩ := legsB_iff.1 hv
  intro d
  induction d with
  | zero =>
    intro st acc hs ha hb
    have ha' : acc = 2 * l.length := ha
    have hge := sT_ge l hg
    refine Ev.step (fun k => ?_) (j4_law code hc hl)
    rw [laws_FnChains.l0]
    rw [if_neg (show ¬ (st : Int) < 8 by omega), w64 (x := 2 * (l.length : Int)) (by omega) (by omega), if_pos (show (acc : Int) = 2 * (l.length : Int) by omega), if_neg (show ¬ sT l < (l.length : Int) by omega)]
  | succ d ih =>
    intro st acc hs ha hb
    have hcn := cnt_le (st : Int) l
    have he : acc + cnt (st : Int) l + ends8 l (st + 1) d = 2 * l.length := by rw [ends8] at ha; omega
    have hnext := ih (st + 1) (acc + cnt (st : Int) l) (by omega) he (by omega)
    have ea : atM l (st : Int) = (atI (st : Int) 0 l, true) := by unfold atM; rw [if_pos hv, if_pos (by omega)]
    have hi := implAt_ev l (by omega) (st : Int)
    rw [ea] at hi
    refine Ev.step (fun k => by simp only [laws_FnChains.l0]; rfl) ?_
    refine Ev.pos (by omega) (Ev.bind hi (Ev.pos rfl ?_))
    rw [w64 (x := (st : Int) + 1) (by omega) (by omega)]
    simp only
    rw [atI_len, w64 (x := (acc : Int) + (cnt (st : Int) l : Int)) (by omega) (by omega)]
    exact hnext
theorem j1_law (code : List Int) (hc : Bytes code) (hl : code.length ≤ 65536) : Ev (fun k => laws_FnChains.j1 k code) true := by
  obtain ⟨l, hD, hn⟩ := drawLegsLength hc hl
  refine Ev.step (fun k => by simp only [laws_FnChains.j1]; rfl) ?_
  refine Ev.bind hD (Ev.bind (implLen_ev l (by omega)) (Ev.bind (specLen_ev l (by omega)) (Ev.pos rfl ?_)))
  rw [bne_self_eq_false]
  unfold lenL
  by_cases h : legsB l = true
  · rw [if_pos h]
    refine Ev.step (f := fun k => laws_FnChains.l0 k code l (sT l) 0 0) (fun k => by simp only [laws_FnChains.j2, Bool.false_eq_true, if_false, if_true]) ?_
    exact l0_law code hc hl l h 8 0 0 (by omega) (by rw [ends_all l (legsB_iff.1 h).1]; omega) (by omega)
  · rw [if_neg h]
    exact Ev.step (f := fun k => laws_FnChains.j4 k code) (fun k => by simp only [laws_FnChains.j2, Bool.false_eq_true, if_false]) (j4_law code hc hl)
theorem j0_law (code : List Int) (hc : Bytes code) (hl : code.length ≤ 65536) (l : L) (hn : l.length ≤ 22) : Ev (fun k => laws_FnChains.j0 k code l (chM l).2.2.2 false (chM l).1 (chM l).2.1 (chM l).2.2.1) true := by
  have h1 := j1_law code hc hl
  by_cases h : legsB l = true ∧ okC none l = true
  · have e : chM l = (s0 l, s1 l, s2 l, true) := by
      unfold chM ch
      rw [if_pos h.1, if_pos h.2, Int.zero_add, Int.zero_add, Int.zero_add]
    obtain ⟨a, b, c, a', b', c', g1, g2, g3, g4, g5⟩ := ch_parts l h.1 h.2 (l.length / 2)
    have ew : wrap64 ((l.length : Int) / 2) = ((l.length / 2 : Nat) : Int) := by rw [w64 (by omega) (by omega)]; omega
    have i1 := implChain_ev (l.take (l.length / 2)) (by rw [List.length_take]; omega)
    have i2 := implChain_ev (l.drop (l.length / 2)) (by rw [List.length_drop]; omega)
    rw [g1] at i1
    rw [g2] at i2
    rw [e]
    refine Ev.step (fun k => by simp only [laws_FnChains.j0, Bool.false_eq_true, if_false, if_true, ew, Int.toNat_natCast]; rfl) ?_
    exact Ev.pos (by omega) (Ev.pos (by omega) (Ev.bind i1 (Ev.bind i2 (Ev.pos rfl (Ev.pos rfl (Ev.pos g3 (Ev.pos g4 (Ev.pos g5 h1))))))))
  · have e : chM l = (0, 0, 0, false) := by
      unfold chM ch
      by_cases h2 : legsB l = true
      · rw [if_pos h2, if_neg (fun c => h ⟨h2, c⟩)]
      · rw [if_neg h2]
    rw [e]
    exact Ev.step (f := fun k => laws_FnChains.j1 k code) (fun k => by simp only [laws_FnChains.j0, Bool.false_eq_true, if_false]) h1
end Go.Proofs.YtlipaiabjcaeiaaDoor.Net
namespace Go.Proofs.YtlipaiabjcaeiaaDoor.Pure
open Go.RowKit Go.Proofs.YtlipaiabjcaeiaaDoorW.PrintWords Go.Proofs.YtlipaiabjcaeiaaDoor.Plain Go.Proofs.YtlipaiabjcaeiaaDoor.A Go.Proofs.YtlipaiabjcaeiaaDoor.Net Go.Proofs.YtlipaiabjcaeiaaDoor.Draw
theorem FnChains (code : List Int) (hb : code.length * 1 ≤ 140737488351232) (hw : ∀ x ∈ code, (Lit.int .u8 x).wf = true) : ∃ k, laws_FnChains.f k code = some true := by
  refine Ev.rounds ?_
  have hc := Bytes.of_wf hw
  refine Ev.bindc (show laws_vBig.f code = some (decide ((code.length : Int) > 65536)) from rfl) ?_
  by_cases c : (code.length : Int) > 65536
  · exact Ev.pos (decide_eq_true c) (Ev.now _)
  have hl : code.length ≤ 65536 := by omega
  refine Ev.neg (by rw [decide_eq_false c]; decide) ?_
  obtain ⟨l, hD, hn⟩ := drawChain hc hl
  refine Ev.bind hD (Ev.bind (implChain_ev l (by omega)) (Ev.bind (specChain_ev l (by omega)) (Ev.neg (by simp) ?_)))
  rw [bne_self_eq_false]
  exact j0_law code hc hl l hn
end Go.Proofs.YtlipaiabjcaeiaaDoor.Pure

/- General laws by which a law's arguments are opened: a slice of structs whose fields are integers or bools, as a row of the print's kinds; a struct by value. No conditions. -/
namespace Go.Proofs.YtlipaiabjcaeiaaDoor.Opens
open Go.ChangeShapes Go.WideShapes Go.Deep Go.RowKit Go.Proofs.YtlipaiabjcaeiaaDoorW.PrintWords

theorem list_of {α : Type} {P : Nat → α → Prop} : ∀ (n : Nat), (∀ i, i < n → ∃ x, P i x) → ∃ xs : List α, xs.length = n ∧ ∀ i x, xs[i]? = some x → P i x
  | 0, _ => ⟨[], rfl, fun i x h => by simp at h⟩
  | n + 1, h => by
    obtain ⟨xs, hl, hx⟩ := list_of n (fun i hi => h i (Nat.lt_succ_of_lt hi))
    obtain ⟨y, hy⟩ := h n (Nat.lt_succ_self n)
    refine ⟨xs ++ [y], by simp [hl], fun i x hi => ?_⟩
    by_cases hlt : i < xs.length
    · rw [List.getElem?_append_left hlt] at hi
      exact hx i x hi
    · rw [List.getElem?_append_right (by omega)] at hi
      have h0 : i - xs.length = 0 := by
        have := (List.getElem?_eq_some_iff.1 hi).1
        simp at this
        omega
      rw [h0] at hi
      simp at hi
      subst hi
      have : i = n := by omega
      subst this
      exact hy

section
variable {H : Type} {enc : TypeId × Value → H} {P : Program} {w : World} {base : Nat} {spare : Nat → Bool} {held : Bool}
/-- A slice of structs, opened: the list of what its elements are, each by the kind's own reading. -/
theorem open_row {α : Type} (d : Kd α) {Q : α → Prop} {t e : TypeId} {a : Option Addr} {len cap : Nat} {dd : DataW H} {ps : List MemPlace} (ht : P.underlying t = some (.slice e)) (hC : P.cellsOf e = d.sz)
    (hd : ∀ n cs y, DataW.trod enc P w base spare held n e cs = some y → ∃ x, d.K w x cs ∧ Q x)
    (h : DataW.Trod enc P w base spare held t (.slice a len cap) dd ps) : ∃ xs : List α, xs.length = len ∧ len ≤ cap ∧ d.C w a len xs ∧ ∀ x ∈ xs, Q x := by
  obtain ⟨fuel, hf⟩ := h
  rcases open_slice ht hf with ⟨hcs, _⟩ | ⟨x, l, c, m, n, D, Pl, hcs, _, hl, hm, hmm, _, hi⟩
  · simp [Value.cells] at hcs
    obtain ⟨rfl, rfl, rfl⟩ := hcs
    exact ⟨[], rfl, Nat.le_refl _, ⟨rfl, by omega, fun h => by omega⟩, fun x hx => by simp at hx⟩
  · simp [Value.cells] at hcs
    obtain ⟨rfl, rfl, rfl⟩ := hcs
    have hle : len ≤ m := by subst hmm; split <;> omega
    obtain ⟨xs, hxl, hx⟩ := list_of (P := fun i (z : α) => Q z ∧ ∃ cs, d.K w z cs ∧ w.cells? base (x.add (i * d.sz)) d.sz = some cs) len (fun i hil => by
      obtain ⟨cs, h1, h2⟩ := hi i (by omega)
      rw [hC] at h1
      obtain ⟨z, h3, h4⟩ := hd _ _ _ h2
      exact ⟨z, h4, cs, h3, h1⟩)
    refine ⟨xs, hxl, hl, ⟨hxl, by unfold maxLen at hm; omega, fun _ => ⟨x, rfl, fun j p hp => ?_⟩⟩, fun z hz => ?_⟩
    · obtain ⟨_, cs, h1, h2⟩ := hx j p hp
      obtain ⟨_, hlen, hat⟩ := World.cells?_some h2
      refine ⟨cs, hlen, h1, fun i u hu => ?_⟩
      have hil : i < d.sz := by have := (List.getElem?_eq_some_iff.1 hu).1; omega
      rw [← Go.Deep.add_add, hat i hil, hu]
    · obtain ⟨j, hj⟩ := List.getElem?_of_mem hz
      exact (hx j z hj).1

theorem sized_row {t e : TypeId} {a : Option Addr} {len cap : Nat} {d : DataW H} {ps : List MemPlace} {ts : List TypeId} {ds : List (DataW H)} {j : Nat}
    (hsz : (DataW.weightsEach P ts ds).all (· ≤ reachBytes) = true) (ht : ts[j]? = some t) (hd : ds[j]? = some d) (hu : P.underlying t = some (.slice e)) {B : Nat} (hB : P.bytesOf e = B)
    (h : DataW.Trod enc P w base spare held t (.slice a len cap) d ps) : len * B ≤ 140737488351232 := by
  obtain ⟨fuel, hf⟩ := h
  rcases open_slice hu hf with ⟨hcs, _⟩ | ⟨x, l, c, m, n, D, Pl, hcs, _, hl, hm, hmm, hx, hi⟩
  · simp [Value.cells] at hcs
    obtain ⟨rfl, rfl, rfl⟩ := hcs
    simp
  · simp [Value.cells] at hcs
    obtain ⟨rfl, rfl, rfl⟩ := hcs
    obtain ⟨hx, _⟩ := Prod.mk.inj hx
    subst hx
    have z := sized_slice hsz ht hd hu
    rw [hB] at z
    simp only [List.length_map, List.length_range] at z
    have hle : len ≤ m := by subst hmm; split <;> omega
    rw [show len + (m - len) = m by omega] at z
    exact Nat.le_trans (Nat.mul_le_mul_right _ hle) z

end
end Go.Proofs.YtlipaiabjcaeiaaDoor.Opens

namespace Go.Proofs.YtlipaiabjcaeiaaDoor.fnChains
open Go.ChangeShapes Go.WideShapes Go.ChangeAt Go.RowKit
open Go.ChangeMaps (open_string shut_string)
open Go.Proofs.YtlipaiabjcaeiaaDoor.A Go.Proofs.YtlipaiabjcaeiaaDoorW.PrintWords Go.Proofs.YtlipaiabjcaeiaaDoor.Opens
set_option linter.unusedVariables false
theorem own : ownKnob Tryd.prog.godebug = none := by kernel_rfl
theorem laidOut : laidOutB Tryd.prog = true := by kernel_rfl
set_option maxRecDepth 100000 in
theorem lifted (os : Os) (started : os.Started) (H : Type) (enc : TypeId × Value → H) :
    ReturnsInHanded {} Tryd.checked os 3 .any (fun w args => (Rows.fnChainsSpec.pre enc Tryd.prog Tryd.f3 [] false w args ∧ laidMetH Tryd.prog LaidT.list w) ∧ sizedMet enc Tryd.prog Tryd.f3 (OpenSpec.ofChange Rows.fnChainsSpec) false w args) (Rows.fnChainsSpec.post enc Tryd.prog Tryd.f3 false true false false) := by
  refine returnsInHanded_of_change_and (C := Tryd.checked) (X := fun w _ => laidMetH Tryd.prog LaidT.list w) (fun _ _ _ hh h => h.of_heap hh) own started (by kernel_rfl) Tryd.func3
    (ChangeSpec.witness_shaped (enc := enc) (C := Tryd.checked) (os := os) (X := fun w _ => laidMetH Tryd.prog LaidT.list w) false (World.doorLaid Tryd.prog 400 os) #[.slice none 0 0] 8 rfl (World.shaped_of_RefB (by kernel_rfl) (by kernel_rfl)) (by kernel_rfl) (by kernel_rfl) (by kernel_rfl) (LaidT.door_met os _)) ?_
  intro W base args ds gs before hval0 hW hcnd hsz0 hL _
  have hsz : (DataW.weightsEach Tryd.prog (Tryd.f3.params.toList ++ Rows.fnChainsSpec.plain.varTypes Tryd.prog) (ds ++ gs)).all (· ≤ reachBytes) = true := hsz0
  have hval : ∀ (j : Nat) t v, Tryd.f3.params[j]? = some t → args[j]? = some v → Value.okWide Tryd.prog W .any base t v := hval0
  have hW' := hW
  obtain ⟨p, q, hA0, hV, rfl, hfz, hnd⟩ := hW
  have hA : DataW.TrodAll enc Tryd.prog W 0 (fun _ => true) true Tryd.f3.params.toList args.toList ds p := hA0
  rw [Tryd.params3] at hA hval hsz
  obtain ⟨v0, vs0, d0, ds0, p0, q0, hargs, rfl, rfl, h0, r0⟩ := trodAll_cons hA
  obtain ⟨rfl, rfl, rfl⟩ := trodAll_nil r0
  obtain rfl : args = #[v0] := by cases args; simp_all
  have hV2 := hV
  obtain ⟨_, _, _, _, gd, _, rfl, _, _, _, _, _⟩ := trodVars_one hV
  have k0 := h0
  have lt0 : ∀ x ∈ p0, x.block < W.heap.size := by obtain ⟨m, hm⟩ := k0; exact DataW.trod_lt m _ _ _ hm
  obtain ⟨a0, len0, cap0, rfl⟩ := okWide_slice Tryd.underlying22 (hval 0 22 v0 rfl rfl)
  obtain ⟨l0, hl0, hc0, hr0, hw0⟩ := Opens.open_row (Kd.int .u8) (Q := fun x => (Lit.int .u8 x).wf = true) (e := 5) Tryd.underlying22 (by kernel_rfl) (fun _ _ _ h => by obtain ⟨x, rfl, _, hw⟩ := DataW.trod_int Tryd.underlying5 h; exact ⟨x, rfl, hw⟩) h0
  have y0 : len0 * 1 ≤ 140737488351232 := Opens.sized_row hsz (j := 0) (t := 22) rfl rfl Tryd.underlying22 (by kernel_rfl) h0
  subst hl0
  clear hA0 hval0 hsz0 hsz
  obtain ⟨k, hk⟩ := Pure.FnChains l0 y0 hw0
  refine (laws_FnChains.calls k _ _ l0 true W hr0 hc0 hk (LaidT.of_laid hL)).mono fun e W' ⟨he, hb⟩ => ?_
  have bel : Below W.heap.size W W' := hb
  subst he
  exact ⟨_, rfl, _, _, _, [], _, _, hW', trodAll_mk1 (shut_bool Tryd.underlying4 _), (trodAll_cons_mk (Below.trod laidOut (by kernel_rfl) (of_decide_eq_true (by kernel_rfl)) k0 bel lt0) trodAll_mk0), Below.trodVars laidOut bel (by kernel_rfl) hV2, bel.frame _, fun h => by cases h⟩
theorem over : Rows.fnChainsRow.holds Tryd.pinned (OpenSpec.ofChange Rows.fnChainsSpec) :=
  OpenClaim.holds_of_wide 3 Tryd.f3 rfl rfl rfl rfl rfl rfl rfl ⟨rfl, rfl, rfl, rfl, rfl⟩ rfl rfl rfl rfl rfl (by kernel_rfl) Tryd.func3 (by kernel_rfl)
    (of_decide_eq_true (by kernel_rfl)) (by unfold Func.isWrapper; first | (rw [if_pos (by decide +kernel)]; kernel_rfl) | (rw [if_neg (by decide +kernel)]; exact ⟨rfl, rfl⟩))
    (fun os started H enc _ => lifted os started H enc)
theorem proved : Rows.FnChainsSaid := over
theorem card_holds : Rows.FnChainsCardSaid :=
  Claim7.holds_tied_plain_at .later [] [.data] true (true, "19d67dce5e7c98fb61e69c74ded1048302aa568597b85330198fe04ce1477cc6") false
    over (fun _ h => by cases h) (by kernel_rfl) (fun _ h => by cases h) fnChains_row_tie rfl ⟨rfl, rfl⟩ (by kernel_rfl) rfl
    (fun f fn hf hfn => by
      obtain rfl : f = 3 := Option.some.inj ((show Tryd.prog.funcNamed "loop.example/g00933/laws.FnChains" = some 3 by kernel_rfl).symm.trans hf) |>.symm
      obtain rfl : fn = Tryd.f3 := (Option.some.inj (Tryd.func3.symm.trans hfn)).symm
      exact ⟨by kernel_rfl, fun j t ht => by
        rw [Tryd.params3] at ht
        have hm : t ∈ [22] := by simpa using Array.mem_of_getElem? ht
        have hall : ([22].all fun u => !Tryd.prog.wantsStandIn u) = true := by kernel_rfl
        exact (show Tryd.prog.wantsStandIn t = false by simpa using List.all_eq_true.1 hall t hm)⟩)
    (by kernel_rfl)
#print axioms card_holds
end Go.Proofs.YtlipaiabjcaeiaaDoor.fnChains
namespace Go.Proofs.YtlipaiabjcaeiaaDoor
/-- The row, under a short name, for the claim. -/
theorem fnChains_holds : Rows.FnChainsCardSaid := fnChains.card_holds
end Go.Proofs.YtlipaiabjcaeiaaDoor
