/- The row of the law FnBridges: whatever the input, it returns true; its arguments read as they did. No conditions. -/
import Derived.Deep.Slices
import Derived.Deep.Fields
import Derived.ChangeSame
import Derived.SizedLaws
import Derived.Test.YtcafgpincnkcdaaDoorCards
import Derived.Test.YtcafgpincnkcdaaDoorTie
import Derived.OpenVars
import Derived.ChangeVars
import Derived.SevenTiedAt
import Derived.ShutString
import Derived.ChangeOld
import Derived.Test.YtcafgpincnkcdaaDoorKFnBridgesU4
set_option linter.unusedSimpArgs false
set_option linter.unusedVariables false
namespace Go.Proofs.YtcafgpincnkcdaaDoor.Draw
open Go Go.RowKit YtcafgpincnkcdaaDoorW.PrintWords Plain A Net
theorem Oks.bindc {α β : Type} {o : Option α} {f : Nat → α → Option β} {a : α} {Q : β → Prop} (h : o = some a) (k : Oks (fun n => f n a) Q) : Oks (fun n => o.bind (f n)) Q := by
 subst h; exact k
theorem l1In_eq (x a b : Int) : ∃ r, spec_l1In.f x a b = some r := by
 unfold spec_l1In.f; split <;> exact ⟨_, rfl⟩
theorem l2Long_eq (x : Int) : ∃ r, spec_l2Long.f x = some r := by
 unfold spec_l2Long.f; obtain ⟨r, e⟩ := l1In_eq x (-100000) 100000; rw [e]; exact ⟨r, rfl⟩
theorem dlen_loop (n : Int) : ∀ (d : Nat) (lo hi : Int), hi - lo ≤ d → 0 ≤ lo → hi ≤ 200000 → Oks (fun k => spec_LengthOf.l0 k n lo hi) (fun _ => True) := by
 intro d
 induction d with
 | zero =>
  intro lo hi h h0 h1; refine Oks.step (fun k => by simp only [spec_LengthOf.l0]; rfl) ?_; exact Oks.neg (by omega) (Oks.now trivial)
 | succ d ih =>
  intro lo hi h h0 h1; refine Oks.step (fun k => by simp only [spec_LengthOf.l0]; rfl) ?_; refine Oks.ite (fun hlt => ?_) (fun _ => Oks.now trivial); have e1 : wrap64 (lo + hi) = lo + hi := w64 (by omega) (by omega); have e2 : wrap64 (lo + hi + 1) = lo + hi + 1 := w64 (by omega) (by omega); have hd : Int.tdiv (lo + hi + 1) 2 = (lo + hi + 1) / 2 := Int.tdiv_eq_ediv_of_nonneg (by omega); have e3 : wrap64 (Int.tdiv (lo + hi + 1) 2) = (lo + hi + 1) / 2 := by rw [hd]; exact w64 (by omega) (by omega)
  have e4 : wrap64 ((lo + hi + 1) / 2 - 1) = (lo + hi + 1) / 2 - 1 := w64 (by omega) (by omega); rw [e1, e2, e3, e4]; exact Oks.ite (fun _ => ih _ _ (by omega) (by omega) (by omega)) (fun _ => ih _ _ (by omega) (by omega) (by omega))
theorem dlen_j0 (a b c : Int) (t : Bool) : Oks (fun k => spec_LengthOf.j0 k a b c t) (fun _ => True) := by
 refine Oks.step (fun k => by simp only [spec_LengthOf.j0]; rfl) ?_; exact Oks.ite (fun _ => Oks.now trivial) (fun _ => dlen_loop _ 200000 0 200000 (by omega) (by omega) (by omega))
theorem lengthK (a b c : Int) : Oks (fun k => spec_LengthOf.f k a b c) (fun _ => True) := by
 unfold spec_LengthOf.f; obtain ⟨r, e⟩ := l2Long_eq a; obtain ⟨r2, e2⟩ := l2Long_eq b; obtain ⟨r3, e3⟩ := l2Long_eq c; exact Oks.bindc e (Oks.ite (fun _ => Oks.bindc e2 (Oks.ite (fun _ => Oks.bindc e3 (dlen_j0 _ _ _ _)) (fun _ => dlen_j0 _ _ _ _))) (fun _ => dlen_j0 _ _ _ _))
theorem bear_loop (x y : Int) : ∀ (d : Nat) (b i : Int), i + d = 360 → 1 ≤ i → 0 ≤ b → b ≤ 359 → Oks (fun k => spec_BearingTo.l0 k x y b i) (fun _ => True) := by
 intro d
 induction d with
 | zero =>
  intro b i h h0 hb0 hb1; refine Oks.step (fun k => by simp only [spec_BearingTo.l0]; rfl) ?_; exact Oks.neg (by omega) (Oks.now trivial)
 | succ d ih =>
  intro b i h h0 hb0 hb1; refine Oks.step (fun k => by simp only [spec_BearingTo.l0]; rfl) ?_; refine Oks.pos (by omega) ?_; refine Oks.bindc (sine_eq i (by omega) (by omega)) (Oks.bindc (cosine_eq i (by omega) (by omega)) (Oks.bindc (sine_eq b (by omega) (by omega)) (Oks.bindc (cosine_eq b (by omega) (by omega)) ?_))); rw [w64 (x := i + 1) (by omega) (by omega)]; exact Oks.ite (fun _ => ih i (i + 1) (by omega) (by omega) (by omega) (by omega)) (fun _ => ih b (i + 1) (by omega) (by omega) (by omega) (by omega))
theorem bear_j0 (x y : Int) (t : Bool) : Oks (fun k => spec_BearingTo.j0 k x y t) (fun _ => True) := by
 refine Oks.step (fun k => by simp only [spec_BearingTo.j0]; rfl) ?_; exact Oks.ite (fun _ => Oks.now trivial) (fun _ => bear_loop x y 359 0 1 (by omega) (by omega) (by omega) (by omega))
theorem bearK (a b : Int) : Oks (fun k => spec_BearingTo.f k a b) (fun _ => True) := by
 unfold spec_BearingTo.f; obtain ⟨r, e⟩ := l2Long_eq a; obtain ⟨r2, e2⟩ := l2Long_eq b; exact Oks.bindc e (Oks.ite (fun _ => Oks.bindc e2 (Oks.ite (fun _ => Oks.ite (fun _ => bear_j0 _ _ _) (fun _ => bear_j0 _ _ _)) (fun _ => bear_j0 _ _ _))) (fun _ => bear_j0 _ _ _))
theorem slope_loop (x y : Int) : ∀ (d : Nat) (b i : Int), i + d = 91 → 1 ≤ i → -90 ≤ b → b ≤ 90 → Oks (fun k => spec_SlopeTo.l0 k x y b i) (fun _ => True) := by
 intro d
 induction d with
 | zero =>
  intro b i h h0 hb0 hb1; refine Oks.step (fun k => by simp only [spec_SlopeTo.l0]; rfl) ?_; exact Oks.neg (by omega) (Oks.now trivial)
 | succ d ih =>
  intro b i h h0 hb0 hb1; refine Oks.step (fun k => by simp only [spec_SlopeTo.l0]; rfl) ?_; refine Oks.pos (by omega) ?_
  have stop : ∀ b2 : Int, -90 ≤ b2 → b2 ≤ 90 → Oks (fun k => spec_SlopeTo.l1 k x y b2 i (-3)) (fun _ => True) := fun b2 g0 g1 => by
   refine Oks.step (fun k => by simp only [spec_SlopeTo.l1]; rfl) (Oks.neg (by omega) ?_); rw [w64 (x := i + 1) (by omega) (by omega)]; exact ih b2 (i + 1) (by omega) (by omega) g0 g1
  have one : ∀ (b2 s s2 : Int), -90 ≤ b2 → b2 ≤ 90 → s = 1 ∨ s = -1 → s2 = s - 2 → (∀ b3 : Int, -90 ≤ b3 → b3 ≤ 90 → Oks (fun k => spec_SlopeTo.l1 k x y b3 i s2) (fun _ => True)) → Oks (fun k => spec_SlopeTo.l1 k x y b2 i s) (fun _ => True) := fun b2 s s2 g0 g1 hs h2 hk => by
   have hm : wrap64 (s * i) = s * i := by rcases hs with rfl | rfl <;> exact w64 (by omega) (by omega)
   have hb : -90 ≤ s * i ∧ s * i ≤ 90 := by rcases hs with rfl | rfl <;> omega
   refine Oks.step (fun k => by simp only [spec_SlopeTo.l1]; rfl) (Oks.pos (by rcases hs with rfl | rfl <;> omega) ?_); rw [hm, w64 (x := s - 2) (by omega) (by omega), ← h2]; refine Oks.bindc (cosine_eq i (by omega) (by omega)) (Oks.bindc (sine_eq (s * i) (by omega) (by omega)) (Oks.bindc (cosine_eq b2 (by omega) (by omega)) (Oks.bindc (sine_eq b2 (by omega) (by omega)) ?_))); exact Oks.ite (fun _ => hk _ hb.1 hb.2) (fun _ => hk _ g0 g1)
  exact one b 1 (-1) hb0 hb1 (Or.inl rfl) rfl (fun b3 g0 g1 => one b3 (-1) (-3) g0 g1 (Or.inr rfl) rfl stop)
theorem slope_j0 (x y : Int) (t : Bool) : Oks (fun k => spec_SlopeTo.j0 k x y t) (fun _ => True) := by
 refine Oks.step (fun k => by simp only [spec_SlopeTo.j0]; rfl) ?_; exact Oks.ite (fun _ => Oks.now trivial) (fun _ => slope_loop x y 90 0 1 (by omega) (by omega) (by omega) (by omega))
theorem slopeK (a b : Int) : Oks (fun k => spec_SlopeTo.f k a b) (fun _ => True) := by
 unfold spec_SlopeTo.f; obtain ⟨r, e⟩ := l1In_eq a 0 100000; obtain ⟨r2, e2⟩ := l2Long_eq b; exact Oks.bindc e (Oks.ite (fun _ => Oks.bindc e2 (Oks.ite (fun _ => Oks.ite (fun _ => slope_j0 _ _ _) (fun _ => slope_j0 _ _ _)) (fun _ => slope_j0 _ _ _))) (fun _ => slope_j0 _ _ _))
variable {code : List Int} (hc : Bytes code) (hl : code.length ≤ 65536)
include hc hl
def CaveP (M : Int) (r : List S49 × Int × Int) : Prop := r.1.length ≤ 9 ∧ 0 ≤ r.2.1 ∧ r.2.1 ≤ M
theorem cave_l1 (M : Int) (hM : M ≤ 70000000) (x4 : Int) (x5 : List S31) (h5 : (x5.length : Int) = x4) (h4 : 2 ≤ x4) : ∀ (d : Nat) (x3 : List S49) (a s : Int), 1 ≤ x3.length → x3.length + d ≤ 8 → 0 ≤ a → a + 30 * (d : Int) + 100 ≤ M → Oks (fun k => spec_l1Cur_cave.l1 k x3 x4 x5 (d : Int) code a s) (CaveP M) := by
 intro d
 induction d with
 | zero =>
  intro x3 a s h1 h2 h0 ha; refine Oks.step (fun k => by simp only [spec_l1Cur_cave.l1]; rfl) (Oks.neg (by omega) ?_); refine Oks.bind (pickK hc hl a s 24 h0 (by omega)) ?_; rintro ⟨v, a1, s1⟩ ⟨_, _, e3, e4⟩
  dsimp only at e3 e4 ⊢
  refine Oks.ite (fun _ => ?_) (fun _ => Oks.ite (fun _ => ?_) (fun _ => Oks.ite (fun _ => ?_) (fun _ => ?_)))
  ·
   refine Oks.bind (legK hc hl a1 s1 (by omega) (by omega)) ?_; rintro ⟨b0, b1, b2, b3, b4, a2, s2⟩ ⟨f3, f4⟩
   dsimp only at f3 f4 ⊢
   exact Oks.pos (by omega) (Oks.now ⟨(by simp only [List.length_set]; omega), qz71, qz71⟩)
  ·
   refine Oks.bind (legK hc hl a1 s1 (by omega) (by omega)) ?_; rintro ⟨b0, b1, b2, b3, b4, a2, s2⟩ ⟨f3, f4⟩
   dsimp only at f3 f4 ⊢
   exact Oks.pos (by omega) (Oks.now ⟨qz82, qz71, qz71⟩)
  ·
   refine Oks.bind (P := fun r => r = []) (Oks.now rfl) ?_; rintro r rfl; refine Oks.pos (by omega) (Oks.bind (P := fun r => r.length ≤ 8) (Oks.now (by rw [List.length_drop]; omega)) ?_); intro r hr; exact Oks.pos (by simp only [List.length_nil]; omega) (Oks.now ⟨(by simp only [List.nil_append]; omega), qz71, qz71⟩)
  · exact Oks.now ⟨qz71, qz71, qz71⟩
 | succ d ih =>
  intro x3 a s h1 h2 h0 ha; have ed : wrap64 (((d + 1 : Nat) : Int) - 1) = (d : Int) := by rw [w64 (by omega) (by omega)]; omega
  refine Oks.step (fun k => by simp only [spec_l1Cur_cave.l1]; rfl) (Oks.pos (by omega) ?_); refine Oks.bind (pickK hc hl a s x4 h0 (by omega)) ?_; rintro ⟨v, a1, s1⟩ ⟨e1, e2, e3, e4⟩
  dsimp only at e1 e2 e3 e4 ⊢
  have e5 := e2 (by omega); refine Oks.bind (pickK hc hl a1 s1 x4 (by omega) (by omega)) ?_; rintro ⟨v2, a2, s2⟩ ⟨f1, f2, f3, f4⟩
  dsimp only at f1 f2 f3 f4 ⊢
  have f5 := f2 (by omega); refine Oks.pos (by omega) (Oks.pos (by omega) (Oks.pos (by omega) (Oks.pos (by omega) ?_))); refine Oks.bind (P := fun _ => True) ⟨_, Ev.some (fun k => rfl), trivial⟩ ?_; rintro ⟨p0, p1, p2⟩ _
  dsimp only
  refine Oks.bind (lengthK p0 p1 0) ?_; rintro ⟨q0, q1⟩ _
  dsimp only
  refine Oks.bind (lengthK p0 p1 p2) ?_; rintro ⟨r0, r1⟩ _
  dsimp only
  have j2 : ∀ t : Bool, Oks (fun k => spec_l1Cur_cave.j2 k x3 x4 x5 ((d + 1 : Nat) : Int) v v2 q0 r0 t code a2 s2 p0 p1 p2) (CaveP M) := fun t => by
   refine Oks.step (fun k => by simp only [spec_l1Cur_cave.j2, ed]; rfl) ?_; refine Oks.ite (fun _ => ih x3 a2 s2 h1 (by omega) (by omega) (by omega)) (fun _ => ?_); refine Oks.bind (bearK p0 p1) ?_; rintro ⟨t0, t1⟩ _
   dsimp only
   refine Oks.bind (slopeK q0 p2) ?_; rintro ⟨u0, u1⟩ _
   dsimp only
   refine Oks.bind (pickK hc hl a2 s2 4 (by omega) (by omega)) ?_; rintro ⟨v3, a3, s3⟩ ⟨_, _, g3, g4⟩
   dsimp only at g3 g4 ⊢
   refine Oks.bind (pickK hc hl a3 s3 3 (by omega) (by omega)) ?_; rintro ⟨v4, a4, s4⟩ ⟨_, _, i3, i4⟩
   dsimp only at i3 i4 ⊢
   exact Oks.pos (by omega) (ih _ a4 s4 qz82 qz82 (by omega) (by omega))
  refine Oks.ite (fun _ => j2 true) (fun _ => ?_); obtain ⟨r, e⟩ := l1In_eq (wrap64 (r0 + 3)) 4 500; exact Oks.bindc e (j2 _)
theorem cave_l0 (M : Int) (hM : M ≤ 70000000) (x4 : Int) (h4 : 2 ≤ x4) (h4' : x4 ≤ 6) : ∀ (d : Nat) (x3 : List S49) (x5 : List S31) (x6 a s : Int), x6 + d = x4 → 1 ≤ x6 → (x5.length : Int) = x6 → (x3.length : Int) + 1 = x6 → 0 ≤ a → a + 30 * (d : Int) + 300 ≤ M → Oks (fun k => spec_l1Cur_cave.l0 k x3 x4 x5 x6 code a s) (CaveP M) := by
 intro d
 induction d with
 | zero =>
  intro x3 x5 x6 a s h6 h1 h5 h3 h0 ha; refine Oks.step (fun k => by simp only [spec_l1Cur_cave.l0]; rfl) (Oks.neg (by omega) ?_); refine Oks.bind (pickK hc hl a s 4 h0 (by omega)) ?_; rintro ⟨v, a1, s1⟩ ⟨e1, e2, e3, e4⟩
  dsimp only at e1 e2 e3 e4 ⊢
  have e5 := e2 (by omega); rw [show v = ((v.toNat : Nat) : Int) by omega]; exact cave_l1 hc hl M hM x4 x5 (by omega) h4 v.toNat x3 a1 s1 (by omega) (by omega) (by omega) (by omega)
 | succ d ih =>
  intro x3 x5 x6 a s h6 h1 h5 h3 h0 ha; refine Oks.step (fun k => by simp only [spec_l1Cur_cave.l0]; rfl) (Oks.pos (by omega) ?_); refine Oks.bind (pickK hc hl a s x6 h0 (by omega)) ?_; rintro ⟨v1, a1, s1⟩ ⟨e1, e2, e3, e4⟩
  dsimp only at e1 e2 e3 e4 ⊢
  have e5 := e2 (by omega); refine Oks.bind (amongK hc hl a1 s1 _ (by simp) (by omega) (by omega)) ?_; rintro ⟨v2, a2, s2⟩ ⟨m2, f3, f4⟩
  dsimp only at m2 f3 f4 ⊢
  refine Oks.bind (amongK hc hl a2 s2 _ (by simp) (by omega) (by omega)) ?_; rintro ⟨v3, a3, s3⟩ ⟨m3, g3, g4⟩
  dsimp only at m3 g3 g4 ⊢
  refine Oks.bind (amongK hc hl a3 s3 _ (by simp) (by omega) (by omega)) ?_; rintro ⟨v4, a4, s4⟩ ⟨m4, i3, i4⟩
  dsimp only at m4 i3 i4 ⊢
  refine Oks.pos (by omega) (Oks.pos (by omega) ?_)
  have hgood : Net.Good (⟨v1, x6, v2, v3, v4⟩ : S49) := by
   simp only [List.mem_cons, List.not_mem_nil, or_false] at m2 m3 m4; unfold Net.Good; simp only; omega
  refine Oks.bindc (shift_eq ⟨v1, x6, v2, v3, v4⟩ hgood) ?_; refine Oks.bind (P := fun _ => True) ⟨_, Ev.some (fun k => rfl), trivial⟩ ?_; rintro ⟨p0, p1, p2⟩ _
  dsimp only
  refine Oks.pos (by omega) (Oks.bind (P := fun r => (r.length : Int) = x6 + 1) (Oks.now qz82) ?_); intro y hy; refine Oks.bind (oneK hc hl a4 s4 4 (by omega) (by omega)) ?_; rintro ⟨o, a5, s5⟩ ⟨j3, j4⟩
  dsimp only at j3 j4 ⊢
  rw [w64 (x := x6 + 1) (by omega) (by omega)]; refine Oks.ite (fun _ => ?_) (fun _ => ?_)
  ·
   refine Oks.bind (P := fun _ => True) ⟨_, Ev.some (fun k => rfl), trivial⟩ ?_; rintro ⟨q0, q1, q2, q3, q4⟩ _
   dsimp only
   exact Oks.pos (by omega) (ih _ y (x6 + 1) a5 s5 (by omega) (by omega) hy qz82 (by omega) (by omega))
  · exact Oks.pos (by omega) (ih _ y (x6 + 1) a5 s5 (by omega) (by omega) hy qz82 (by omega) (by omega))
theorem caveK (a s : Int) (h0 : 0 ≤ a) (h1 : a ≤ 60000000) : Oks (fun k => spec_l1Cur_cave.f k code a s) (CaveP (a + 1000)) := by
 unfold spec_l1Cur_cave.f; refine Oks.bind (pickK hc hl a s 5 h0 (by omega)) ?_; rintro ⟨v, a1, s1⟩ ⟨e1, e2, e3, e4⟩
 dsimp only at e1 e2 e3 e4 ⊢
 have e5 := e2 (by omega); rw [w64 (x := 2 + v) (by omega) (by omega)]; exact cave_l0 hc hl (a + 1000) (by omega) (2 + v) (by omega) (by omega) (1 + v).toNat [] [⟨0, 0, 0⟩] 1 a1 s1 (by omega) (by omega) (by simp) (by simp) (by omega) (by omega)
end Go.Proofs.YtcafgpincnkcdaaDoor.Draw
namespace Go.Proofs.YtcafgpincnkcdaaDoor.Draw
open Go Go.RowKit YtcafgpincnkcdaaDoorW.PrintWords Plain A
variable {code : List Int} (hc : Bytes code) (hl : code.length ≤ 65536)
include hc hl
theorem legs_l1 : ∀ (d : Nat) (x3 : List S49) (x5 a s : Int), x5 = 14 - (d : Int) → 0 ≤ x5 → x3.length + d ≤ 22 → 0 ≤ a → a ≤ 60000000 + 2 * x5 → Oks (fun k => spec_l1Cur_legs.l1 k x3 x5 code a s) (fun r => r.1.length ≤ 22 ∧ 0 ≤ r.2.1 ∧ r.2.1 ≤ 60001000) := by
 intro d
 induction d with
 | zero =>
  intro x3 x5 a s h0 h1 h2 h4 h5; refine Oks.step (fun k => by simp only [spec_l1Cur_legs.l1]; rfl) ?_; refine Oks.bind (pickK hc hl a s 2 h4 (by omega)) ?_; rintro ⟨v, a1, s1⟩ ⟨g1, g2, g3, g4⟩
  dsimp only at g1 g2 g3 g4 ⊢
  exact Oks.ite (fun _ => Oks.neg (by omega) (Oks.now ⟨qz71, qz71, qz71⟩)) (fun _ => Oks.now ⟨qz71, qz71, qz71⟩)
 | succ d ih =>
  intro x3 x5 a s h0 h1 h2 h4 h5; refine Oks.step (fun k => by simp only [spec_l1Cur_legs.l1]; rfl) ?_; refine Oks.bind (pickK hc hl a s 2 h4 (by omega)) ?_; rintro ⟨v, a1, s1⟩ ⟨g1, g2, g3, g4⟩
  dsimp only at g1 g2 g3 g4 ⊢
  refine Oks.ite (fun _ => Oks.pos (by omega) (Oks.pos (by omega) ?_)) (fun _ => Oks.now ⟨qz71, qz71, qz71⟩); rw [w64 (x := x5 + 1) (by omega) (by omega)]; exact ih _ (x5 + 1) a1 s1 (by omega) (by omega) qz108 (by omega) (by omega)
theorem legs_l0 : ∀ (d : Nat) (x3 : List S49) (a s : Int), x3.length + d ≤ 8 → 0 ≤ a → a ≤ 40000000 + 30 * (8 - d : Int) → Oks (fun k => spec_l1Cur_legs.l0 k x3 (d : Int) code a s) (fun r => r.1.length ≤ 22 ∧ 0 ≤ r.2.1 ∧ r.2.1 ≤ 60001000) := by
 intro d
 induction d with
 | zero =>
  intro x3 a s h1 h4 h5; refine Oks.step (fun k => by simp only [spec_l1Cur_legs.l0]; rfl) ?_; refine Oks.neg (by omega) ?_; refine Oks.bind (oneK hc hl a s 32 h4 (by omega)) ?_; rintro ⟨o, a1, s1⟩ ⟨g3, g4⟩
  dsimp only at g3 g4 ⊢
  exact Oks.ite (fun _ => legs_l1 hc hl 14 x3 0 a1 s1 (by omega) (by omega) (by omega) (by omega) (by omega)) (fun _ => Oks.now ⟨qz71, qz71, qz71⟩)
 | succ d ih =>
  intro x3 a s h1 h4 h5; refine Oks.step (fun k => by simp only [spec_l1Cur_legs.l0]; rfl) ?_; refine Oks.pos (by omega) ?_; refine Oks.bind (legK hc hl a s h4 (by omega)) ?_; rintro ⟨b0, b1, b2, b3, b4, a1, s1⟩ ⟨g3, g4⟩
  dsimp only at g3 g4 ⊢
  rw [w64 (x := ((d + 1 : Nat) : Int) - 1) (by omega) (by omega), show ((d + 1 : Nat) : Int) - 1 = (d : Int) by omega]; exact Oks.pos (by omega) (ih _ a1 s1 qz108 (by omega) (by omega))
theorem legsG (a s : Int) (h0 : 0 ≤ a) (h1 : a ≤ 10000) : Oks (fun k => spec_l1Cur_legs.f k code a s) (fun r => r.1.length ≤ 22 ∧ 0 ≤ r.2.1 ∧ r.2.1 ≤ 60001000) := by
 unfold spec_l1Cur_legs.f; refine Oks.bind (pickK hc hl a s 8 h0 (by omega)) ?_; rintro ⟨v, a1, s1⟩ ⟨e1, e2, e3, e4⟩
 dsimp only at e1 e2 e3 e4 ⊢
 have e5 := e2 (by omega); rw [show v = ((v.toNat : Nat) : Int) by omega]; exact legs_l0 hc hl v.toNat [] a1 s1 qz108 (by omega) (by omega)
end Go.Proofs.YtcafgpincnkcdaaDoor.Draw
namespace Go.Proofs.YtcafgpincnkcdaaDoor.Draw
open Go Go.RowKit YtcafgpincnkcdaaDoorW.PrintWords Plain A Net
variable {code : List Int} (hc : Bytes code) (hl : code.length ≤ 65536)
include hc hl
theorem drawPlaced : Oks (fun k => spec_DrawPlacedStations.f k code) (fun r => r.length ≤ 22) := by
 unfold spec_DrawPlacedStations.f; refine Oks.bind (oneK hc hl 0 0 4 (by omega) (by omega)) ?_; rintro ⟨o, a1, s1⟩ ⟨e3, e4⟩
 dsimp only at e3 e4 ⊢
 refine Oks.ite (fun _ => ?_) (fun _ => ?_)
 · exact Oks.bind (legsG hc hl a1 s1 (by omega) (by omega)) fun r h => Oks.now h.1
 · exact Oks.bind (caveK hc hl a1 s1 (by omega) (by omega)) fun r h => Oks.now (by have := h.1; omega)
theorem drawError : Oks (fun k => spec_DrawErrorOf.f k code) (fun r => r.1.length ≤ 9) := by
 unfold spec_DrawErrorOf.f; refine Oks.bind (caveK hc hl 0 0 (by omega) (by omega)) ?_; rintro ⟨l, a1, s1⟩ ⟨h1, h2, h3⟩
 dsimp only at h1 h2 h3 ⊢
 refine Oks.bind (pickK hc hl a1 s1 _ h2 (by omega)) ?_; rintro ⟨v, a2, s2⟩ ⟨_, _, e3, e4⟩
 dsimp only at e3 e4 ⊢
 refine Oks.bind (pickK hc hl a2 s2 9 (by omega) (by omega)) ?_; rintro ⟨v2, a3, s3⟩ _; exact Oks.now h1
theorem drawIsBridge : Oks (fun k => spec_DrawIsBridge.f k code) (fun r => r.1.length ≤ 9) := Oks.bind (drawError hc hl) fun r h => Oks.now h
theorem drawThru : Oks (fun k => spec_DrawLoopsThrough.f k code) (fun r => r.1.length ≤ 9) := Oks.bind (drawError hc hl) fun r h => Oks.now h
theorem drawBridges : Oks (fun k => spec_DrawBridgesOf.f k code) (fun r => r.length ≤ 22) := Oks.bind (drawPlaced hc hl) fun r h => Oks.now h
theorem drawCount : Oks (fun k => spec_DrawCountLoops.f k code) (fun r => r.length ≤ 22) := Oks.bind (drawPlaced hc hl) fun r h => Oks.now h
end Go.Proofs.YtcafgpincnkcdaaDoor.Draw
namespace Go.Proofs.YtcafgpincnkcdaaDoor.Net
open Go.RowKit YtcafgpincnkcdaaDoorW.PrintWords Plain A
theorem vInts_ev (l : List Int) (hb : l.length ≤ 140737488351232) : Ev (fun k => laws_vInts.f k l l) true := by
 unfold laws_vInts.f; refine Ev.pos rfl ?_
 exact eq_all laws_vInts.l0 (fun k x0 x4 h0 => by
  simp only [laws_vInts.l0, if_true]; by_cases h : x4 < (x0.length : Int)
  · rw [if_pos h, if_pos h0, if_pos h, if_pos h]
  · rw [if_neg h, if_neg h]) l hb
end Go.Proofs.YtcafgpincnkcdaaDoor.Net
namespace Go.Proofs.YtcafgpincnkcdaaDoor.Side
open Tree Grow Conn Go.Proofs.YtcafgpincnkcdaaDoor.Way
variable (e : Int → Int × Int)
def side (i : Int) : Q → Int → Bool
 | [], _ => false
 | (j, u, s) :: q, v => if v = s then (if j = i then !(side i q u) else side i q u) else side i q v
theorem side_none {i : Int} : ∀ {q : Q} (v : Int), i ∉ legs q → side i q v = false
 | [], v, _ => rfl
 | (j, u, s) :: q, v, h => by
  simp only [legs, List.map_cons, List.mem_cons, not_or] at h; unfold side; have ih := fun v => side_none (q := q) v h.2
  rw [if_neg (fun c : j = i => h.1 c.symm), ih u, ih v]; split <;> rfl
theorem way_side {r i : Int} {q : Q} (t : Tr r q) : ∀ {a b : Int}, a ∈ verts r q → b ∈ verts r q → (i ∈ W q a b ↔ side i q a ≠ side i q b) := by
 induction t with
 | nil =>
  intro a b _ _; simp [W, side]
 | @cons q j u s t hu hs hj ih =>
  intro a b ha hb
  have down : ∀ {x}, x ∈ verts r ((j, u, s) :: q) → x ≠ s → x ∈ verts r q := by
   intro x hx hne; simp only [verts, List.map_cons, List.mem_cons] at hx ⊢; rcases hx with h | h | h
   · exact Or.inl h
   · exact absurd h hne
   · exact Or.inr h
  have hn : ∀ v, i = j → side i q v = false := fun v e => side_none v (e ▸ hj)
  unfold W side; by_cases c1 : a = s
  ·
   by_cases c2 : b = s
   ·
    rw [if_pos c1, if_pos c2, if_pos c1, if_pos c2]; simp
   ·
    rw [if_pos c1, if_neg c2, if_pos c1, if_neg c2, List.mem_cons, ih hu (down hb c2)]; by_cases cj : j = i
    ·
     rw [if_pos cj, hn u cj.symm, hn b cj.symm]; simp [cj]
    ·
     rw [if_neg cj]; exact ⟨fun h => h.resolve_left (fun q => cj q.symm), Or.inr⟩
  ·
   by_cases c2 : b = s
   ·
    rw [if_neg c1, if_pos c2, if_neg c1, if_pos c2, List.mem_append, List.mem_singleton, ih (down ha c1) hu]; by_cases cj : j = i
    ·
     rw [if_pos cj, hn u cj.symm, hn a cj.symm]; simp [cj]
    ·
     rw [if_neg cj]; exact ⟨fun h => h.resolve_right (fun q => cj q.symm), Or.inl⟩
   · rw [if_neg c1, if_neg c2, if_neg c1, if_neg c2, ih (down ha c1) (down hb c2)]
theorem side_joins {r i : Int} {q : Q} (t : Tr r q) {j a b : Int} (h : Joins q j a b) : side i q a ≠ side i q b ↔ j = i := by
 have hv := joins_verts t h; rw [← way_side t hv.1 hv.2.1]; have hw : Walk q a none [j] b := Walk.cons h (by simp) Walk.nil; rw [← uniq t hv.1 hw, List.mem_singleton]; exact ⟨fun q => q.symm, fun q => q.symm⟩
theorem side_conn {r i : Int} {q : Q} (t : Tr r q) : ∀ {a b : Int}, a ∈ verts r q → b ∈ verts r q → side i q a = side i q b → Conn (fun x y => ∃ j, j ≠ i ∧ Joins q j x y) a b := by
 induction t with
 | nil =>
  intro a b ha hb _; simp only [verts, List.map_nil, List.mem_singleton] at ha hb; rw [ha, hb]; exact .refl
 | @cons q j u s t hu hs hj ih =>
  intro a b ha hb h
  have down : ∀ {x}, x ∈ verts r ((j, u, s) :: q) → x ≠ s → x ∈ verts r q := by
   intro x hx hne; simp only [verts, List.map_cons, List.mem_cons] at hx ⊢; rcases hx with h | h | h
   · exact Or.inl h
   · exact absurd h hne
   · exact Or.inr h
  have up : ∀ {x y : Int}, Conn (fun x y => ∃ j, j ≠ i ∧ Joins q j x y) x y → Conn (fun x y => ∃ k, k ≠ i ∧ Joins ((j, u, s) :: q) k x y) x y := fun hc => hc.map (fun x y ⟨k, hk, hj⟩ => Conn.one ⟨k, hk, by
   unfold Joins at hj ⊢; rcases hj with h | h
   · exact Or.inl (List.mem_cons_of_mem _ h)
   · exact Or.inr (List.mem_cons_of_mem _ h)⟩)
  have hn : ∀ v, i = j → side i q v = false := fun v e => side_none v (e ▸ hj)
  unfold side at h; by_cases c1 : a = s
  ·
   by_cases c2 : b = s
   ·
    rw [c1, c2]; exact .refl
   ·
    rw [if_pos c1, if_neg c2] at h; by_cases cj : j = i
    ·
     rw [if_pos cj, hn u cj.symm, hn b cj.symm] at h; cases h
    ·
     rw [if_neg cj] at h; rw [c1]; exact (Conn.one ⟨j, cj, Or.inr List.mem_cons_self⟩).trans (up (ih hu (down hb c2) h))
  ·
   by_cases c2 : b = s
   ·
    rw [if_neg c1, if_pos c2] at h; by_cases cj : j = i
    ·
     rw [if_pos cj, hn u cj.symm, hn a cj.symm] at h; cases h
    ·
     rw [if_neg cj] at h; rw [c2]; exact (up (ih (down ha c1) hu h)).trans (Conn.one ⟨j, cj, Or.inl List.mem_cons_self⟩)
   ·
    rw [if_neg c1, if_neg c2] at h; exact up (ih (down ha c1) (down hb c2) h)
variable {e : Int → Int × Int}
theorem round_loop {n : Nat} {q : Q} (ok : Grow.Ok e n q) (hc : ∀ i : Int, 0 ≤ i → i < n → ((e i).1 ∈ verts 0 q ↔ (e i).2 ∈ verts 0 q)) {i : Int} (h0 : 0 ≤ i) (h1 : i < n) (hp : (e i).1 ∈ verts 0 q) :
  Conn (Bfs.RelU e (fun j => decide (j ≠ i)) n) (e i).1 (e i).2 ↔ ∃ c : Int, (0 ≤ c ∧ c < n ∧ (e c).1 ∈ verts 0 q ∧ c ∉ legs q) ∧ (i ∈ W q (e c).2 (e c).1 ∨ i = c) := by
 have hp2 := (hc i h0 h1).mp hp
 have tree : ∀ x y, (∃ j, j ≠ i ∧ Joins q j x y) → Conn (Bfs.RelU e (fun j => decide (j ≠ i)) n) x y := fun x y ⟨j, hj, hxy⟩ => by
  have hl := ok.legs_ends e (joins_verts ok.1 hxy).2.2; have he := ok.ends
  have : (e j = (x, y) ∨ e j = (y, x)) := by
   rcases hxy with h | h
   · exact (he _ h).1
   · exact (he _ h).1.symm
  exact Conn.one ⟨j, hl.2.2.2.1, hl.2.2.2.2, decide_eq_true hj, this⟩
 have same : ∀ {x y : Int}, x ∈ verts 0 q → y ∈ verts 0 q → side i q x = side i q y → Conn (Bfs.RelU e (fun j => decide (j ≠ i)) n) x y := fun hx hy h => (side_conn ok.1 hx hy h).map tree
 by_cases ht : i ∈ legs q
 ·
  have hj := (ok.legs_ends e ht).2.2.1; have hs : side i q (e i).1 ≠ side i q (e i).2 := (side_joins ok.1 hj).mpr rfl
  constructor
  ·
   intro h; by_cases hx : ∃ c : Int, (0 ≤ c ∧ c < n ∧ (e c).1 ∈ verts 0 q ∧ c ∉ legs q) ∧ (i ∈ W q (e c).2 (e c).1 ∨ i = c)
   · exact hx
   ·
    exfalso
    have inv : (e i).2 ∈ verts 0 q ∧ side i q (e i).2 = side i q (e i).1 := by
     refine Conn.closed (S := fun v => v ∈ verts 0 q ∧ side i q v = side i q (e i).1) ?_ ⟨hp, rfl⟩ h; rintro a b ⟨ha, hsa⟩ ⟨j, j0, j1, hu, hj⟩; have hji : j ≠ i := of_decide_eq_true hu
     have hab : (e j).1 ∈ verts 0 q ∧ (e j).2 ∈ verts 0 q := by
      rcases hj with h | h
      ·
       have h1 : (e j).1 ∈ verts 0 q := by rw [h]; exact ha
       exact ⟨h1, (hc j j0 j1).mp h1⟩
      ·
       have h1 : (e j).2 ∈ verts 0 q := by rw [h]; exact ha
       exact ⟨(hc j j0 j1).mpr h1, h1⟩
     have hside : side i q (e j).1 = side i q (e j).2 := by
      by_cases hjt : j ∈ legs q
      ·
       have := side_joins (i := i) ok.1 (ok.legs_ends e hjt).2.2.1; by_cases hh : side i q (e j).1 = side i q (e j).2
       · exact hh
       · exact absurd (this.mp hh) hji
      ·
       by_cases hh : side i q (e j).2 = side i q (e j).1
       · exact hh.symm
       · exact absurd ⟨j, ⟨j0, j1, hab.1, hjt⟩, Or.inl ((way_side ok.1 hab.2 hab.1).mpr hh)⟩ hx
     rcases hj with h | h
     ·
      rw [h] at hab hside; exact ⟨hab.2, hside.symm.trans hsa⟩
     ·
      rw [h] at hab hside; exact ⟨hab.1, hside.trans hsa⟩
    exact hs inv.2.symm
  ·
   rintro ⟨c, ⟨c0, c1, cp, cl⟩, hw⟩; have hci : c ≠ i := fun h => cl (h ▸ ht)
   have hw' := hw.resolve_right (fun h => hci h.symm); have cp2 := (hc c c0 c1).mp cp; have hd := (way_side ok.1 cp2 cp).mp hw'; have step : Conn (Bfs.RelU e (fun j => decide (j ≠ i)) n) (e c).1 (e c).2 := Conn.one ⟨c, c0, c1, decide_eq_true hci, Or.inl rfl⟩; have sy := fun a b => relU_symm (e := e) (use := fun j => decide (j ≠ i)) (n := n) a b
   by_cases h1 : side i q (e i).1 = side i q (e c).1
   ·
    have h2 : side i q (e c).2 = side i q (e i).2 := by
     revert hd hs h1; cases side i q (e i).1 <;> cases side i q (e i).2 <;> cases side i q (e c).1 <;> cases side i q (e c).2 <;> simp
    exact (same hp cp h1).trans (step.trans (same cp2 hp2 h2))
   ·
    have h2 : side i q (e i).1 = side i q (e c).2 := by
     revert hd hs h1; cases side i q (e i).1 <;> cases side i q (e i).2 <;> cases side i q (e c).1 <;> cases side i q (e c).2 <;> simp
    have h3 : side i q (e c).1 = side i q (e i).2 := by
     revert hd hs h1; cases side i q (e i).1 <;> cases side i q (e i).2 <;> cases side i q (e c).1 <;> cases side i q (e c).2 <;> simp
    exact (same hp cp2 h2).trans ((step.symm sy).trans (same cp hp2 h3))
 ·
  constructor
  ·
   intro _; exact ⟨i, ⟨h0, h1, hp, ht⟩, Or.inr rfl⟩
  ·
   intro _; exact same hp hp2 (by rw [side_none _ ht, side_none _ ht])
end Go.Proofs.YtcafgpincnkcdaaDoor.Side
namespace Go.Proofs.YtcafgpincnkcdaaDoor.Net
open Go.RowKit YtcafgpincnkcdaaDoorW.PrintWords Plain
open Tree (verts legs W)
theorem closeL_iff {ls : L} (hg : ∀ x ∈ ls, Good x) (i : Int) : i ∈ closeL ls ↔ 0 ≤ i ∧ i < (ls.length : Int) ∧ (ends ls i).1 ∈ verts 0 (RR ls) ∧ i ∉ legs (RR ls) := by
 constructor
 ·
  intro h; have := mem_closeL hg h; exact ⟨this.1, this.2.1, this.2.2.1, this.2.2.2.2⟩
 ·
  rintro ⟨h0, h1, h2, h3⟩; obtain ⟨k, rfl⟩ := Int.eq_ofNat_of_zero_le h0; refine (mem_closeTo ls (RR ls) ls.length _).mpr ⟨k, rfl, Int.ofNat_lt.mp h1, ?_, ?_⟩
  ·
   have hx := leg_good hg k (Int.ofNat_lt.mp h1); rw [Pq_eq, Int.toNat_of_nonneg hx.1.1]; exact decide_eq_true ((mem_plL _ _).mpr h2)
  ·
   rw [Bq_eq]; exact decide_eq_false (fun h => h3 ((mem_trL _ _).mp h))
end Go.Proofs.YtcafgpincnkcdaaDoor.Net
namespace Go.Proofs.YtcafgpincnkcdaaDoor.Net
open Go.RowKit YtcafgpincnkcdaaDoorW.PrintWords Plain A
open Tree (verts legs W)
theorem implClosing_ev (l : L) (hb : l.length ≤ 140737488351232) : Ev (fun _ => impl_ClosingLegs.f l) (if legsB l = true then (closeL l, true) else ([], false)) := Ev.some fun _ => by unfold impl_ClosingLegs.f; rw [if_pos hb]
theorem bridge_thru {ls : L} (hg : ∀ x ∈ ls, Good x) (i : Int) (h0 : 0 ≤ i) (h1 : i < (ls.length : Int)) (hp : (leg ls i).f0 ∈ plL (RR ls)) : bridgeB ls i = (((thruL ls i (closeL ls)).length : Int) == 0) := by
 have ok := RR_ok hg; have hr := ends_range hg i h0 h1; have hf := Bfs.found_iff (ends ls) (useB i) (ends ls i).1 ⟨hr.1, hr.2.1⟩ (Good.range hg) (ends ls i).2; have hl := Side.round_loop ok.1 ok.2 h0 h1 ((mem_plL _ _).mp hp)
 have hc : (∃ c : Int, (0 ≤ c ∧ c < ls.length ∧ (ends ls c).1 ∈ verts 0 (RR ls) ∧ c ∉ legs (RR ls)) ∧ (i ∈ W (RR ls) (ends ls c).2 (ends ls c).1 ∨ i = c)) ↔ thruL ls i (closeL ls) ≠ [] := by
  unfold thruL
  constructor
  ·
   rintro ⟨c, h, hw⟩; refine List.ne_nil_of_mem (a := c) (List.mem_filter.mpr ⟨(closeL_iff hg c).mpr h, decide_eq_true ?_⟩); unfold loopL; rw [List.mem_append, List.mem_singleton]; exact hw
  ·
   intro h; obtain ⟨c, h⟩ := List.exists_mem_of_ne_nil _ h; rw [List.mem_filter] at h; have h2 := of_decide_eq_true h.2; unfold loopL at h2; rw [List.mem_append, List.mem_singleton] at h2; exact ⟨c, (closeL_iff hg c).mp h.1, h2⟩
 unfold bridgeB; by_cases h : (ends ls i).2 ∈ verts (ends ls i).1 (Bfs.run (ends ls) (useB i) (ends ls i).1 ls.length 9 0 [])
 ·
  have := hc.mp (hl.mp (hf.mp h)); rw [decide_eq_true h]; have hn : 0 < (thruL ls i (closeL ls)).length := List.length_pos_iff.mpr this; symm; simp only [Bool.not_true, beq_eq_false_iff_ne, ne_eq]; omega
 ·
  have : thruL ls i (closeL ls) = [] := by
   by_cases hq : thruL ls i (closeL ls) = []
   · exact hq
   · exact absurd (hf.mpr (hl.mpr (hc.mpr hq))) h
  rw [decide_eq_false h, this]; rfl
end Go.Proofs.YtcafgpincnkcdaaDoor.Net
namespace Go.Proofs.YtcafgpincnkcdaaDoor.Net
open Go.RowKit YtcafgpincnkcdaaDoorW.PrintWords Plain A Draw
open Tree (verts legs W)
theorem implIsBridge_ev (l : L) (hb : l.length ≤ 140737488351232) (i : Int) : Ev (fun _ => impl_IsBridge.f l i) (isBridgeM l i) := Ev.some fun _ => by unfold impl_IsBridge.f; rw [if_pos hb]
theorem implThru_ev (l : L) (hb : l.length ≤ 140737488351232) (i : Int) : Ev (fun _ => impl_LoopsThrough.f l i) (if legsB l = true ∧ 0 ≤ i ∧ i < (l.length : Int) then (thruL l i (closeL l), true) else ([], false)) := Ev.some fun _ => by unfold impl_LoopsThrough.f; rw [if_pos hb]
theorem implBridges_ev (l : L) (hb : l.length ≤ 140737488351232) : Ev (fun _ => impl_BridgesOf.f l) (if legsB l = true then (bridgesL l, true) else ([], false)) := Ev.some fun _ => by unfold impl_BridgesOf.f; rw [if_pos hb]
theorem implCount_ev (l : L) (hb : l.length ≤ 140737488351232) : Ev (fun _ => impl_CountLoops.f l) (countM l) := Ev.some fun _ => by unfold impl_CountLoops.f; rw [if_pos hb]
theorem mem_bridgesL {ls : L} (hg : ∀ x ∈ ls, Good x) {i : Int} (h : i ∈ bridgesL ls) : (0 ≤ i ∧ i < (ls.length : Int)) ∧ (leg ls i).f0 ∈ plL (RR ls) ∧ bridgeB ls i = true := by
 unfold bridgesL brL plcL at h; rw [List.mem_filter, mem_selTo] at h; obtain ⟨⟨k, rfl, hk, hq⟩, hb⟩ := h; have hx := leg_good hg k hk; rw [Pq_eq, Int.toNat_of_nonneg hx.1.1] at hq; exact ⟨⟨by omega, by omega⟩, of_decide_eq_true hq, hb⟩
theorem bridgesL_len (ls : L) : (bridgesL ls).length ≤ ls.length := Nat.le_trans (List.length_filter_le _ _) (selTo_len _ _)
theorem thruL_len (ls : L) (i : Int) (l : List Int) : (thruL ls i l).length ≤ l.length := List.length_filter_le _ _
theorem j4_law (code : List Int) (hc : Bytes code) (hl : code.length ≤ 65536) : Ev (fun k => laws_FnBridges.j4 k code false) true := by
 obtain ⟨l, hD, hn⟩ := drawCount hc hl; refine Ev.step (fun k => by simp only [laws_FnBridges.j4, Bool.false_eq_true, if_false]; rfl) ?_; refine Ev.bind hD (Ev.bind (implCount_ev l (by omega)) (Ev.bind (count_ev l (by omega)) (Ev.pos rfl ?_))); rw [bne_self_eq_false]; have i1 := implClosing_ev l (by omega); unfold countM; by_cases h : legsB l = true
 ·
  rw [if_pos h] at i1 ⊢; refine Ev.step (fun k => by simp only [laws_FnBridges.j5, Bool.false_eq_true, if_false, if_true]; rfl) ?_; refine Ev.bind i1 (Ev.pos rfl ?_); simp only [beq_self_eq_true]; exact Ev.now _
 ·
  rw [if_neg h]; exact Ev.step (f := fun _ => some true) (fun k => by simp only [laws_FnBridges.j5, Bool.false_eq_true, if_false]) (Ev.now _)
theorem l0_end (code : List Int) (hc : Bytes code) (hl : code.length ≤ 65536) (l : L) (b : List Int) (i : Int) (hi : ¬ i < (b.length : Int)) : Ev (fun k => laws_FnBridges.l0 k code l b i) true := by
 obtain ⟨⟨m, j⟩, hD, hn⟩ := drawThru hc hl; have hn : m.length ≤ 9 := hn
 have hlen : (if legsB m = true ∧ 0 ≤ j ∧ j < (m.length : Int) then (thruL m j (closeL m), true) else ([], false)).1.length ≤ 140737488351232 := by
  split
  ·
   have := thruL_len m j (closeL m); have := closeL_len m; simp only; omega
  · simp
 refine Ev.step (fun k => by simp only [laws_FnBridges.l0]; rw [if_neg hi]) ?_; refine Ev.bind hD (Ev.bind (implThru_ev m (by omega) j) (Ev.bind (specThru_ev m j (by omega)) (Ev.neg (by simp) (Ev.bind (vInts_ev _ hlen) ?_)))); exact j4_law code hc hl
theorem l0_law (code : List Int) (hc : Bytes code) (hl : code.length ≤ 65536) (l : L) (hn : l.length ≤ 22) (hv : legsB l = true) (b : List Int) (hb : ∀ i ∈ b, isBridgeM l i = (true, true)) (hbl : b.length ≤ 100) : ∀ (d i : Nat), i + d = b.length → Ev (fun k => laws_FnBridges.l0 k code l b (i : Int)) true := by
 intro d
 induction d with
 | zero =>
  intro i hi; exact l0_end code hc hl l b i (by omega)
 | succ d ih =>
  intro i hi; have hlt : i < b.length := by omega
  have er := rd_at b i hlt; have ew : wrap64 ((i : Int) + 1) = ((i + 1 : Nat) : Int) := by rw [w64 (by omega) (by omega)]; omega
  have i1 := implIsBridge_ev l (by omega) b[i]; rw [hb _ (List.getElem_mem hlt)] at i1; refine Ev.step (f := fun k => (impl_IsBridge.f l b[i]).bind fun t => if t.2 = true then (if t.1 = true then laws_FnBridges.l0 k code l b ((i + 1 : Nat) : Int) else some false) else some false) (fun k => ?_) (Ev.bind i1 (Ev.pos rfl (Ev.pos rfl (ih (i + 1) (by omega))))); simp only [laws_FnBridges.l0]; rw [if_pos (by omega), if_pos (by omega), er, ew]
theorem j1_law (code : List Int) (hc : Bytes code) (hl : code.length ≤ 65536) : Ev (fun k => laws_FnBridges.j1 k code) true := by
 obtain ⟨l, hD, hn⟩ := drawBridges hc hl; have hbl := bridgesL_len l; refine Ev.step (fun k => by simp only [laws_FnBridges.j1]; rfl) ?_; refine Ev.bind hD (Ev.bind (implBridges_ev l (by omega)) (Ev.bind (specBridges_ev l (by omega)) (Ev.neg (by simp) (Ev.bind (vInts_ev _ (by split <;> simp <;> omega)) ?_)))); refine Ev.step (fun k => by simp only [laws_FnBridges.j2, Bool.not_true, Bool.false_eq_true, if_false]; rfl) ?_; by_cases h : legsB l = true
 ·
  rw [if_pos h]; refine l0_law code hc hl l hn h (bridgesL l) (fun i hi => ?_) (by omega) _ 0 (Nat.zero_add _); have hv := legsB_iff.mp h; have := mem_bridgesL hv.1 hi; unfold isBridgeM; rw [if_pos ⟨h, this.1, this.2.1⟩, this.2.2]
 ·
  rw [if_neg h]; exact l0_end code hc hl l [] 0 (by simp)
end Go.Proofs.YtcafgpincnkcdaaDoor.Net
namespace Go.Proofs.YtcafgpincnkcdaaDoor.Pure
open Go.RowKit YtcafgpincnkcdaaDoorW.PrintWords Plain A Net Draw
theorem FnBridges (code : List Int) (hb : code.length * 1 ≤ 140737488351232) (hw : ∀ x ∈ code, (Lit.int .u8 x).wf = true) : ∃ k, laws_FnBridges.f k code = some true := by
 refine Ev.rounds ?_; have hc := Bytes.of_wf hw; refine Ev.bindc (show laws_vBig.f code = some (decide ((code.length : Int) > 65536)) from rfl) ?_; by_cases c : (code.length : Int) > 65536
 · exact Ev.pos (decide_eq_true c) (Ev.now _)
 have hl : code.length ≤ 65536 := by omega
 refine Ev.neg (by rw [decide_eq_false c]; decide) ?_; obtain ⟨⟨l, i⟩, hD, hn⟩ := drawIsBridge hc hl; have hn : l.length ≤ 9 := hn; refine Ev.bind hD (Ev.bind (implIsBridge_ev l (by omega) i) (Ev.bind (specIsBridge_ev l i (by omega)) (Ev.neg (by simp) ?_))); simp only [bne_self_eq_false]; have h1 := j1_law code hc hl; unfold isBridgeM; by_cases h : legsB l = true ∧ (0 ≤ i ∧ i < (l.length : Int)) ∧ (leg l i).f0 ∈ plL (RR l)
 ·
  rw [if_pos h]; have hv := legsB_iff.mp h.1; have i1 := implThru_ev l (by omega) i; rw [if_pos ⟨h.1, h.2.1.1, h.2.1.2⟩] at i1; refine Ev.step (fun k => by simp only [laws_FnBridges.j0, Bool.false_eq_true, if_false, if_true]; rfl) ?_; refine Ev.bind i1 (Ev.pos rfl (Ev.neg ?_ h1)); rw [bridge_thru hv.1 i h.2.1.1 h.2.1.2 h.2.2, bne_self_eq_false]; decide
 ·
  rw [if_neg h]; exact Ev.step (f := fun k => laws_FnBridges.j1 k code) (fun k => by simp only [laws_FnBridges.j0, Bool.false_eq_true, if_false]) h1
end Go.Proofs.YtcafgpincnkcdaaDoor.Pure
namespace Go.Proofs.YtcafgpincnkcdaaDoor.Opens
open Go.ChangeShapes Go.WideShapes Go.Deep Go.RowKit YtcafgpincnkcdaaDoorW.PrintWords
theorem list_of {α : Type} {P : Nat → α → Prop} : ∀ (n : Nat), (∀ i, i < n → ∃ x, P i x) → ∃ xs : List α, xs.length = n ∧ ∀ i x, xs[i]? = some x → P i x
 | 0, _ => ⟨[], rfl, fun i x h => by simp at h⟩
 | n + 1, h => by
  obtain ⟨xs, hl, hx⟩ := list_of n (fun i hi => h i (Nat.lt_succ_of_lt hi)); obtain ⟨y, hy⟩ := h n (Nat.lt_succ_self n); refine ⟨xs ++ [y], by simp [hl], fun i x hi => ?_⟩; by_cases hlt : i < xs.length
  ·
   rw [List.getElem?_append_left hlt] at hi; exact hx i x hi
  ·
   rw [List.getElem?_append_right (by omega)] at hi
   have h0 : i - xs.length = 0 := by
    have := (List.getElem?_eq_some_iff.1 hi).1; simp at this; omega
   rw [h0] at hi; simp at hi; subst hi; have : i = n := by omega
   subst this; exact hy
section
variable {H : Type} {enc : TypeId × Value → H} {P : Program} {w : World} {base : Nat} {spare : Nat → Bool} {held : Bool}
theorem open_row {α : Type} (d : Kd α) {Q : α → Prop} {t e : TypeId} {a : Option Addr} {len cap : Nat} {dd : DataW H} {ps : List MemPlace} (ht : P.underlying t = some (.slice e)) (hC : P.cellsOf e = d.sz)
  (hd : ∀ n cs y, DataW.trod enc P w base spare held n e cs = some y → ∃ x, d.K w x cs ∧ Q x)
  (h : DataW.Trod enc P w base spare held t (.slice a len cap) dd ps) : ∃ xs : List α, xs.length = len ∧ len ≤ cap ∧ d.C w a len xs ∧ ∀ x ∈ xs, Q x := by
 obtain ⟨fuel, hf⟩ := h; rcases open_slice ht hf with ⟨hcs, _⟩ | ⟨x, l, c, m, n, D, Pl, hcs, _, hl, hm, hmm, _, hi⟩
 ·
  simp [Value.cells] at hcs; obtain ⟨rfl, rfl, rfl⟩ := hcs; exact ⟨[], rfl, Nat.le_refl _, ⟨rfl, by omega, fun h => by omega⟩, fun x hx => by simp at hx⟩
 ·
  simp [Value.cells] at hcs; obtain ⟨rfl, rfl, rfl⟩ := hcs; have hle : len ≤ m := by subst hmm; split <;> omega
  obtain ⟨xs, hxl, hx⟩ := list_of (P := fun i (z : α) => Q z ∧ ∃ cs, d.K w z cs ∧ w.cells? base (x.add (i * d.sz)) d.sz = some cs) len (fun i hil => by
   obtain ⟨cs, h1, h2⟩ := hi i (by omega); rw [hC] at h1; obtain ⟨z, h3, h4⟩ := hd _ _ _ h2
   exact ⟨z, h4, cs, h3, h1⟩)
  refine ⟨xs, hxl, hl, ⟨hxl, (by unfold maxLen at hm; omega), fun _ => ⟨x, rfl, fun j p hp => ?_⟩⟩, fun z hz => ?_⟩
  ·
   obtain ⟨_, cs, h1, h2⟩ := hx j p hp; obtain ⟨_, hlen, hat⟩ := World.cells?_some h2; refine ⟨cs, hlen, h1, fun i u hu => ?_⟩; have hil : i < d.sz := by have := (List.getElem?_eq_some_iff.1 hu).1; omega
   rw [← Go.Deep.add_add, hat i hil, hu]
  ·
   obtain ⟨j, hj⟩ := List.getElem?_of_mem hz; exact (hx j z hj).1
theorem sized_row {t e : TypeId} {a : Option Addr} {len cap : Nat} {d : DataW H} {ps : List MemPlace} {ts : List TypeId} {ds : List (DataW H)} {j : Nat}
  (hsz : (DataW.weightsEach P ts ds).all (· ≤ reachBytes) = true) (ht : ts[j]? = some t) (hd : ds[j]? = some d) (hu : P.underlying t = some (.slice e)) {B : Nat} (hB : P.bytesOf e = B)
  (h : DataW.Trod enc P w base spare held t (.slice a len cap) d ps) : len * B ≤ 140737488351232 := by
 obtain ⟨fuel, hf⟩ := h; rcases open_slice hu hf with ⟨hcs, _⟩ | ⟨x, l, c, m, n, D, Pl, hcs, _, hl, hm, hmm, hx, hi⟩
 ·
  simp [Value.cells] at hcs; obtain ⟨rfl, rfl, rfl⟩ := hcs; simp
 ·
  simp [Value.cells] at hcs; obtain ⟨rfl, rfl, rfl⟩ := hcs; obtain ⟨hx, _⟩ := Prod.mk.inj hx; subst hx; have z := sized_slice hsz ht hd hu; rw [hB] at z; simp only [List.length_map, List.length_range] at z; have hle : len ≤ m := by subst hmm; split <;> omega
  rw [show len + (m - len) = m by omega] at z; exact Nat.le_trans (Nat.mul_le_mul_right _ hle) z
end
end Go.Proofs.YtcafgpincnkcdaaDoor.Opens
namespace Go.Proofs.YtcafgpincnkcdaaDoor.fnBridges
open Go.ChangeShapes Go.WideShapes Go.ChangeAt Go.RowKit
open Go.ChangeMaps (open_string shut_string)
open A YtcafgpincnkcdaaDoorW.PrintWords Opens
theorem own : ownKnob Tryd.prog.godebug = none := by kernel_rfl
theorem laidOut : laidOutB Tryd.prog = true := by kernel_rfl
set_option maxRecDepth 100000 in
theorem lifted (os : Os) (started : os.Started) (H : Type) (enc : TypeId × Value → H) :
  ReturnsInHanded {} Tryd.checked os 5 .any (fun w args => (Rows.fnBridgesSpec.pre enc Tryd.prog Tryd.f5 [] false w args ∧ laidMetH Tryd.prog LaidT.list w) ∧ sizedMet enc Tryd.prog Tryd.f5 (OpenSpec.ofChange Rows.fnBridgesSpec) false w args) (Rows.fnBridgesSpec.post enc Tryd.prog Tryd.f5 false true false false) := by
 refine returnsInHanded_of_change_and (C := Tryd.checked) (X := fun w _ => laidMetH Tryd.prog LaidT.list w) (fun _ _ _ hh h => h.of_heap hh) own started qz56 Tryd.func5
  (ChangeSpec.witness_shaped (enc := enc) (C := Tryd.checked) (os := os) (X := fun w _ => laidMetH Tryd.prog LaidT.list w) false (World.doorLaid Tryd.prog 400 os) #[.slice none 0 0] 8 rfl (World.shaped_of_RefB qz56 qz56) qz56 qz56 qz56 (LaidT.door_met os _)) ?_
 intro W base args ds gs before hval0 hW hcnd hsz0 hL _; have hsz : (DataW.weightsEach Tryd.prog (Tryd.f5.params.toList ++ Rows.fnBridgesSpec.plain.varTypes Tryd.prog) (ds ++ gs)).all (· ≤ reachBytes) = true := hsz0; have hval : ∀ (j : Nat) t v, Tryd.f5.params[j]? = some t → args[j]? = some v → Value.okWide Tryd.prog W .any base t v := hval0
 have hW' := hW; obtain ⟨p, q, hA0, hV, rfl, hfz, hnd⟩ := hW; have hA : DataW.TrodAll enc Tryd.prog W 0 (fun _ => true) true Tryd.f5.params.toList args.toList ds p := hA0; rw [Tryd.params5] at hA hval hsz; obtain ⟨v0, vs0, d0, ds0, p0, q0, hargs, rfl, rfl, h0, r0⟩ := trodAll_cons hA; obtain ⟨rfl, rfl, rfl⟩ := trodAll_nil r0; obtain rfl : args = #[v0] := by cases args; simp_all
 have hV2 := hV; obtain ⟨_, _, _, _, gd, _, rfl, _, _, _, _, _⟩ := trodVars_one hV; have k0 := h0; have lt0 : ∀ x ∈ p0, x.block < W.heap.size := by obtain ⟨m, hm⟩ := k0; exact DataW.trod_lt m _ _ _ hm
 obtain ⟨a0, len0, cap0, rfl⟩ := okWide_slice Tryd.underlying22 (hval 0 22 v0 rfl rfl); obtain ⟨l0, hl0, hc0, hr0, hw0⟩ := Opens.open_row (Kd.int .u8) (Q := fun x => (Lit.int .u8 x).wf = true) (e := 5) Tryd.underlying22 qz56 (fun _ _ _ h => by obtain ⟨x, rfl, _, hw⟩ := DataW.trod_int Tryd.underlying5 h; exact ⟨x, rfl, hw⟩) h0; have y0 : len0 * 1 ≤ 140737488351232 := Opens.sized_row hsz (j := 0) (t := 22) rfl rfl Tryd.underlying22 qz56 h0; subst hl0; clear hA0 hval0 hsz0 hsz; obtain ⟨k, hk⟩ := Pure.FnBridges l0 y0 hw0; refine (laws_FnBridges.calls k _ _ l0 true W hr0 hc0 hk (LaidT.of_laid hL)).mono fun e W' ⟨he, hb⟩ => ?_
 have bel : Below W.heap.size W W' := hb; subst he; exact ⟨_, rfl, _, _, _, [], _, _, hW', trodAll_mk1 (shut_bool Tryd.underlying4 _), (trodAll_cons_mk (Below.trod laidOut qz56 (of_decide_eq_true qz56) k0 bel lt0) trodAll_mk0), Below.trodVars laidOut bel qz56 hV2, bel.frame _, fun h => by cases h⟩
theorem over : Rows.fnBridgesRow.holds Tryd.pinned (OpenSpec.ofChange Rows.fnBridgesSpec) :=
 OpenClaim.holds_of_wide 5 Tryd.f5 rfl rfl rfl rfl rfl rfl rfl ⟨rfl, rfl, rfl, rfl, rfl⟩ rfl rfl rfl rfl rfl qz56 Tryd.func5 qz56
  (of_decide_eq_true qz56) (by unfold Func.isWrapper; first | (rw [if_pos (by decide +kernel)]; kernel_rfl) | (rw [if_neg (by decide +kernel)]; exact ⟨rfl, rfl⟩))
  (fun os started H enc _ => lifted os started H enc)
theorem proved : Rows.FnBridgesSaid := over
theorem card_holds : Rows.FnBridgesCardSaid :=
 Claim7.holds_tied_plain_at .later [] [.data] true (true, "7decbdd7b4d761a81d44944185676c0b4027964f33349372c29193d97e889cd6") false
  over (fun _ h => by cases h) qz56 (fun _ h => by cases h) fnBridges_row_tie rfl ⟨rfl, rfl⟩ qz56 rfl
  (fun f fn hf hfn => by
   obtain rfl : f = 5 := Option.some.inj ((show Tryd.prog.funcNamed "loop.example/g00933/laws.FnBridges" = some 5 by kernel_rfl).symm.trans hf) |>.symm
   obtain rfl : fn = Tryd.f5 := (Option.some.inj (Tryd.func5.symm.trans hfn)).symm
   exact ⟨by kernel_rfl, fun j t ht => by
    rw [Tryd.params5] at ht; have hm : t ∈ [22] := by simpa using Array.mem_of_getElem? ht
    have hall : ([22].all fun u => !Tryd.prog.wantsStandIn u) = true := by kernel_rfl
    exact (show Tryd.prog.wantsStandIn t = false by simpa using List.all_eq_true.1 hall t hm)⟩)
  qz56
#print axioms card_holds
end Go.Proofs.YtcafgpincnkcdaaDoor.fnBridges
namespace Go.Proofs.YtcafgpincnkcdaaDoor
theorem fnBridges_holds : Rows.FnBridgesCardSaid := fnBridges.card_holds
end Go.Proofs.YtcafgpincnkcdaaDoor
