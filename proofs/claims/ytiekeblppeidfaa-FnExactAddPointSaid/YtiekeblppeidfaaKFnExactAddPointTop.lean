/- The row of the law FnExactAddPoint: whatever the input, it returns true; its arguments read as they did. No conditions. -/
import Derived.Deep.Slices
import Derived.Deep.Fields
import Derived.ChangeSame
import Derived.SizedLaws
import Derived.Test.YtiekeblppeidfaaKFnExactAddPointVMore
import Derived.Test.YtiekeblppeidfaaRows
import Derived.WalkKit
import Derived.ProofKit
import Derived.OpenShut
import Derived.ShutString
import Derived.ChangeOld
import Derived.Below
import Derived.Test.YtiekeblppeidfaaKFnExactAddPoint0
import Derived.Test.YtiekeblppeidfaaKFnExactAddPoint1
import Derived.Test.YtiekeblppeidfaaKFnExactAddPoint2
import Derived.Test.YtiekeblppeidfaaKFnExactAddPoint3
import Derived.Test.YtiekeblppeidfaaKFnExactAddPointU1
import Derived.Test.YtiekeblppeidfaaKFnExactAddPointU2
import Derived.Test.YtiekeblppeidfaaKFnExactAddPointU3
/- Points: the list that a law makes of its argument, and that it compares with itself. -/
namespace Go.Proofs.Ytiekeblppeidfaa.Dec
open Go.RowKit Go.Proofs.YtiekeblppeidfaaW.PrintWords Go.Proofs.Ytiekeblppeidfaa.Plain Go.Proofs.Ytiekeblppeidfaa.A
set_option linter.unusedVariables false
set_option linter.unusedSimpArgs false
theorem to_ev (l : List LP) (hb : l.length ≤ 140737488351232 / 16) : Ev (fun k => laws_toDecPointS.f k l) (l.map cv) := by
  unfold laws_toDecPointS.f
  refine Ev.pos (by omega) ?_
  refine Ev.pos (by omega) ?_
  exact copy_all laws_toDecPointS.l0 cv z33 _ (fun k x0 x3 x4 => by simp only [laws_toDecPointS.l0, laws_toDecPoint.f, Option.bind_some]; rfl) l (by omega)
theorem same_ev (l : List DP) (hb : l.length ≤ 140737488351232) : Ev (fun k => laws_eqDecPointS.f k l l) true := by
  unfold laws_eqDecPointS.f
  refine Ev.pos rfl ?_
  exact eq_all laws_eqDecPointS.l0 (fun k x0 x4 h0 => by
    simp only [laws_eqDecPointS.l0, laws_eqDecPoint.f, if_true, Option.bind_some]
    by_cases h : x4 < (x0.length : Int)
    · rw [if_pos h, if_pos h0, if_pos h, if_pos h]
    · rw [if_neg h, if_neg h]) l hb
theorem sz_ev (l : List LP) (hb : l.length ≤ 140737488351232) : laws_szDecPointS.f l 1048576 = some (if 1048576 - (l.length : Int) < 0 then -1 else 1048576 - (l.length : Int)) := by
  unfold laws_szDecPointS.f
  rw [w64 (by omega) (by omega)]
  split <;> rfl
end Go.Proofs.Ytiekeblppeidfaa.Dec

/- Points that a law marks: the number it ends with. No conditions. -/
namespace Go.Proofs.Ytiekeblppeidfaa.Dec
open Go.RowKit Go.Proofs.YtiekeblppeidfaaW.PrintWords Go.Proofs.Ytiekeblppeidfaa.Plain Go.Proofs.Ytiekeblppeidfaa.A
set_option linter.unusedVariables false
set_option linter.unusedSimpArgs false
end Go.Proofs.Ytiekeblppeidfaa.Dec

/- Points that a law marks and looks through again. No conditions. -/
namespace Go.Proofs.Ytiekeblppeidfaa.Dec
open Go.RowKit Go.Proofs.YtiekeblppeidfaaW.PrintWords Go.Proofs.Ytiekeblppeidfaa.Plain Go.Proofs.Ytiekeblppeidfaa.A
set_option linter.unusedVariables false
set_option linter.unusedSimpArgs false
def mkP (a : Int) : DP := ⟨a, a + 1⟩
theorem rd_set (x : List DP) (i : Nat) (v : DP) (h : i < x.length) : rd_T39 (x.set i v) (i : Int) = v := by
  show (x.set i v).getD i z = v
  simp [List.getD, h]
theorem markM_ev (l : List DP) (a : Int) (hb : l.length ≤ 140737488351232) (h0 : 0 ≤ a) (h1 : a ≤ 1000000000000) : Ev (fun k => laws_markDecPointS.f k l a) (a + 2 * l.length, marks mkP 2 a l.length) := by
  unfold laws_markDecPointS.f
  refine mark_all laws_markDecPointS.l0 mkP 2 (by omega) (by omega) (fun k x a i hi hx ha hb => ?_) (fun k x a => by simp only [laws_markDecPointS.l0]; rw [if_neg (by omega)]) l a hb h0 h1
  simp only [laws_markDecPointS.l0, Option.bind_some, Int.toNat_natCast]
  rw [if_pos (by omega), if_pos (by omega), w64 (x := a + 1) (by omega) (by omega), w64 (x := a + 1 + 1) (by omega) (by omega), w64 (x := (i : Int) + 1) (by omega) (by omega)]
  simp only [rd_set, List.set_set, List.length_set, hi]
  congr 1
  omega
theorem held_ev (n : Nat) (a : Int) (hb : n ≤ 140737488351232) (h0 : 0 ≤ a) (h1 : a ≤ 1000000000000) : Ev (fun k => laws_heldDecPointS.f k (marks mkP 2 a n) a) (a + 2 * n) := by
  unfold laws_heldDecPointS.f
  refine held_all laws_heldDecPointS.l0 mkP z 2 (by omega) (by omega) (fun k x a i hi hx ha hb he => ?_) (fun k x a => by simp only [laws_heldDecPointS.l0]; rw [if_neg (by omega)]) n a hb h0 h1
  have e : rd_T39 x (i : Int) = mkP a := he
  simp only [laws_heldDecPointS.l0]
  rw [if_pos (by omega), if_pos (by omega), w64 (x := a + 1) (by omega) (by omega), w64 (x := a + 1 + 1) (by omega) (by omega), w64 (x := (i : Int) + 1) (by omega) (by omega), e]
  have p0 : (mkP a).f0 = a := rfl
  have p1 : (mkP a).f1 = a + 1 := rfl
  rw [p0, p1, if_pos rfl, if_pos rfl]
  congr 1 <;> omega
end Go.Proofs.Ytiekeblppeidfaa.Dec

/- The reference's AddPoint comes to addM. -/
namespace Go.Proofs.Ytiekeblppeidfaa.Dec
open Go.RowKit Go.Proofs.YtiekeblppeidfaaW.PrintWords Go.Proofs.Ytiekeblppeidfaa.Plain Go.Proofs.Ytiekeblppeidfaa.A
set_option linter.unusedVariables false
set_option linter.unusedSimpArgs false
theorem okL_row (l : List DP) (h : 0 < l.length) : okL l = rowOk l := by
  unfold okL rowOk
  rw [decide_eq_true h, Bool.true_and]
  congr 1
  exact decide_eq_decide.2 (by omega)
theorem rowOk_nil : rowOk [] = true := rfl
/-- What the reference makes of it. -/
def specT (l : List DP) (p : DP) (i : Nat) : List DP := if i < l.length ∧ dayAt l i = p.f0 then l.take i ++ p :: l.drop (i + 1) else l.take i ++ p :: l.drop i
theorem specT_eq (l : List DP) (p : DP) : specT l p (lowB l p.f0) = addT l p := by
  unfold specT addT insL
  split
  · rename_i h
    rw [List.set_eq_take_append_cons_drop, if_pos h.1]
  · rfl
theorem specT_len (l : List DP) (p : DP) (i : Nat) (h : i ≤ l.length) : (specT l p i).length ≤ l.length + 1 := by
  unfold specT
  split <;> simp <;> omega
theorem lowB_lt : ∀ (l : List DP) (d : Int) (t : Nat), t < lowB l d → dayAt l t < d
  | [], _, _, h => by simp [lowB] at h
  | x :: r, d, t, h => by
    unfold lowB at h
    split at h
    · cases t with
      | zero => assumption
      | succ t => exact lowB_lt r d t (by omega)
    · cases h
theorem lowB_at : ∀ (l : List DP) (d : Int), lowB l d < l.length → d ≤ dayAt l (lowB l d)
  | [], _, h => by cases h
  | x :: r, d, h => by
    unfold lowB at h ⊢
    split
    · rename_i hx
      rw [if_pos hx] at h
      have := lowB_at r d (by simpa using h)
      exact this
    · rename_i hx
      have e : dayAt (x :: r) 0 = x.f0 := rfl
      rw [e]
      omega
/-- A point of no day is nothing to add. -/
theorem addT_bad (l : List DP) (p : DP) (h : ¬ inR p.f0 0 999 = true) : okL (addT l p) = false := by
  rw [← specT_eq]
  have hi := lowB_le l p.f0
  generalize lowB l p.f0 = i at *
  cases hk : okL (specT l p i) with
  | false => rfl
  | true =>
    refine absurd (inR_iff.2 ?_) h
    have hp := (okL_iff _).1 hk
    have hil : i < (specT l p i).length := by
      unfold specT
      split <;> simp <;> omega
    have := hp.day i hil
    have e : dayAt (specT l p i) i = p.f0 := by
      unfold dayAt specT
      split <;> simp [List.getD, List.getElem?_append, hi]
    rw [e] at this
    exact this
theorem tail_ev (out : List DP) (hb : out.length ≤ 140737488351232) : Ev (fun k => (spec_l11Good.f k out).bind fun t => if t = true then Option.some (out, true) else Option.some (([] : List DP), false)) (if okL out = true then (out, true) else ([], false)) := by
  refine Ev.bind (good_ev out hb) ?_
  cases okL out
  · exact Ev.neg (by decide) (Ev.now _)
  · exact Ev.pos rfl (Ev.now _)
theorem j3_ev (l : List DP) (p : DP) (i : Nat) (hb : l.length ≤ 1073741824) (hi : i ≤ l.length) (b : Bool) (hbb : b = decide (i < l.length ∧ dayAt l i = p.f0)) : Ev (fun k => spec_AddPoint.j3 k l (i : Int) (l.drop i) b p.f0 p.f1) (if okL (specT l p i) = true then (specT l p i, true) else ([], false)) := by
  have hlen := specT_len l p i hi
  cases b with
  | true =>
    have h := of_decide_eq_true hbb.symm
    have e : specT l p i = ([] ++ l.take i) ++ [p] ++ (l.drop i).drop 1 := by unfold specT; rw [if_pos h, List.drop_drop]; simp
    rw [e] at hlen ⊢
    refine Ev.step (f := fun k => (spec_l11Good.f k (([] ++ l.take i) ++ [p] ++ (l.drop i).drop 1)).bind fun t => if t = true then Option.some ((([] ++ l.take i) ++ [p] ++ (l.drop i).drop 1), true) else Option.some (([] : List DP), false)) (fun k => ?_) (tail_ev _ (by omega))
    simp only [spec_AddPoint.j3, Option.bind_some, if_true, Int.toNat_natCast]
    rw [if_pos (by rw [List.length_drop]; omega), if_pos (by omega), if_pos (by omega), if_pos (by simp; omega), if_pos (by simp; omega), if_pos (by simp; omega)]
  | false =>
    have h := of_decide_eq_false hbb.symm
    have e : specT l p i = ([] ++ l.take i) ++ [p] ++ l.drop i := by unfold specT; rw [if_neg h]; simp
    rw [e] at hlen ⊢
    refine Ev.step (f := fun k => (spec_l11Good.f k (([] ++ l.take i) ++ [p] ++ l.drop i)).bind fun t => if t = true then Option.some ((([] ++ l.take i) ++ [p] ++ l.drop i), true) else Option.some (([] : List DP), false)) (fun k => ?_) (tail_ev _ (by omega))
    simp only [spec_AddPoint.j3, Option.bind_some, Bool.false_eq_true, if_false, Int.toNat_natCast]
    rw [if_pos (by omega), if_pos (by omega), if_pos (by simp; omega), if_pos (by simp; omega), if_pos (by simp; omega)]
theorem j2_ev (l : List DP) (p : DP) (i : Nat) (hb : l.length ≤ 1073741824) (hi : i ≤ l.length) : Ev (fun k => spec_AddPoint.j2 k l (i : Int) p.f0 p.f1) (if okL (specT l p i) = true then (specT l p i, true) else ([], false)) := by
  have hd : (l.drop i).length = l.length - i := List.length_drop
  by_cases h : i < l.length
  · have ex : (rd_T39 (l.drop i) 0).f0 = dayAt l i := by
      show ((l.drop i).getD 0 z).f0 = (l.getD i z).f0
      simp [List.getD]
    refine Ev.step (fun k => ?_) (j3_ev l p i hb hi (dayAt l i == p.f0) ?_)
    · simp only [spec_AddPoint.j2, Option.bind_some, Int.toNat_natCast]
      rw [if_pos (by omega), if_pos (by omega), if_pos (by omega), if_pos (by omega), ex]
    · rw [show (dayAt l i == p.f0) = decide (dayAt l i = p.f0) from rfl]
      exact decide_eq_decide.2 ⟨fun h2 => ⟨h, h2⟩, fun h2 => h2.2⟩
  · refine Ev.step (fun k => ?_) (j3_ev l p i hb hi false (decide_eq_false (fun h2 => h h2.1)).symm)
    simp only [spec_AddPoint.j2, Option.bind_some, Int.toNat_natCast]
    rw [if_pos (by omega), if_pos (by omega), if_neg (by omega)]
theorem l0_ev (l : List DP) (p : DP) (hb : l.length ≤ 1073741824) : ∀ (d i : Nat), i + d = lowB l p.f0 → Ev (fun k => spec_AddPoint.l0 k l (i : Int) p.f0 p.f1) (if okL (specT l p (lowB l p.f0)) = true then (specT l p (lowB l p.f0), true) else ([], false)) := by
  have hle := lowB_le l p.f0
  intro d
  induction d with
  | zero =>
    intro i hi
    have ex : (rd_T39 l (i : Int)).f0 = dayAt l i := rfl
    have h := j2_ev l p i hb (by omega)
    rw [← hi]
    refine Ev.step (fun k => ?_) h
    simp only [spec_AddPoint.l0]
    by_cases hl : i < l.length
    · have := lowB_at l p.f0 (by omega)
      rw [← hi] at this
      rw [if_pos (by omega), if_pos (by omega), ex, if_neg (by simp only [Nat.add_zero] at this; omega)]
    · rw [if_neg (by omega)]
  | succ d ih =>
    intro i hi
    have ex : (rd_T39 l (i : Int)).f0 = dayAt l i := rfl
    have h1 := lowB_lt l p.f0 i (by omega)
    have h2 := ih (i + 1) (by omega)
    refine Ev.step (fun k => ?_) h2
    simp only [spec_AddPoint.l0]
    rw [if_pos (by omega), if_pos (by omega), ex, if_pos h1, w64 (x := (i : Int) + 1) (by omega) (by omega)]
    rfl
theorem specAdd_ev (l : List DP) (p : DP) (hb : l.length ≤ 1073741824) : Ev (fun k => spec_AddPoint.f k l p.f0 p.f1) (addM l p) := by
  unfold spec_AddPoint.f
  refine Ev.bind (good_ev l (by omega)) ?_
  have main : Ev (fun k => spec_AddPoint.l0 k l 0 p.f0 p.f1) (if okL (addT l p) = true then (addT l p, true) else ([], false)) := by
    have := l0_ev l p hb (lowB l p.f0) 0 (by omega)
    rw [specT_eq] at this
    exact this
  have goes : rowOk l = true → Ev (fun k => spec_AddPoint.l0 k l 0 p.f0 p.f1) (addM l p) := fun h => by
    unfold addM
    rw [if_pos h]
    by_cases hd : inR p.f0 0 999 = true
    · rw [if_pos hd]; exact main
    · rw [if_neg hd]
      rw [if_neg (by rw [addT_bad l p hd]; decide)] at main
      exact main
  cases hk : okL l with
  | true =>
    refine Ev.pos rfl (Ev.step (f := fun k => spec_AddPoint.l0 k l 0 p.f0 p.f1) (fun k => by simp only [spec_AddPoint.j0, Bool.false_eq_true, if_false]) (goes ?_))
    rw [← okL_row l ((okL_iff l).1 hk).pos]; exact hk
  | false =>
    refine Ev.neg (by decide) ?_
    by_cases h0 : 0 < l.length
    · rw [decide_eq_true (by omega)]
      have e : addM l p = ([], false) := by unfold addM; rw [if_neg (by rw [← okL_row l h0, hk]; decide)]
      rw [e]
      exact Ev.step (f := fun _ => Option.some (([] : List DP), false)) (fun k => by simp only [spec_AddPoint.j0, if_true]) (Ev.now _)
    · rw [decide_eq_false (by omega)]
      obtain rfl : l = [] := List.eq_nil_of_length_eq_zero (by omega)
      exact Ev.step (f := fun k => spec_AddPoint.l0 k [] 0 p.f0 p.f1) (fun k => by simp only [spec_AddPoint.j0, Bool.false_eq_true, if_false]) (goes rowOk_nil)
theorem addM_len (l : List DP) (p : DP) : (addM l p).1.length ≤ 9 := by
  unfold addM
  split
  · split
    · split
      · rename_i h
        have := ((okL_iff _).1 h).few
        simp only; omega
      · simp
    · simp
  · simp
end Go.Proofs.Ytiekeblppeidfaa.Dec

/- The law FnExactAddPoint, as a plain statement: the program's AddPoint answers what the reference's answers. Conditions: those of the row's own reading. -/
namespace Go.Proofs.Ytiekeblppeidfaa.Pure
open Go.RowKit Go.Proofs.YtiekeblppeidfaaW.PrintWords Go.Proofs.Ytiekeblppeidfaa.Plain Go.Proofs.Ytiekeblppeidfaa.A Go.Proofs.Ytiekeblppeidfaa.Dec
set_option linter.unusedVariables false
set_option linter.unusedSimpArgs false
theorem FnExactAddPoint (l : List LP) (a b : Int) (hb : l.length * 16 ≤ 140737488351232) (_ : ∀ x ∈ l, (Lit.int .i64 x.f0).wf = true ∧ (Lit.int .i64 x.f1).wf = true) (_ : (Lit.int .i64 a).wf = true ∧ (Lit.int .i64 b).wf = true) : ∃ k, laws_FnExactAddPoint.f k l a b = some true := by
  have hs := sz_ev l (by omega)
  by_cases c3 : 1048576 - (l.length : Int) < 0
  · refine ⟨0, ?_⟩
    rw [laws_FnExactAddPoint.f, hs, if_pos c3]
    rfl
  rw [if_neg c3] at hs
  have hlm : (l.map cv).length = l.length := by simp
  have ht : laws_toDecPoint.f a b = some (a, b) := rfl
  obtain ⟨K1, h1⟩ := to_ev l (by omega)
  obtain ⟨K2, h2⟩ := specAdd_ev (l.map cv) ⟨a, b⟩ (by omega)
  have h3 : impl_AddPoint.f (l.map cv) a b = some (addM (l.map cv) ⟨a, b⟩) := by unfold impl_AddPoint.f; rw [if_pos (by omega)]
  have hr := addM_len (l.map cv) ⟨a, b⟩
  generalize addM (l.map cv) ⟨a, b⟩ = r at *
  obtain ⟨out, ok⟩ := r
  simp only at hr
  obtain ⟨K4, h4⟩ := same_ev out (by omega)
  obtain ⟨K5, h5⟩ := same_ev (l.map cv) (by omega)
  obtain ⟨K6, h6⟩ := markM_ev (l.map cv) 1 (by omega) (by omega) (by omega)
  obtain ⟨K7, h7⟩ := markM_ev out 1 (by omega) (by omega) (by omega)
  obtain ⟨K8, h8⟩ := held_ev out.length 1 (by omega) (by omega) (by omega)
  obtain ⟨K, hK⟩ : ∃ K, K = K1 + K2 + K4 + K5 + K6 + K7 + K8 := ⟨_, rfl⟩
  dsimp only at h1 h2 h4 h5 h6 h7 h8
  refine ⟨K + 1 + 1 + 1, ?_⟩
  have c4 : ¬ (1 + 2 * ((l.map cv).length : Int) < 0) := by omega
  have c5 : ¬ ((1 : Int) + 2 * (out.length : Int) < 0) := by omega
  simp (discharger := omega) only [laws_FnExactAddPoint.f, hs, ht, h1, h2, h3, h4, Option.bind_some, if_neg c3, if_true, bne_self_eq_false]
  simp (discharger := omega) only [laws_FnExactAddPoint.j0, h1, h4, h5, h6, Option.bind_some, if_neg c4, if_true, bne_self_eq_false, Bool.false_eq_true, if_false]
  simp (discharger := omega) only [laws_FnExactAddPoint.j1, ht, h7, h8, h1, h3, h4, Option.bind_some, if_neg c5, if_true, bne_self_eq_false, Bool.false_eq_true, if_false]
  simp (discharger := omega) only [laws_FnExactAddPoint.j2, h8, Option.bind_some, if_neg c5, if_true, Bool.false_eq_true, if_false]
end Go.Proofs.Ytiekeblppeidfaa.Pure

/- General laws by which a law's arguments are opened: a slice of structs whose fields are integers or bools, as a row of the print's kinds; a struct by value. No conditions. -/
namespace Go.Proofs.Ytiekeblppeidfaa.Opens
open Go.ChangeShapes Go.WideShapes Go.Deep Go.RowKit Go.Proofs.YtiekeblppeidfaaW.PrintWords

theorem list_of {α : Type} {P : Nat → α → Prop} : ∀ (n : Nat), (∀ i, i < n → ∃ x, P i x) → ∃ xs : List α, xs.length = n ∧ ∀ i x, xs[i]? = some x → P i x
  | 0, _ => ⟨[], rfl, fun i x h => by simp at h⟩
  | n + 1, h => by
    obtain ⟨xs, hl, hx⟩ := list_of n (fun i hi => h i (Nat.lt_succ_of_lt hi))
    obtain ⟨y, hy⟩ := h n (Nat.lt_succ_self n)
    refine ⟨xs ++ [y], by simp [hl], fun i x hi => ?_⟩
    by_cases hlt : i < xs.length
    · rw [List.getElem?_append_left hlt] at hi
      exact hx i x hi
    · rw [List.getElem?_append_right (by omega)] at hi
      have h0 : i - xs.length = 0 := by
        have := (List.getElem?_eq_some_iff.1 hi).1
        simp at this
        omega
      rw [h0] at hi
      simp at hi
      subst hi
      have : i = n := by omega
      subst this
      exact hy

section
variable {H : Type} {enc : TypeId × Value → H} {P : Program} {w : World} {base : Nat} {spare : Nat → Bool} {held : Bool}
/-- A slice of structs, opened: the list of what its elements are, each by the kind's own reading. -/
theorem open_row {α : Type} (d : Kd α) {Q : α → Prop} {t e : TypeId} {a : Option Addr} {len cap : Nat} {dd : DataW H} {ps : List MemPlace} (ht : P.underlying t = some (.slice e)) (hC : P.cellsOf e = d.sz)
    (hd : ∀ n cs y, DataW.trod enc P w base spare held n e cs = some y → ∃ x, d.K w x cs ∧ Q x)
    (h : DataW.Trod enc P w base spare held t (.slice a len cap) dd ps) : ∃ xs : List α, xs.length = len ∧ len ≤ cap ∧ d.C w a len xs ∧ ∀ x ∈ xs, Q x := by
  obtain ⟨fuel, hf⟩ := h
  rcases open_slice ht hf with ⟨hcs, _⟩ | ⟨x, l, c, m, n, D, Pl, hcs, _, hl, hm, hmm, _, hi⟩
  · simp [Value.cells] at hcs
    obtain ⟨rfl, rfl, rfl⟩ := hcs
    exact ⟨[], rfl, Nat.le_refl _, ⟨rfl, by omega, fun h => by omega⟩, fun x hx => by simp at hx⟩
  · simp [Value.cells] at hcs
    obtain ⟨rfl, rfl, rfl⟩ := hcs
    have hle : len ≤ m := by subst hmm; split <;> omega
    obtain ⟨xs, hxl, hx⟩ := list_of (P := fun i (z : α) => Q z ∧ ∃ cs, d.K w z cs ∧ w.cells? base (x.add (i * d.sz)) d.sz = some cs) len (fun i hil => by
      obtain ⟨cs, h1, h2⟩ := hi i (by omega)
      rw [hC] at h1
      obtain ⟨z, h3, h4⟩ := hd _ _ _ h2
      exact ⟨z, h4, cs, h3, h1⟩)
    refine ⟨xs, hxl, hl, ⟨hxl, by unfold maxLen at hm; omega, fun _ => ⟨x, rfl, fun j p hp => ?_⟩⟩, fun z hz => ?_⟩
    · obtain ⟨_, cs, h1, h2⟩ := hx j p hp
      obtain ⟨_, hlen, hat⟩ := World.cells?_some h2
      refine ⟨cs, hlen, h1, fun i u hu => ?_⟩
      have hil : i < d.sz := by have := (List.getElem?_eq_some_iff.1 hu).1; omega
      rw [← Go.Deep.add_add, hat i hil, hu]
    · obtain ⟨j, hj⟩ := List.getElem?_of_mem hz
      exact (hx j z hj).1

theorem sized_row {t e : TypeId} {a : Option Addr} {len cap : Nat} {d : DataW H} {ps : List MemPlace} {ts : List TypeId} {ds : List (DataW H)} {j : Nat}
    (hsz : (DataW.weightsEach P ts ds).all (· ≤ reachBytes) = true) (ht : ts[j]? = some t) (hd : ds[j]? = some d) (hu : P.underlying t = some (.slice e)) {B : Nat} (hB : P.bytesOf e = B)
    (h : DataW.Trod enc P w base spare held t (.slice a len cap) d ps) : len * B ≤ 140737488351232 := by
  obtain ⟨fuel, hf⟩ := h
  rcases open_slice hu hf with ⟨hcs, _⟩ | ⟨x, l, c, m, n, D, Pl, hcs, _, hl, hm, hmm, hx, hi⟩
  · simp [Value.cells] at hcs
    obtain ⟨rfl, rfl, rfl⟩ := hcs
    simp
  · simp [Value.cells] at hcs
    obtain ⟨rfl, rfl, rfl⟩ := hcs
    obtain ⟨hx, _⟩ := Prod.mk.inj hx
    subst hx
    have z := sized_slice hsz ht hd hu
    rw [hB] at z
    simp only [List.length_map, List.length_range] at z
    have hle : len ≤ m := by subst hmm; split <;> omega
    rw [show len + (m - len) = m by omega] at z
    exact Nat.le_trans (Nat.mul_le_mul_right _ hle) z

theorem one_field {f : Field} {cs : List Value} {o c : Nat} (ho : f.offset = o) (hc : P.cellsOf f.type = c) {n : Nat} {y : Option (DataW H × List MemPlace)} (h : DataW.trod enc P w base spare held n f.type ((cs.drop f.offset).take (P.cellsOf f.type)) = y) : DataW.trod enc P w base spare held n f.type ((cs.drop o).take c) = y := by rw [← ho, ← hc]; exact h
end
theorem len2 {α : Type} : ∀ {l : List α}, l.length = 2 → ∃ x0 x1, l = [x0, x1]
  | [x0, x1], _ => ⟨x0, x1, rfl⟩
end Go.Proofs.Ytiekeblppeidfaa.Opens

namespace Go.Proofs.Ytiekeblppeidfaa.fnExactAddPoint
open Go.ChangeShapes Go.WideShapes Go.ChangeAt Go.RowKit
open Go.ChangeMaps (open_string shut_string)
open Go.Proofs.Ytiekeblppeidfaa.A Go.Proofs.YtiekeblppeidfaaW.PrintWords Go.Proofs.Ytiekeblppeidfaa.Opens
set_option linter.unusedVariables false
theorem own : ownKnob Try.prog.godebug = none := by kernel_rfl
theorem laidOut : laidOutB Try.prog = true := by kernel_rfl
theorem open_33 {H : Type} {enc : TypeId × Value → H} {w : World} {base : Nat} {spare : Nat → Bool} {held : Bool} {n : Nat} {cs : List Value} {y : DataW H × List MemPlace} (h : DataW.trod enc Try.prog w base spare held n 33 cs = some y) : ∃ (x0 : Int) (x1 : Int), cs = [.int .i64 x0, .int .i64 x1] ∧ (Lit.int .i64 x0).wf = true ∧ (Lit.int .i64 x1).wf = true := by
  obtain ⟨ys, n', _, _, hlen, hys, hf⟩ := DataW.trod_struct Try.underlying33 h
  replace hlen : cs.length = 2 := hlen.trans (by kernel_rfl)
  replace hys : ys.length = 2 := hys.trans (by kernel_rfl)
  clear h
  obtain ⟨c0, c1, rfl⟩ := len2 hlen
  obtain ⟨y0, y1, rfl⟩ := len2 hys
  have h0 : DataW.trod enc Try.prog w base spare held n' 3 [c0] = some y0 := one_field (c := 1) (o := 0) rfl (by kernel_rfl) (hf 0 _ rfl)
  obtain ⟨x0, e0, _, w0⟩ := DataW.trod_int Try.underlying3 h0
  obtain rfl : c0 = _ := (List.cons.inj e0).1
  have h1 : DataW.trod enc Try.prog w base spare held n' 3 [c1] = some y1 := one_field (c := 1) (o := 1) rfl (by kernel_rfl) (hf 1 _ rfl)
  obtain ⟨x1, e1, _, w1⟩ := DataW.trod_int Try.underlying3 h1
  obtain rfl : c1 = _ := (List.cons.inj e1).1
  exact ⟨x0, x1, rfl, w0, w1⟩
set_option maxRecDepth 100000 in
theorem lifted (os : Os) (started : os.Started) (H : Type) (enc : TypeId × Value → H) :
    ReturnsInHanded {} Try.checked os 4 .any (Rows.fnExactAddPointSpec.pre6 enc Try.prog Try.f4 Rows.fnExactAddPointRow.domain false) (Rows.fnExactAddPointSpec.post enc Try.prog Try.f4 false true false false) := by
  refine returnsInHanded_of_change_sized (C := Try.checked) own started (by kernel_rfl) Try.func4
    (ChangeSpec.witness6 (enc := enc) (C := Try.checked) false ⟨#[], #[.slice none 0 0, .agg #[.int .i64 0, .int .i64 0]], []⟩ 8 (by kernel_rfl) (by kernel_rfl) (by kernel_rfl) (by kernel_rfl)) ?_
  intro W base args ds gs before hval0 hW hcnd hsz0 _
  have hsz : (DataW.weightsEach Try.prog (Try.f4.params.toList ++ Rows.fnExactAddPointSpec.plain.varTypes Try.prog) (ds ++ gs)).all (· ≤ reachBytes) = true := hsz0
  have hval : ∀ (j : Nat) t v, Try.f4.params[j]? = some t → args[j]? = some v → Value.okWide Try.prog W .any base t v := hval0
  have hW' := hW
  obtain ⟨p, q, hA0, hV, rfl, hfz, hnd⟩ := hW
  have hA : DataW.TrodAll enc Try.prog W 0 (fun _ => true) true Try.f4.params.toList args.toList ds p := hA0
  rw [Try.params4] at hA hval hsz
  obtain ⟨v0, vs0, d0, ds0, p0, q0, hargs, rfl, rfl, h0, r0⟩ := trodAll_cons hA
  obtain ⟨v1, vs1, d1, ds1, p1, q1, rfl, rfl, rfl, h1, r1⟩ := trodAll_cons r0
  obtain ⟨rfl, rfl, rfl⟩ := trodAll_nil r1
  obtain rfl : args = #[v0, v1] := by cases args; simp_all
  obtain ⟨rfl, rfl⟩ := trodVars_none hV
  have k0 := h0
  have lt0 : ∀ x ∈ p0, x.block < W.heap.size := by obtain ⟨m, hm⟩ := k0; exact DataW.trod_lt m _ _ _ hm
  obtain ⟨a0, len0, cap0, rfl⟩ := okWide_slice Try.underlying31 (hval 0 31 v0 rfl rfl)
  obtain ⟨l0, hl0, hc0, hr0, hw0⟩ := Opens.open_row k33 (Q := fun x => (Lit.int .i64 x.f0).wf = true ∧ (Lit.int .i64 x.f1).wf = true) (e := 33) Try.underlying31 (by kernel_rfl) (fun _ _ _ h => by obtain ⟨x0, x1, rfl, hw⟩ := open_33 h; exact ⟨⟨x0, x1⟩, k33_mk _ _, hw⟩) h0
  have y0 : len0 * 16 ≤ 140737488351232 := Opens.sized_row hsz (j := 0) (t := 31) rfl rfl Try.underlying31 (by kernel_rfl) h0
  subst hl0
  have k1 := h1
  have lt1 : ∀ x ∈ p1, x.block < W.heap.size := by obtain ⟨m, hm⟩ := k1; exact DataW.trod_lt m _ _ _ hm
  obtain ⟨cs1, rfl, _⟩ := okWide_struct Try.underlying33 (hval 1 33 v1 rfl rfl)
  obtain ⟨a1_0, a1_1, e1, w1⟩ : ∃ (x0 : Int) (x1 : Int), cs1 = #[.int .i64 x0, .int .i64 x1] ∧ (Lit.int .i64 x0).wf = true ∧ (Lit.int .i64 x1).wf = true := by
    obtain ⟨fuel, hf⟩ := h1
    obtain ⟨x0, x1, hcs, hw⟩ := open_33 hf
    exact ⟨x0, x1, by obtain ⟨l⟩ := cs1; exact congrArg List.toArray hcs, hw⟩
  subst e1
  clear hA0 hval0 hsz0 hsz
  obtain ⟨k, hk⟩ := Pure.FnExactAddPoint l0 a1_0 a1_1 y0 hw0 w1
  refine (laws_FnExactAddPoint.calls k _ _ l0 a1_0 a1_1 true W hr0 hc0 hk trivial).mono fun e W' ⟨he, hb⟩ => ?_
  have bel : Below W.heap.size W W' := hb
  subst he
  exact ⟨_, rfl, _, _, _, [], _, [], hW', trodAll_mk1 (shut_bool Try.underlying4 _), (trodAll_cons_mk (Below.trod laidOut (by kernel_rfl) (of_decide_eq_true (by kernel_rfl)) k0 bel lt0) (trodAll_cons_mk (Below.trod laidOut (by kernel_rfl) (of_decide_eq_true (by kernel_rfl)) k1 bel lt1) trodAll_mk0)), rfl, bel.frame _, fun h => by cases h⟩
theorem over : Rows.fnExactAddPointRow.holds Try.pinned (OpenSpec.ofChange Rows.fnExactAddPointSpec) :=
  OpenClaim.holds_of_wide 4 Try.f4 rfl rfl rfl rfl rfl rfl rfl ⟨rfl, rfl, rfl, rfl, rfl⟩ rfl rfl rfl rfl rfl (by kernel_rfl) Try.func4 (by kernel_rfl)
    (of_decide_eq_true (by kernel_rfl)) (by unfold Func.isWrapper; first | (rw [if_pos (by decide +kernel)]; kernel_rfl) | (rw [if_neg (by decide +kernel)]; exact ⟨rfl, rfl⟩))
    (fun os started H enc _ => lifted os started H enc)
theorem proved : Rows.FnExactAddPointSaid := over
#print axioms proved
end Go.Proofs.Ytiekeblppeidfaa.fnExactAddPoint
namespace Go.Proofs.Ytiekeblppeidfaa
/-- The row, under a short name, for the claim. -/
theorem fnExactAddPoint_holds : Rows.FnExactAddPointSaid := fnExactAddPoint.proved
end Go.Proofs.Ytiekeblppeidfaa
