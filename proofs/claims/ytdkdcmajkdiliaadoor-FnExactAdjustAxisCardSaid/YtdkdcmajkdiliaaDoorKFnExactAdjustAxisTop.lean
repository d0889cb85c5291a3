/- The row of the law FnExactAdjustAxis: whatever the input, it returns true; its arguments read as they did. No conditions. -/
import Derived.Deep.Slices
import Derived.Deep.Fields
import Derived.ChangeSame
import Derived.SizedLaws
import Derived.Test.YtdkdcmajkdiliaaDoorKFnExactAdjustAxisVMore
import Derived.Test.YtdkdcmajkdiliaaDoorCards
import Derived.Test.YtdkdcmajkdiliaaDoorTie
import Derived.OpenVars
import Derived.ChangeVars
import Derived.SevenTiedAt
import Derived.Stop.Joined
import Derived.LaidMore
import Derived.Test.YtdkdcmajkdiliaaDoorRows
import Derived.WalkKit
import Derived.ProofKit
import Derived.OpenShut
import Derived.ShutString
import Derived.ChangeOld
import Derived.Below
import Derived.Test.YtdkdcmajkdiliaaDoorKFnExactAdjustAxis0
import Derived.Test.YtdkdcmajkdiliaaDoorKFnExactAdjustAxis1
import Derived.Test.YtdkdcmajkdiliaaDoorKFnExactAdjustAxis2
import Derived.Test.YtdkdcmajkdiliaaDoorKFnExactAdjustAxis3
import Derived.Test.YtdkdcmajkdiliaaDoorKFnExactAdjustAxisU1
import Derived.Test.YtdkdcmajkdiliaaDoorKFnExactAdjustAxisU4
import Derived.Test.YtdkdcmajkdiliaaDoorKFnExactAdjustAxisU5
/- Slices of ints that a law copies, compares, marks and looks at again. No conditions. -/
namespace Go.Proofs.YtdkdcmajkdiliaaDoor.Ints
open Go.RowKit Go.Proofs.YtdkdcmajkdiliaaDoorW.PrintWords Go.Proofs.YtdkdcmajkdiliaaDoor.Plain Go.Proofs.YtdkdcmajkdiliaaDoor.A
set_option linter.unusedVariables false
set_option linter.unusedSimpArgs false
theorem eqInt_ev (l : List Int) (hb : l.length ≤ 140737488351232) : Ev (fun k => laws_eqIntS.f k l l) true := by
  unfold laws_eqIntS.f
  refine Ev.pos rfl ?_
  exact eq_all laws_eqIntS.l0 (fun k x0 x4 h0 => by
    simp only [laws_eqIntS.l0, if_true]
    by_cases h : x4 < (x0.length : Int)
    · rw [if_pos h, if_pos h0, if_pos h, if_pos h]
    · rw [if_neg h, if_neg h]) l hb
/-- a, a + 1, .. -/
def from_ : Int → Nat → List Int
  | _, 0 => []
  | a, n + 1 => a :: from_ (a + 1) n
theorem from_length : ∀ (n : Nat) (a : Int), (from_ a n).length = n
  | 0, _ => rfl
  | n + 1, a => by rw [from_, List.length_cons, from_length n]
theorem from_snoc : ∀ (n : Nat) (a : Int), from_ a (n + 1) = from_ a n ++ [a + n]
  | 0, a => by simp [from_]
  | n + 1, a => by
    rw [from_, from_snoc n (a + 1), from_]
    simp
    omega
theorem from_get : ∀ (n : Nat) (a : Int) (i : Nat), i < n → (from_ a n).getD i 0 = a + i
  | 0, _, _, h => by omega
  | n + 1, a, 0, _ => by simp [from_]
  | n + 1, a, i + 1, h => by
    rw [from_, List.getD_cons_succ, from_get n (a + 1) i (by omega)]
    omega
theorem mark_ev (l : List Int) (a : Int) (hb : l.length ≤ 140737488351232) (h0 : 0 ≤ a) (h1 : a ≤ 1000000000000) : Ev (fun k => laws_markIntS.f k l a) (a + l.length, from_ a l.length) := by
  have key : ∀ (d i : Nat) (x : List Int), x.length = l.length → i + d = l.length → x.take i = from_ a i → Ev (fun k => laws_markIntS.l0 k x (a + i) (i : Int)) (a + l.length, from_ a l.length) := by
    intro d
    induction d with
    | zero =>
      intro i x hx hi ht
      obtain rfl : i = l.length := by omega
      refine Ev.step (f := fun _ => some (a + (l.length : Int), x)) (fun k => by simp only [laws_markIntS.l0]; rw [if_neg (by omega)]) ?_
      rw [List.take_of_length_le (by omega)] at ht
      rw [ht]
      exact Ev.now _
    | succ d ih =>
      intro i x hx hi ht
      have hil : i < x.length := by omega
      refine Ev.step (f := fun k => laws_markIntS.l0 k (x.set i (a + i)) (a + ((i + 1 : Nat) : Int)) ((i + 1 : Nat) : Int)) (fun k => by
        simp only [laws_markIntS.l0]
        rw [if_pos (by omega), if_pos (by omega), w64 (by omega) (by omega), w64 (by omega) (by omega), Int.toNat_natCast]
        congr 1
        omega) ?_
      refine ih (i + 1) _ (by simpa using hx) (by omega) ?_
      rw [List.take_succ_eq_append_getElem (by simpa using hil), List.take_set_of_le (by omega), ht, from_snoc]
      simp
  have := key l.length 0 l rfl (by omega) rfl
  unfold laws_markIntS.f
  simpa using this
theorem held_ev (n : Nat) (a : Int) (hb : n ≤ 140737488351232) (h0 : 0 ≤ a) (h1 : a ≤ 1000000000000) : Ev (fun k => laws_heldIntS.f k (from_ a n) a) (a + n) := by
  have key : ∀ (d i : Nat), i + d = n → Ev (fun k => laws_heldIntS.l0 k (from_ a n) (a + i) (i : Int)) (a + n) := by
    intro d
    induction d with
    | zero =>
      intro i hi
      obtain rfl : i = n := by omega
      exact Ev.step (f := fun _ => some (a + (i : Int))) (fun k => by simp only [laws_heldIntS.l0]; rw [if_neg (by rw [from_length]; omega)]) (Ev.now _)
    | succ d ih =>
      intro i hi
      have e : rd (from_ a n) (i : Int) = a + i := from_get n a i (by omega)
      refine Ev.step (f := fun k => laws_heldIntS.l0 k (from_ a n) (a + ((i + 1 : Nat) : Int)) ((i + 1 : Nat) : Int)) (fun k => by
        simp only [laws_heldIntS.l0]
        rw [if_pos (by rw [from_length]; omega), if_pos (by omega), if_pos e, w64 (by omega) (by omega), w64 (by omega) (by omega)]
        congr 1
        omega) (ih (i + 1) (by omega))
  have := key n 0 (by omega)
  unfold laws_heldIntS.f
  simpa using this
end Go.Proofs.YtdkdcmajkdiliaaDoor.Ints

/- The law FnExactAdjustAxis, as a plain statement: the program's AdjustAxis answers what the reference's answers. Conditions: those of the row's own reading. -/
namespace Go.Proofs.YtdkdcmajkdiliaaDoor.Pure
open Go.RowKit Go.Proofs.YtdkdcmajkdiliaaDoorW.PrintWords Go.Proofs.YtdkdcmajkdiliaaDoor.Plain Go.Proofs.YtdkdcmajkdiliaaDoor.A Go.Proofs.YtdkdcmajkdiliaaDoor.Legs
set_option linter.unusedVariables false
set_option linter.unusedSimpArgs false
theorem l1In_eq (x a b : Int) : spec_l1In.f x a b = some (decide (a ≤ x ∧ x ≤ b)) := Net.within_eq x a b
theorem l9Axis_ev (ls : Net.L) (ax : Int) (hb : ls.length ≤ 140737488351232) : Ev (fun k => spec_l9Axis.f k ls ax) (decide (Net.legsB ls = true ∧ (0 ≤ ax ∧ ax ≤ 2))) := by
  refine Ev.bind (Net.l4Legs_ev ls hb) ?_
  by_cases hv : Net.legsB ls = true
  · refine Ev.pos hv ?_
    rw [l1In_eq, Option.bind_some, show decide (Net.legsB ls = true ∧ (0 ≤ ax ∧ ax ≤ 2)) = decide (0 ≤ ax ∧ ax ≤ 2) from by simp [hv]]
    exact Ev.now _
  · rw [decide_eq_false (fun e => hv e.1)]
    exact Ev.neg hv (Ev.now _)
theorem adjustAxis_ev (ls : Net.L) (ax : Int) (hb : ls.length ≤ 140737488351232) : Ev (fun k => spec_AdjustAxis.f k ls ax) (axisM ls ax) := by
  refine Ev.bind (l9Axis_ev ls ax hb) ?_
  unfold axisM
  by_cases hv : Net.legsB ls = true ∧ (0 ≤ ax ∧ ax ≤ 2)
  · have he : spec_l9Trees.f ls = some (Net.treesM ls) := by unfold spec_l9Trees.f; rw [if_pos hv.1]
    have ha : spec_l9Adjust.f ls ax = some (Net.coL ls ax) := by unfold spec_l9Adjust.f; rw [if_pos hv]
    rw [if_pos hv]
    exact Ev.pos (decide_eq_true hv) (Ev.bindc ha (Ev.bindc he (Ev.now _)))
  · rw [if_neg hv]
    exact Ev.neg (by rw [decide_eq_false hv]; decide) (Ev.now _)
theorem axisM_len (ls : Net.L) (ax : Int) : (axisM ls ax).1.length ≤ 100 := by
  unfold axisM
  split
  · show (Net.coL ls ax).length ≤ 100
    unfold Net.coL
    rw [Net.coTo_len]; omega
  · simp
theorem FnExactAdjustAxis (l0 : List (S42)) (a1 : Int) (hb : l0.length * 40 ≤ 140737488351232) (_ : ∀ x ∈ l0, (Lit.int .i64 x.f0).wf = true ∧ (Lit.int .i64 x.f1).wf = true ∧ (Lit.int .i64 x.f2).wf = true ∧ (Lit.int .i64 x.f3).wf = true ∧ (Lit.int .i64 x.f4).wf = true) (_ : (Lit.int .i64 a1).wf = true) : ∃ k, laws_FnExactAdjustAxis.f k l0 a1 = some true := by
  refine Ev.rounds ?_
  have hl : (l0.map cv).length = l0.length := by simp
  have hsz := szLegs_eq l0 (by omega)
  by_cases c : l0.length ≤ 1048576
  · rw [if_pos c] at hsz
    have hBl := axisM_len (l0.map cv) a1
    have hs := adjustAxis_ev (l0.map cv) a1 (by omega)
    have hi : impl_AdjustAxis.f (l0.map cv) a1 = some (axisM (l0.map cv) a1) := by unfold impl_AdjustAxis.f; rw [if_pos (by omega)]
    generalize axisM (l0.map cv) a1 = B at *
    obtain ⟨b1, b2, b3⟩ := B
    simp only at hBl
    have heq := Ints.eqInt_ev b1 (by omega)
    obtain ⟨q, hq⟩ := markLegs_ev (l0.map cv) 1 (by omega) (by omega) (by omega)
    have hm := Ints.mark_ev b1 1 (by omega) (by omega) (by omega)
    have hh := Ints.held_ev b1.length 1 (by omega) (by omega) (by omega)
    have hlegs := toLegs_ev l0 (by omega)
    refine Ev.bindc hsz (Ev.neg (by omega) ?_)
    refine Ev.bind hlegs (Ev.bind hs (Ev.bind hlegs (Ev.bindc hi (Ev.bind heq (Ev.pos rfl (Ev.pos rfl ?_))))))
    refine Ev.step (f := fun k => (laws_toLegS.f k l0).bind fun t384 => ((laws_eqLegS.f k (l0.map cv) t384).bind fun t387 => (if t387 = true then ((laws_markLegS.f k (l0.map cv) 1).bind fun bt388 => (if bt388.1 < 0 then (laws_FnExactAdjustAxis.j1 k l0 a1 b1 b2 b3 b1 true) else ((laws_eqIntS.f k b1 b1).bind fun t390 => (if t390 = true then (if b2 = b2 then (laws_FnExactAdjustAxis.j1 k l0 a1 b1 b2 b3 b1 (b3 != b3)) else (laws_FnExactAdjustAxis.j1 k l0 a1 b1 b2 b3 b1 true)) else (laws_FnExactAdjustAxis.j1 k l0 a1 b1 b2 b3 b1 true))))) else (some false)))) (fun k => by simp only [laws_FnExactAdjustAxis.j0, bne_self_eq_false, Bool.false_eq_true, if_false]) ?_
    refine Ev.bind hlegs (Ev.bind (eqLegs_ev _ (by omega)) (Ev.pos rfl (Ev.bind hq (Ev.neg (by simp only; omega) (Ev.bind heq (Ev.pos rfl (Ev.pos rfl ?_)))))))
    refine Ev.step (f := fun k => (laws_markIntS.f k b1 1).bind fun bt391 => ((laws_heldIntS.f k bt391.2 1).bind fun t393 => (if t393 < 0 then (some false) else (if t393 = bt391.1 then ((laws_toLegS.f k l0).bind fun t394 => ((impl_AdjustAxis.f t394 a1).bind fun bt397 => ((laws_eqIntS.f k bt397.1 b1).bind fun t402 => (if t402 = true then (if bt397.2.1 = b2 then (laws_FnExactAdjustAxis.j2 k bt391.2 bt391.1 (bt397.2.2 != b3)) else (laws_FnExactAdjustAxis.j2 k bt391.2 bt391.1 true)) else (laws_FnExactAdjustAxis.j2 k bt391.2 bt391.1 true))))) else (some false))))) (fun k => by simp only [laws_FnExactAdjustAxis.j1, bne_self_eq_false, Bool.false_eq_true, if_false]) ?_
    refine Ev.bind hm (Ev.bind hh (Ev.neg (by omega) (Ev.pos rfl (Ev.bind hlegs (Ev.bindc hi (Ev.bind heq (Ev.pos rfl (Ev.pos rfl ?_))))))))
    refine Ev.step (f := fun k => (laws_heldIntS.f k (Ints.from_ 1 b1.length) 1).bind fun t403 => (if t403 < 0 then (some false) else (if t403 = 1 + (b1.length : Int) then (some true) else (some false)))) (fun k => by simp only [laws_FnExactAdjustAxis.j2, bne_self_eq_false, Bool.false_eq_true, if_false]) ?_
    exact Ev.bind hh (Ev.neg (by omega) (Ev.pos rfl (Ev.now _)))
  · rw [if_neg c] at hsz
    exact Ev.bindc hsz (Ev.pos (by decide) (Ev.now _))
end Go.Proofs.YtdkdcmajkdiliaaDoor.Pure

/- General laws by which a law's arguments are opened: a slice of structs whose fields are integers or bools, as a row of the print's kinds; a struct by value. No conditions. -/
namespace Go.Proofs.YtdkdcmajkdiliaaDoor.Opens
open Go.ChangeShapes Go.WideShapes Go.Deep Go.RowKit Go.Proofs.YtdkdcmajkdiliaaDoorW.PrintWords

theorem list_of {α : Type} {P : Nat → α → Prop} : ∀ (n : Nat), (∀ i, i < n → ∃ x, P i x) → ∃ xs : List α, xs.length = n ∧ ∀ i x, xs[i]? = some x → P i x
  | 0, _ => ⟨[], rfl, fun i x h => by simp at h⟩
  | n + 1, h => by
    obtain ⟨xs, hl, hx⟩ := list_of n (fun i hi => h i (Nat.lt_succ_of_lt hi))
    obtain ⟨y, hy⟩ := h n (Nat.lt_succ_self n)
    refine ⟨xs ++ [y], by simp [hl], fun i x hi => ?_⟩
    by_cases hlt : i < xs.length
    · rw [List.getElem?_append_left hlt] at hi
      exact hx i x hi
    · rw [List.getElem?_append_right (by omega)] at hi
      have h0 : i - xs.length = 0 := by
        have := (List.getElem?_eq_some_iff.1 hi).1
        simp at this
        omega
      rw [h0] at hi
      simp at hi
      subst hi
      have : i = n := by omega
      subst this
      exact hy

section
variable {H : Type} {enc : TypeId × Value → H} {P : Program} {w : World} {base : Nat} {spare : Nat → Bool} {held : Bool}
/-- A slice of structs, opened: the list of what its elements are, each by the kind's own reading. -/
theorem open_row {α : Type} (d : Kd α) {Q : α → Prop} {t e : TypeId} {a : Option Addr} {len cap : Nat} {dd : DataW H} {ps : List MemPlace} (ht : P.underlying t = some (.slice e)) (hC : P.cellsOf e = d.sz)
    (hd : ∀ n cs y, DataW.trod enc P w base spare held n e cs = some y → ∃ x, d.K w x cs ∧ Q x)
    (h : DataW.Trod enc P w base spare held t (.slice a len cap) dd ps) : ∃ xs : List α, xs.length = len ∧ len ≤ cap ∧ d.C w a len xs ∧ ∀ x ∈ xs, Q x := by
  obtain ⟨fuel, hf⟩ := h
  rcases open_slice ht hf with ⟨hcs, _⟩ | ⟨x, l, c, m, n, D, Pl, hcs, _, hl, hm, hmm, _, hi⟩
  · simp [Value.cells] at hcs
    obtain ⟨rfl, rfl, rfl⟩ := hcs
    exact ⟨[], rfl, Nat.le_refl _, ⟨rfl, by omega, fun h => by omega⟩, fun x hx => by simp at hx⟩
  · simp [Value.cells] at hcs
    obtain ⟨rfl, rfl, rfl⟩ := hcs
    have hle : len ≤ m := by subst hmm; split <;> omega
    obtain ⟨xs, hxl, hx⟩ := list_of (P := fun i (z : α) => Q z ∧ ∃ cs, d.K w z cs ∧ w.cells? base (x.add (i * d.sz)) d.sz = some cs) len (fun i hil => by
      obtain ⟨cs, h1, h2⟩ := hi i (by omega)
      rw [hC] at h1
      obtain ⟨z, h3, h4⟩ := hd _ _ _ h2
      exact ⟨z, h4, cs, h3, h1⟩)
    refine ⟨xs, hxl, hl, ⟨hxl, by unfold maxLen at hm; omega, fun _ => ⟨x, rfl, fun j p hp => ?_⟩⟩, fun z hz => ?_⟩
    · obtain ⟨_, cs, h1, h2⟩ := hx j p hp
      obtain ⟨_, hlen, hat⟩ := World.cells?_some h2
      refine ⟨cs, hlen, h1, fun i u hu => ?_⟩
      have hil : i < d.sz := by have := (List.getElem?_eq_some_iff.1 hu).1; omega
      rw [← Go.Deep.add_add, hat i hil, hu]
    · obtain ⟨j, hj⟩ := List.getElem?_of_mem hz
      exact (hx j z hj).1

theorem sized_row {t e : TypeId} {a : Option Addr} {len cap : Nat} {d : DataW H} {ps : List MemPlace} {ts : List TypeId} {ds : List (DataW H)} {j : Nat}
    (hsz : (DataW.weightsEach P ts ds).all (· ≤ reachBytes) = true) (ht : ts[j]? = some t) (hd : ds[j]? = some d) (hu : P.underlying t = some (.slice e)) {B : Nat} (hB : P.bytesOf e = B)
    (h : DataW.Trod enc P w base spare held t (.slice a len cap) d ps) : len * B ≤ 140737488351232 := by
  obtain ⟨fuel, hf⟩ := h
  rcases open_slice hu hf with ⟨hcs, _⟩ | ⟨x, l, c, m, n, D, Pl, hcs, _, hl, hm, hmm, hx, hi⟩
  · simp [Value.cells] at hcs
    obtain ⟨rfl, rfl, rfl⟩ := hcs
    simp
  · simp [Value.cells] at hcs
    obtain ⟨rfl, rfl, rfl⟩ := hcs
    obtain ⟨hx, _⟩ := Prod.mk.inj hx
    subst hx
    have z := sized_slice hsz ht hd hu
    rw [hB] at z
    simp only [List.length_map, List.length_range] at z
    have hle : len ≤ m := by subst hmm; split <;> omega
    rw [show len + (m - len) = m by omega] at z
    exact Nat.le_trans (Nat.mul_le_mul_right _ hle) z

theorem one_field {f : Field} {cs : List Value} {o c : Nat} (ho : f.offset = o) (hc : P.cellsOf f.type = c) {n : Nat} {y : Option (DataW H × List MemPlace)} (h : DataW.trod enc P w base spare held n f.type ((cs.drop f.offset).take (P.cellsOf f.type)) = y) : DataW.trod enc P w base spare held n f.type ((cs.drop o).take c) = y := by rw [← ho, ← hc]; exact h
end
theorem len5 {α : Type} : ∀ {l : List α}, l.length = 5 → ∃ x0 x1 x2 x3 x4, l = [x0, x1, x2, x3, x4]
  | [x0, x1, x2, x3, x4], _ => ⟨x0, x1, x2, x3, x4, rfl⟩
end Go.Proofs.YtdkdcmajkdiliaaDoor.Opens

namespace Go.Proofs.YtdkdcmajkdiliaaDoor.fnExactAdjustAxis
open Go.ChangeShapes Go.WideShapes Go.ChangeAt Go.RowKit
open Go.ChangeMaps (open_string shut_string)
open Go.Proofs.YtdkdcmajkdiliaaDoor.A Go.Proofs.YtdkdcmajkdiliaaDoorW.PrintWords Go.Proofs.YtdkdcmajkdiliaaDoor.Opens
set_option linter.unusedVariables false
theorem own : ownKnob Tryd.prog.godebug = none := by kernel_rfl
theorem laidOut : laidOutB Tryd.prog = true := by kernel_rfl
theorem open_42 {H : Type} {enc : TypeId × Value → H} {w : World} {base : Nat} {spare : Nat → Bool} {held : Bool} {n : Nat} {cs : List Value} {y : DataW H × List MemPlace} (h : DataW.trod enc Tryd.prog w base spare held n 42 cs = some y) : ∃ (x0 : Int) (x1 : Int) (x2 : Int) (x3 : Int) (x4 : Int), cs = [.int .i64 x0, .int .i64 x1, .int .i64 x2, .int .i64 x3, .int .i64 x4] ∧ (Lit.int .i64 x0).wf = true ∧ (Lit.int .i64 x1).wf = true ∧ (Lit.int .i64 x2).wf = true ∧ (Lit.int .i64 x3).wf = true ∧ (Lit.int .i64 x4).wf = true := by
  obtain ⟨ys, n', _, _, hlen, hys, hf⟩ := DataW.trod_struct Tryd.underlying42 h
  replace hlen : cs.length = 5 := hlen.trans (by kernel_rfl)
  replace hys : ys.length = 5 := hys.trans (by kernel_rfl)
  clear h
  obtain ⟨c0, c1, c2, c3, c4, rfl⟩ := len5 hlen
  obtain ⟨y0, y1, y2, y3, y4, rfl⟩ := len5 hys
  have h0 : DataW.trod enc Tryd.prog w base spare held n' 3 [c0] = some y0 := one_field (c := 1) (o := 0) rfl (by kernel_rfl) (hf 0 _ rfl)
  obtain ⟨x0, e0, _, w0⟩ := DataW.trod_int Tryd.underlying3 h0
  obtain rfl : c0 = _ := (List.cons.inj e0).1
  have h1 : DataW.trod enc Tryd.prog w base spare held n' 3 [c1] = some y1 := one_field (c := 1) (o := 1) rfl (by kernel_rfl) (hf 1 _ rfl)
  obtain ⟨x1, e1, _, w1⟩ := DataW.trod_int Tryd.underlying3 h1
  obtain rfl : c1 = _ := (List.cons.inj e1).1
  have h2 : DataW.trod enc Tryd.prog w base spare held n' 3 [c2] = some y2 := one_field (c := 1) (o := 2) rfl (by kernel_rfl) (hf 2 _ rfl)
  obtain ⟨x2, e2, _, w2⟩ := DataW.trod_int Tryd.underlying3 h2
  obtain rfl : c2 = _ := (List.cons.inj e2).1
  have h3 : DataW.trod enc Tryd.prog w base spare held n' 3 [c3] = some y3 := one_field (c := 1) (o := 3) rfl (by kernel_rfl) (hf 3 _ rfl)
  obtain ⟨x3, e3, _, w3⟩ := DataW.trod_int Tryd.underlying3 h3
  obtain rfl : c3 = _ := (List.cons.inj e3).1
  have h4 : DataW.trod enc Tryd.prog w base spare held n' 3 [c4] = some y4 := one_field (c := 1) (o := 4) rfl (by kernel_rfl) (hf 4 _ rfl)
  obtain ⟨x4, e4, _, w4⟩ := DataW.trod_int Tryd.underlying3 h4
  obtain rfl : c4 = _ := (List.cons.inj e4).1
  exact ⟨x0, x1, x2, x3, x4, rfl, w0, w1, w2, w3, w4⟩
set_option maxRecDepth 100000 in
theorem lifted (os : Os) (started : os.Started) (H : Type) (enc : TypeId × Value → H) :
    ReturnsInHanded {} Tryd.checked os 4 .any (fun w args => (Rows.fnExactAdjustAxisSpec.pre enc Tryd.prog Tryd.f4 [] false w args ∧ laidMetH Tryd.prog LaidT.list w) ∧ sizedMet enc Tryd.prog Tryd.f4 (OpenSpec.ofChange Rows.fnExactAdjustAxisSpec) false w args) (Rows.fnExactAdjustAxisSpec.post enc Tryd.prog Tryd.f4 false true false false) := by
  refine returnsInHanded_of_change_and (C := Tryd.checked) (X := fun w _ => laidMetH Tryd.prog LaidT.list w) (fun _ _ _ hh h => h.of_heap hh) own started (by kernel_rfl) Tryd.func4
    (ChangeSpec.witness_shaped (enc := enc) (C := Tryd.checked) (os := os) (X := fun w _ => laidMetH Tryd.prog LaidT.list w) false (World.doorLaid Tryd.prog 400 os) #[.slice none 0 0, .int .i64 0] 8 rfl (World.shaped_of_RefB (by kernel_rfl) (by kernel_rfl)) (by kernel_rfl) (by kernel_rfl) (by kernel_rfl) (LaidT.door_met os _)) ?_
  intro W base args ds gs before hval0 hW hcnd hsz0 hL _
  have hsz : (DataW.weightsEach Tryd.prog (Tryd.f4.params.toList ++ Rows.fnExactAdjustAxisSpec.plain.varTypes Tryd.prog) (ds ++ gs)).all (· ≤ reachBytes) = true := hsz0
  have hval : ∀ (j : Nat) t v, Tryd.f4.params[j]? = some t → args[j]? = some v → Value.okWide Tryd.prog W .any base t v := hval0
  have hW' := hW
  obtain ⟨p, q, hA0, hV, rfl, hfz, hnd⟩ := hW
  have hA : DataW.TrodAll enc Tryd.prog W 0 (fun _ => true) true Tryd.f4.params.toList args.toList ds p := hA0
  rw [Tryd.params4] at hA hval hsz
  obtain ⟨v0, vs0, d0, ds0, p0, q0, hargs, rfl, rfl, h0, r0⟩ := trodAll_cons hA
  obtain ⟨v1, vs1, d1, ds1, p1, q1, rfl, rfl, rfl, h1, r1⟩ := trodAll_cons r0
  obtain ⟨rfl, rfl, rfl⟩ := trodAll_nil r1
  obtain rfl : args = #[v0, v1] := by cases args; simp_all
  have hV2 := hV
  obtain ⟨_, _, _, _, gd, _, rfl, _, _, _, _, _⟩ := trodVars_one hV
  have k0 := h0
  have lt0 : ∀ x ∈ p0, x.block < W.heap.size := by obtain ⟨m, hm⟩ := k0; exact DataW.trod_lt m _ _ _ hm
  obtain ⟨a0, len0, cap0, rfl⟩ := okWide_slice Tryd.underlying22 (hval 0 22 v0 rfl rfl)
  obtain ⟨l0, hl0, hc0, hr0, hw0⟩ := Opens.open_row k42 (Q := fun x => (Lit.int .i64 x.f0).wf = true ∧ (Lit.int .i64 x.f1).wf = true ∧ (Lit.int .i64 x.f2).wf = true ∧ (Lit.int .i64 x.f3).wf = true ∧ (Lit.int .i64 x.f4).wf = true) (e := 42) Tryd.underlying22 (by kernel_rfl) (fun _ _ _ h => by obtain ⟨x0, x1, x2, x3, x4, rfl, hw⟩ := open_42 h; exact ⟨⟨x0, x1, x2, x3, x4⟩, k42_mk _ _, hw⟩) h0
  have y0 : len0 * 40 ≤ 140737488351232 := Opens.sized_row hsz (j := 0) (t := 22) rfl rfl Tryd.underlying22 (by kernel_rfl) h0
  subst hl0
  obtain ⟨a1, rfl, rfl, rfl, w1⟩ := open_int Tryd.underlying3 (hval 1 3 v1 rfl rfl) h1
  clear hA0 hval0 hsz0 hsz
  obtain ⟨k, hk⟩ := Pure.FnExactAdjustAxis l0 a1 y0 hw0 w1
  refine (laws_FnExactAdjustAxis.calls k _ _ l0 a1 true W hr0 hc0 hk (LaidT.of_laid hL)).mono fun e W' ⟨he, hb⟩ => ?_
  have bel : Below W.heap.size W W' := hb
  subst he
  exact ⟨_, rfl, _, _, _, [], _, _, hW', trodAll_mk1 (shut_bool Tryd.underlying4 _), (trodAll_cons_mk (Below.trod laidOut (by kernel_rfl) (of_decide_eq_true (by kernel_rfl)) k0 bel lt0) (trodAll_cons_mk (shut_int Tryd.underlying3 w1) trodAll_mk0)), Below.trodVars laidOut bel (by kernel_rfl) hV2, bel.frame _, fun h => by cases h⟩
theorem over : Rows.fnExactAdjustAxisRow.holds Tryd.pinned (OpenSpec.ofChange Rows.fnExactAdjustAxisSpec) :=
  OpenClaim.holds_of_wide 4 Tryd.f4 rfl rfl rfl rfl rfl rfl rfl ⟨rfl, rfl, rfl, rfl, rfl⟩ rfl rfl rfl rfl rfl (by kernel_rfl) Tryd.func4 (by kernel_rfl)
    (of_decide_eq_true (by kernel_rfl)) (by unfold Func.isWrapper; first | (rw [if_pos (by decide +kernel)]; kernel_rfl) | (rw [if_neg (by decide +kernel)]; exact ⟨rfl, rfl⟩))
    (fun os started H enc _ => lifted os started H enc)
theorem proved : Rows.FnExactAdjustAxisSaid := over
theorem card_holds : Rows.FnExactAdjustAxisCardSaid :=
  Claim7.holds_tied_plain_at .later [] [.data] true (true, "2a1488de45d53d4053078259442d334a7a51650e156427b65766a65846706ff2") false
    over (fun _ h => by cases h) (by kernel_rfl) (fun _ h => by cases h) fnExactAdjustAxis_row_tie rfl ⟨rfl, rfl⟩ (by kernel_rfl) rfl
    (fun f fn hf hfn => by
      obtain rfl : f = 4 := Option.some.inj ((show Tryd.prog.funcNamed "loop.example/g00933/laws.FnExactAdjustAxis" = some 4 by kernel_rfl).symm.trans hf) |>.symm
      obtain rfl : fn = Tryd.f4 := (Option.some.inj (Tryd.func4.symm.trans hfn)).symm
      exact ⟨by kernel_rfl, fun j t ht => by
        rw [Tryd.params4] at ht
        have hm : t ∈ [22, 3] := by simpa using Array.mem_of_getElem? ht
        have hall : ([22, 3].all fun u => !Tryd.prog.wantsStandIn u) = true := by kernel_rfl
        exact (show Tryd.prog.wantsStandIn t = false by simpa using List.all_eq_true.1 hall t hm)⟩)
    (by kernel_rfl)
#print axioms card_holds
end Go.Proofs.YtdkdcmajkdiliaaDoor.fnExactAdjustAxis
namespace Go.Proofs.YtdkdcmajkdiliaaDoor
/-- The row, under a short name, for the claim. -/
theorem fnExactAdjustAxis_holds : Rows.FnExactAdjustAxisCardSaid := fnExactAdjustAxis.card_holds
end Go.Proofs.YtdkdcmajkdiliaaDoor
