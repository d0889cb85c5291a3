/- The row of the law FnExactIsEntry: whatever the input, it returns true; its arguments read as they did. No conditions. -/
import Derived.Test.YtmnjgbhgppopfaaRows
import Derived.Test.YtmnjgbhgppopfaaA5
import Derived.Test.YtmnjgbhgppopfaaPureFnExactIsEntry
import Derived.Test.YtmnjgbhgppopfaaOpen
import Derived.WalkKit
import Derived.ProofKit
import Derived.OpenShut
import Derived.ShutString
import Derived.ChangeOld
import Derived.Below
import Derived.SizedLaws
namespace Go.Proofs.Ytmnjgbhgppopfaa.fnExactIsEntry
open Go.ChangeShapes Go.WideShapes Go.ChangeAt Go.RowKit
open Go.ChangeMaps (open_string shut_string)
open Go.Proofs.Ytmnjgbhgppopfaa.A Go.Proofs.YtmnjgbhgppopfaaW.PrintWords Go.Proofs.Ytmnjgbhgppopfaa.Opens
set_option linter.unusedVariables false
theorem own : ownKnob Try.prog.godebug = none := by kernel_rfl
theorem laidOut : laidOutB Try.prog = true := by kernel_rfl
theorem open_23 {H : Type} {enc : TypeId × Value → H} {w : World} {base : Nat} {spare : Nat → Bool} {held : Bool} {n : Nat} {cs : List Value} {y : DataW H × List MemPlace} (h : DataW.trod enc Try.prog w base spare held n 23 cs = some y) : ∃ (x0 : Int) (x1 : Int) (x2 : Int) (x3 : Int) (x4 : Int) (x5 : Bool), cs = [.int .i64 x0, .int .i64 x1, .int .i64 x2, .int .i64 x3, .int .i64 x4, .bool x5] ∧ (Lit.int .i64 x0).wf = true ∧ (Lit.int .i64 x1).wf = true ∧ (Lit.int .i64 x2).wf = true ∧ (Lit.int .i64 x3).wf = true ∧ (Lit.int .i64 x4).wf = true := by
  obtain ⟨ys, n', _, _, hlen, hys, hf⟩ := DataW.trod_struct Try.underlying23 h
  replace hlen : cs.length = 6 := hlen.trans (by kernel_rfl)
  replace hys : ys.length = 6 := hys
  match cs, hlen, ys, hys with
  | [c0, c1, c2, c3, c4, c5], _, [y0, y1, y2, y3, y4, y5], _ =>
    have h0 : DataW.trod enc Try.prog w base spare held n' 3 [c0] = some y0 := one_field (c := 1) (o := 0) rfl (by kernel_rfl) (hf 0 _ rfl)
    obtain ⟨x0, e0, _, w0⟩ := DataW.trod_int Try.underlying3 h0
    obtain rfl : c0 = _ := (List.cons.inj e0).1
    have h1 : DataW.trod enc Try.prog w base spare held n' 3 [c1] = some y1 := one_field (c := 1) (o := 1) rfl (by kernel_rfl) (hf 1 _ rfl)
    obtain ⟨x1, e1, _, w1⟩ := DataW.trod_int Try.underlying3 h1
    obtain rfl : c1 = _ := (List.cons.inj e1).1
    have h2 : DataW.trod enc Try.prog w base spare held n' 3 [c2] = some y2 := one_field (c := 1) (o := 2) rfl (by kernel_rfl) (hf 2 _ rfl)
    obtain ⟨x2, e2, _, w2⟩ := DataW.trod_int Try.underlying3 h2
    obtain rfl : c2 = _ := (List.cons.inj e2).1
    have h3 : DataW.trod enc Try.prog w base spare held n' 3 [c3] = some y3 := one_field (c := 1) (o := 3) rfl (by kernel_rfl) (hf 3 _ rfl)
    obtain ⟨x3, e3, _, w3⟩ := DataW.trod_int Try.underlying3 h3
    obtain rfl : c3 = _ := (List.cons.inj e3).1
    have h4 : DataW.trod enc Try.prog w base spare held n' 3 [c4] = some y4 := one_field (c := 1) (o := 4) rfl (by kernel_rfl) (hf 4 _ rfl)
    obtain ⟨x4, e4, _, w4⟩ := DataW.trod_int Try.underlying3 h4
    obtain rfl : c4 = _ := (List.cons.inj e4).1
    have h5 : DataW.trod enc Try.prog w base spare held n' 4 [c5] = some y5 := one_field (c := 1) (o := 5) rfl (by kernel_rfl) (hf 5 _ rfl)
    obtain ⟨x5, e5, _⟩ := DataW.trod_bool Try.underlying4 h5
    obtain rfl : c5 = _ := (List.cons.inj e5).1
    exact ⟨x0, x1, x2, x3, x4, x5, rfl, w0, w1, w2, w3, w4⟩
set_option maxRecDepth 100000 in
theorem lifted (os : Os) (started : os.Started) (H : Type) (enc : TypeId × Value → H) :
    ReturnsInHanded {} Try.checked os 3 .any (Rows.fnExactIsEntrySpec.pre6 enc Try.prog Try.f3 Rows.fnExactIsEntryRow.domain false) (Rows.fnExactIsEntrySpec.post enc Try.prog Try.f3 false true false false) := by
  refine returnsInHanded_of_change_sized (C := Try.checked) own started (by kernel_rfl) Try.func3
    (ChangeSpec.witness6 (enc := enc) (C := Try.checked) false ⟨#[], #[.agg #[.int .i64 0, .int .i64 0, .int .i64 0, .int .i64 0, .int .i64 0, .bool false]], []⟩ 8 (by kernel_rfl) (by kernel_rfl) (by kernel_rfl) (by kernel_rfl)) ?_
  intro W base args ds gs before hval0 hW hcnd hsz0 _
  have hsz : (DataW.weightsEach Try.prog (Try.f3.params.toList ++ Rows.fnExactIsEntrySpec.plain.varTypes Try.prog) (ds ++ gs)).all (· ≤ reachBytes) = true := hsz0
  have hval : ∀ (j : Nat) t v, Try.f3.params[j]? = some t → args[j]? = some v → Value.okWide Try.prog W .any base t v := hval0
  have hW' := hW
  obtain ⟨p, q, hA0, hV, rfl, hfz, hnd⟩ := hW
  have hA : DataW.TrodAll enc Try.prog W 0 (fun _ => true) true Try.f3.params.toList args.toList ds p := hA0
  rw [Try.params3] at hA hval hsz
  obtain ⟨v0, vs0, d0, ds0, p0, q0, hargs, rfl, rfl, h0, r0⟩ := trodAll_cons hA
  obtain ⟨rfl, rfl, rfl⟩ := trodAll_nil r0
  obtain rfl : args = #[v0] := by cases args; simp_all
  obtain ⟨rfl, rfl⟩ := trodVars_none hV
  have k0 := h0
  have lt0 : ∀ x ∈ p0, x.block < W.heap.size := by obtain ⟨m, hm⟩ := k0; exact DataW.trod_lt m _ _ _ hm
  obtain ⟨cs0, rfl, _⟩ := okWide_struct Try.underlying23 (hval 0 23 v0 rfl rfl)
  obtain ⟨a0_0, a0_1, a0_2, a0_3, a0_4, a0_5, e0, w0⟩ : ∃ (x0 : Int) (x1 : Int) (x2 : Int) (x3 : Int) (x4 : Int) (x5 : Bool), cs0 = #[.int .i64 x0, .int .i64 x1, .int .i64 x2, .int .i64 x3, .int .i64 x4, .bool x5] ∧ (Lit.int .i64 x0).wf = true ∧ (Lit.int .i64 x1).wf = true ∧ (Lit.int .i64 x2).wf = true ∧ (Lit.int .i64 x3).wf = true ∧ (Lit.int .i64 x4).wf = true := by
    obtain ⟨fuel, hf⟩ := h0
    obtain ⟨x0, x1, x2, x3, x4, x5, hcs, hw⟩ := open_23 hf
    exact ⟨x0, x1, x2, x3, x4, x5, by obtain ⟨l⟩ := cs0; exact congrArg List.toArray hcs, hw⟩
  subst e0
  clear hA0 hval0 hsz0 hsz
  have hk := Pure.FnExactIsEntry a0_0 a0_1 a0_2 a0_3 a0_4 a0_5 w0
  refine (laws_FnExactIsEntry.calls a0_0 a0_1 a0_2 a0_3 a0_4 a0_5 true W  hk).mono fun e W' ⟨he, hb⟩ => ?_
  have bel : Below W.heap.size W W' := hb
  subst he
  exact ⟨_, rfl, _, _, _, [], _, [], hW', trodAll_mk1 (shut_bool Try.underlying4 _), (trodAll_cons_mk (Below.trod laidOut (by kernel_rfl) (of_decide_eq_true (by kernel_rfl)) k0 bel lt0) trodAll_mk0), rfl, bel.frame _, fun h => by cases h⟩
theorem over : Rows.fnExactIsEntryRow.holds Try.pinned (OpenSpec.ofChange Rows.fnExactIsEntrySpec) :=
  OpenClaim.holds_of_wide 3 Try.f3 rfl rfl rfl rfl rfl rfl rfl ⟨rfl, rfl, rfl, rfl, rfl⟩ rfl rfl rfl rfl rfl (by kernel_rfl) Try.func3 (by kernel_rfl)
    (of_decide_eq_true (by kernel_rfl)) (by unfold Func.isWrapper; first | (rw [if_pos (by decide +kernel)]; kernel_rfl) | (rw [if_neg (by decide +kernel)]; exact ⟨rfl, rfl⟩))
    (fun os started H enc _ => lifted os started H enc)
theorem proved : Rows.FnExactIsEntrySaid := over
#print axioms proved
end Go.Proofs.Ytmnjgbhgppopfaa.fnExactIsEntry
namespace Go.Proofs.Ytmnjgbhgppopfaa
/-- The row, under a short name, for the claim. -/
theorem fnExactIsEntry_holds : Rows.FnExactIsEntrySaid := fnExactIsEntry.proved
end Go.Proofs.Ytmnjgbhgppopfaa
