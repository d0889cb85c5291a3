/- The row of the law FnExactStrainAfter: whatever the input, it returns true; its arguments read as they did. No conditions. -/
import Derived.Test.YtpojnobgijoddaaDoorCards
import Derived.Test.YtpojnobgijoddaaDoorTie
import Derived.OpenVars
import Derived.ChangeVars
import Derived.SevenTiedAt
import Derived.ShutString
import Derived.ChangeOld
import Derived.Test.YtpojnobgijoddaaDoorKFnExactStrainAfterU7
set_option linter.unusedVariables false
namespace Go.Proofs.YtpojnobgijoddaaDoor.fnExactStrainAfter
open Go.ChangeShapes Go.WideShapes Go.ChangeAt Go.RowKit
open Go.ChangeMaps (open_string shut_string)
open A YtpojnobgijoddaaDoorW.PrintWords Opens
theorem own : ownKnob Tryd.prog.godebug = none := by kernel_rfl
theorem laidOut : laidOutB Tryd.prog = true := by kernel_rfl
theorem open_47 {H : Type} {enc : TypeId × Value → H} {w : World} {base : Nat} {spare : Nat → Bool} {held : Bool} {n : Nat} {cs : List Value} {y : DataW H × List MemPlace} (h : DataW.trod enc Tryd.prog w base spare held n 47 cs = some y) : ∃ (x0 : Int) (x1 : Int) (x2 : Int) (x3 : Int) (x4 : Int), cs = [.int .i64 x0, .int .i64 x1, .int .i64 x2, .int .i64 x3, .int .i64 x4] ∧ (Lit.int .i64 x0).wf = true ∧ (Lit.int .i64 x1).wf = true ∧ (Lit.int .i64 x2).wf = true ∧ (Lit.int .i64 x3).wf = true ∧ (Lit.int .i64 x4).wf = true := by
 obtain ⟨ys, n', _, _, hlen, hys, hf⟩ := DataW.trod_struct Tryd.underlying47 h
 replace hlen : cs.length = 5 := hlen.trans qz6
 replace hys : ys.length = 5 := hys.trans qz6
 clear h
 obtain ⟨c0, c1, c2, c3, c4, rfl⟩ := len5 hlen
 obtain ⟨y0, y1, y2, y3, y4, rfl⟩ := len5 hys
 have h0 : DataW.trod enc Tryd.prog w base spare held n' 3 [c0] = some y0 := one_field (c := 1) (o := 0) rfl qz6 (hf 0 _ rfl)
 obtain ⟨x0, e0, _, w0⟩ := DataW.trod_int Tryd.underlying3 h0
 obtain rfl : c0 = _ := (List.cons.inj e0).1
 have h1 : DataW.trod enc Tryd.prog w base spare held n' 3 [c1] = some y1 := one_field (c := 1) (o := 1) rfl qz6 (hf 1 _ rfl)
 obtain ⟨x1, e1, _, w1⟩ := DataW.trod_int Tryd.underlying3 h1
 obtain rfl : c1 = _ := (List.cons.inj e1).1
 have h2 : DataW.trod enc Tryd.prog w base spare held n' 3 [c2] = some y2 := one_field (c := 1) (o := 2) rfl qz6 (hf 2 _ rfl)
 obtain ⟨x2, e2, _, w2⟩ := DataW.trod_int Tryd.underlying3 h2
 obtain rfl : c2 = _ := (List.cons.inj e2).1
 have h3 : DataW.trod enc Tryd.prog w base spare held n' 3 [c3] = some y3 := one_field (c := 1) (o := 3) rfl qz6 (hf 3 _ rfl)
 obtain ⟨x3, e3, _, w3⟩ := DataW.trod_int Tryd.underlying3 h3
 obtain rfl : c3 = _ := (List.cons.inj e3).1
 have h4 : DataW.trod enc Tryd.prog w base spare held n' 3 [c4] = some y4 := one_field (c := 1) (o := 4) rfl qz6 (hf 4 _ rfl)
 obtain ⟨x4, e4, _, w4⟩ := DataW.trod_int Tryd.underlying3 h4
 obtain rfl : c4 = _ := (List.cons.inj e4).1
 exact ⟨x0, x1, x2, x3, x4, rfl, w0, w1, w2, w3, w4⟩
set_option maxRecDepth 100000 in
theorem lifted (os : Os) (started : os.Started) (H : Type) (enc : TypeId × Value → H) :
  ReturnsInHanded {} Tryd.checked os 5 .any (fun w args => (Rows.fnExactStrainAfterSpec.pre enc Tryd.prog Tryd.f5 [] false w args ∧ laidMetH Tryd.prog LaidT.list w) ∧ sizedMet enc Tryd.prog Tryd.f5 (OpenSpec.ofChange Rows.fnExactStrainAfterSpec) false w args) (Rows.fnExactStrainAfterSpec.post enc Tryd.prog Tryd.f5 false true false false) := by
 refine returnsInHanded_of_change_and (C := Tryd.checked) (X := fun w _ => laidMetH Tryd.prog LaidT.list w) (fun _ _ _ hh h => h.of_heap hh) own started qz6 Tryd.func5
  (ChangeSpec.witness_shaped (enc := enc) (C := Tryd.checked) (os := os) (X := fun w _ => laidMetH Tryd.prog LaidT.list w) false (World.doorLaid Tryd.prog 400 os) #[.slice none 0 0, .int .i64 0, .int .i64 0] 8 rfl (World.shaped_of_RefB qz6 qz6) qz6 qz6 qz6 (LaidT.door_met os _)) ?_
 intro W base args ds gs before hval0 hW hcnd hsz0 hL _
 have hsz : (DataW.weightsEach Tryd.prog (Tryd.f5.params.toList ++ Rows.fnExactStrainAfterSpec.plain.varTypes Tryd.prog) (ds ++ gs)).all (· ≤ reachBytes) = true := hsz0
 have hval : ∀ (j : Nat) t v, Tryd.f5.params[j]? = some t → args[j]? = some v → Value.okWide Tryd.prog W .any base t v := hval0
 have hW' := hW
 obtain ⟨p, q, hA0, hV, rfl, hfz, hnd⟩ := hW
 have hA : DataW.TrodAll enc Tryd.prog W 0 (fun _ => true) true Tryd.f5.params.toList args.toList ds p := hA0
 rw [Tryd.params5] at hA hval hsz
 obtain ⟨v0, vs0, d0, ds0, p0, q0, hargs, rfl, rfl, h0, r0⟩ := trodAll_cons hA
 obtain ⟨v1, vs1, d1, ds1, p1, q1, rfl, rfl, rfl, h1, r1⟩ := trodAll_cons r0
 obtain ⟨v2, vs2, d2, ds2, p2, q2, rfl, rfl, rfl, h2, r2⟩ := trodAll_cons r1
 obtain ⟨rfl, rfl, rfl⟩ := trodAll_nil r2
 obtain rfl : args = #[v0, v1, v2] := by cases args; simp_all
 have hV2 := hV
 obtain ⟨_, _, _, _, gd, _, rfl, _, _, _, _, _⟩ := trodVars_one hV
 have k0 := h0
 have lt0 : ∀ x ∈ p0, x.block < W.heap.size := by obtain ⟨m, hm⟩ := k0; exact DataW.trod_lt m _ _ _ hm
 obtain ⟨a0, len0, cap0, rfl⟩ := okWide_slice Tryd.underlying22 (hval 0 22 v0 rfl rfl)
 obtain ⟨l0, hl0, hc0, hr0, hw0⟩ := Opens.open_row k47 (Q := fun x => (Lit.int .i64 x.f0).wf = true ∧ (Lit.int .i64 x.f1).wf = true ∧ (Lit.int .i64 x.f2).wf = true ∧ (Lit.int .i64 x.f3).wf = true ∧ (Lit.int .i64 x.f4).wf = true) (e := 47) Tryd.underlying22 qz6 (fun _ _ _ h => by obtain ⟨x0, x1, x2, x3, x4, rfl, hw⟩ := open_47 h; exact ⟨⟨x0, x1, x2, x3, x4⟩, k47_mk _ _, hw⟩) h0
 have y0 : len0 * 40 ≤ 140737488351232 := Opens.sized_row hsz (j := 0) (t := 22) rfl rfl Tryd.underlying22 qz6 h0
 subst hl0
 obtain ⟨a1, rfl, rfl, rfl, w1⟩ := open_int Tryd.underlying3 (hval 1 3 v1 rfl rfl) h1
 obtain ⟨a2, rfl, rfl, rfl, w2⟩ := open_int Tryd.underlying3 (hval 2 3 v2 rfl rfl) h2
 clear hA0 hval0 hsz0 hsz
 obtain ⟨k, hk⟩ := Pure.FnExactStrainAfter l0 a1 a2 y0 hw0 w1 w2
 refine (laws_FnExactStrainAfter.calls k _ _ l0 a1 a2 true W hr0 hc0 hk (LaidT.of_laid hL)).mono fun e W' ⟨he, hb⟩ => ?_
 have bel : Below W.heap.size W W' := hb
 subst he
 exact ⟨_, rfl, _, _, _, [], _, _, hW', trodAll_mk1 (shut_bool Tryd.underlying4 _), (trodAll_cons_mk (Below.trod laidOut qz6 (of_decide_eq_true qz6) k0 bel lt0) (trodAll_cons_mk (shut_int Tryd.underlying3 w1) (trodAll_cons_mk (shut_int Tryd.underlying3 w2) trodAll_mk0))), Below.trodVars laidOut bel qz6 hV2, bel.frame _, fun h => by cases h⟩
theorem over : Rows.fnExactStrainAfterRow.holds Tryd.pinned (OpenSpec.ofChange Rows.fnExactStrainAfterSpec) :=
 OpenClaim.holds_of_wide 5 Tryd.f5 rfl rfl rfl rfl rfl rfl rfl ⟨rfl, rfl, rfl, rfl, rfl⟩ rfl rfl rfl rfl rfl qz6 Tryd.func5 qz6
  (of_decide_eq_true qz6) (by unfold Func.isWrapper; first | (rw [if_pos (by decide +kernel)]; kernel_rfl) | (rw [if_neg (by decide +kernel)]; exact ⟨rfl, rfl⟩))
  (fun os started H enc _ => lifted os started H enc)
theorem proved : Rows.FnExactStrainAfterSaid := over
theorem card_holds : Rows.FnExactStrainAfterCardSaid :=
 Claim7.holds_tied_plain_at .later [] [.data] true (true, "f35521ca9b23a7300210d85882e5526660475bb4885cbb0315ff34c42be0a49d") false
  over (fun _ h => by cases h) qz6 (fun _ h => by cases h) fnExactStrainAfter_row_tie rfl ⟨rfl, rfl⟩ qz6 rfl
  (fun f fn hf hfn => by
   obtain rfl : f = 5 := Option.some.inj ((show Tryd.prog.funcNamed "loop.example/g00933/laws.FnExactStrainAfter" = some 5 by kernel_rfl).symm.trans hf) |>.symm
   obtain rfl : fn = Tryd.f5 := (Option.some.inj (Tryd.func5.symm.trans hfn)).symm
   exact ⟨by kernel_rfl, fun j t ht => by
    rw [Tryd.params5] at ht
    have hm : t ∈ [22, 3, 3] := by simpa using Array.mem_of_getElem? ht
    have hall : ([22, 3, 3].all fun u => !Tryd.prog.wantsStandIn u) = true := by kernel_rfl
    exact (show Tryd.prog.wantsStandIn t = false by simpa using List.all_eq_true.1 hall t hm)⟩)
  qz6
#print axioms card_holds
end Go.Proofs.YtpojnobgijoddaaDoor.fnExactStrainAfter
namespace Go.Proofs.YtpojnobgijoddaaDoor
theorem fnExactStrainAfter_holds : Rows.FnExactStrainAfterCardSaid := fnExactStrainAfter.card_holds
end Go.Proofs.YtpojnobgijoddaaDoor
