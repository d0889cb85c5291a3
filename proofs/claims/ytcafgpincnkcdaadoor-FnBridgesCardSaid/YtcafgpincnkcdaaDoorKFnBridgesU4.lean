/- Legs that are drawn: the drawing ends. -/
import Derived.Test.YtcafgpincnkcdaaDoorKFnBridgesU3
set_option maxHeartbeats 40000000
set_option maxRecDepth 100000
set_option linter.unusedSimpArgs false
set_option linter.unusedVariables false
namespace Go.Proofs.YtcafgpincnkcdaaDoor.A
open Go.RowKit YtcafgpincnkcdaaDoorW.PrintWords YtcafgpincnkcdaaDoorW.PrintLast YtcafgpincnkcdaaDoorW.PrintMore
open Net
def impl_BridgesOf.f (l0 : List (S49)) : Option (List Int × Bool) := if l0.length ≤ 140737488351232 then some (if legsB l0 = true then (bridgesL l0, true) else ([], false)) else none
theorem impl_BridgesOf.calls (A0 : Option Addr) (c : Nat) (ls : List (S49)) (r1 : List Int) (r2 : Bool) (w : World) (hr0 : Kd.C k49 w A0 ls.length ls) (hc : ls.length ≤ c) (h : impl_BridgesOf.f ls = some (r1, r2)) (hL : Sine.Laid w) :
    Calls Tryd.prog 41 #[.slice A0 ls.length c] w fun e w' => ∃ v0_ : Value, e = .returned (.tuple #[v0_, .bool r2]) ∧ Kd.R (Kd.int .i64) 3 w' w.heap.size (fun _ => True) v0_ r1 ∧ Below w.heap.size w w' := by
  unfold impl_BridgesOf.f at h; by_cases hb : ls.length ≤ 140737488351232
  · rw [if_pos hb] at h
    obtain ⟨K, hK⟩ := areLegs_ev ls hb; have HA := ak (hK K (Nat.le_refl _)); have HR := ak hr0; have HL := ak hL; have HB := ak (Below.refl w.heap.size w); clear hK hr0 hL; cases hv : legsB ls
    · rw [if_neg (by rw [hv]; simp)] at h
      simp only [Option.some.injEq, Prod.mk.injEq] at h; obtain ⟨rfl, rfl⟩ := h; rw [hv] at HA; clear hv; go_enter Tryd.func41, Tryd.ntmps41; go_wp2_with (go_at_call 62; (with_reducible refine (impl_areLegs.calls K _ _ ls false _ ?s1 ?s2 HA.out).mono ?_); (case s1 => exact Kd.C_below HR.out qz11); (case s2 => exact hc); rintro e w' ⟨rfl, hw⟩; replace HB := ak (below_step (show Below w.heap.size w _ from by (repeat (first | exact HB.out | exact Below.refl _ _ | apply below_alloc | apply pw_below_drewN | apply below_drew1)); done) hw); clear hw); exact bodyPost_ret (v := .tuple #[.slice none 0 0, .bool false]) (by simp [results, Tryd.results41, go_sem]) rfl ⟨_, rfl, Kd.R_nil _ _ _ _ _, qz103⟩
    · rw [hv] at HA
      rw [if_pos hv] at h; simp only [Option.some.injEq, Prod.mk.injEq] at h; obtain ⟨rfl, rfl⟩ := h; have hv' := legsB_iff.mp hv; have HG := ak hv'.1; have hn := hv'.2; obtain ⟨pl, hpl⟩ : ∃ pl, pl = plcL ls (RR ls) ls.length := ⟨_, rfl⟩
      have HPL := ak (show pl.length ≤ 12 from by rw [hpl]; exact Nat.le_trans (selTo_len _ _) hn)
      have HMem : Aside0 (∀ j : Nat, (hj : j < pl.length) → ∃ k : Nat, pl[j] = (k : Int) ∧ k < ls.length) := ⟨fun j hj => by
        have hm : pl[j] ∈ plcL ls (RR ls) ls.length := by rw [← hpl]; exact List.getElem_mem hj
        obtain ⟨k, h1, h2, _⟩ := (mem_selTo _ _ _).mp hm
        exact ⟨k, h1, h2⟩⟩
      have HRS := ak (show bridgesL ls = brL ls (pl.take pl.length) from by rw [List.take_length, hpl]; rfl); have HPE := ak hpl; clear hv hv' hpl; go_enter Tryd.func41, Tryd.ntmps41
      go_wp2_with (first
        | (go_at_call 62; (with_reducible refine (impl_areLegs.calls K _ _ ls true _ ?s1 ?s2 HA.out).mono ?_); (case s1 => exact Kd.C_below HR.out qz11); (case s2 => exact hc); rintro e w' ⟨rfl, hw⟩; replace HB := ak (below_step (show Below w.heap.size w _ from by (repeat (first | exact HB.out | exact Below.refl _ _ | apply below_alloc | apply pw_below_drewN | apply below_drew1)); done) hw); clear hw)
        | ((go_at_call 63; (with_reducible refine (place _ c ls _ ?s1 ?s2 hc hn HG.out (RR ls) rfl).mono ?_); (case s1 => exact HL.out.keep qz11); (case s2 => exact Kd.C_below HR.out qz11); rintro e w' ⟨g, T, cl, rfl, hst, ho, hw⟩; have HO : Aside0 (Kd.R (Kd.int .i64) 3 w' w.heap.size (fun k => k ≠ g ∧ k ≠ T) cl (closeL ls)) := ⟨Kd.R_lower ho (below_size (show Below w.heap.size w _ from by (repeat (first | exact HB.out | exact Below.refl _ _ | apply below_alloc | apply pw_below_drewN | apply below_drew1)); done))⟩; replace HB := ak (below_step (show Below w.heap.size w _ from by (repeat (first | exact HB.out | exact Below.refl _ _ | apply below_alloc | apply pw_below_drewN | apply below_drew1)); done) hw); have HS := ak hst; clear hst ho hw; obtain ⟨cA, cC, ecl⟩ := Kd.R_slice HO.out; subst ecl))
        | (go_at_call 89; have hq := placedLegsW A0 c ls _ HS.out (World.block_lt_of_cell? _ _ HS.out.tc) HS.out.ge (Kd.C_below HR.out (show Below w.heap.size w _ from by (repeat (first | exact HB.out | exact Below.refl _ _ | apply below_alloc | apply pw_below_drewN | apply below_drew1)); done)) hc hn HG.out; (with_reducible refine hq.mono ?_); clear hq; rintro e w3 ⟨v, rfl, hv3, hw⟩; have hsz := below_size HB.out; rw [← HPE.out] at hv3; have HP := ak (Kd.R_mono (Kd.R_lower hv3 hsz) (ok' := fun _ => True) (fun _ _ => trivial)); replace HB := ak (below_step HB.out hw); clear hv3 hw HO HS; obtain ⟨pA, pC, ep⟩ := Kd.R_slice HP.out; subst ep))
      have hown : ∀ k, Value.ownBlock (Value.slice none 0 0) = some k → False := by intro k hk; simp [Value.ownBlock] at hk
      go_loopw [4, 15] (fun v4 v15 w' => ∃ (j : Nat), j ≤ pl.length ∧ v15 = .int .i64 j ∧ Aside0 (Kd.R (Kd.int .i64) 3 w' w.heap.size (fun k => some k ≠ (Value.slice pA pl.length pC).ownBlock) v4 (brL ls (pl.take j))) ∧ Aside0 (Kd.R (Kd.int .i64) 3 w' w.heap.size (fun k => True ∧ some k ≠ v4.ownBlock) (.slice pA pl.length pC) pl) ∧ Aside0 (Below w.heap.size w w')) (fun _ v15 _ => pl.length - (intOf v15).toNat)
      case atStart => exact ⟨0, Nat.zero_le _, rfl, ⟨(by rw [List.take_zero]; exact Kd.R_nil _ _ _ _ _)⟩, ⟨Kd.R_mono HP.out (fun k hk => ⟨trivial, fun e => hown k e.symm⟩)⟩, HB⟩
      case round =>
        obtain ⟨j, hj, rfl, HV, HC, HB2⟩ := hrel; clear HP HB hown; have HO := HC; have HB := HB2; clear HC HB2; obtain ⟨vA, vC, ev⟩ := Kd.R_slice HV.out; subst ev; by_cases hlt : j < pl.length
        · obtain ⟨ad, e1, h1⟩ := Kd.at_int (Kd.R_reads' HO.out).2.2 (j : Int) (by omega) (by omega)
          subst e1; rw [rd_at _ j hlt, Int.toNat_natCast] at h1; obtain ⟨k, hk1, hk2⟩ := HMem.out j hlt
          have HE : Aside0 (brL ls (pl.take (j + 1)) = if bridgeB ls pl[j] = true then brL ls (pl.take j) ++ [pl[j]] else brL ls (pl.take j)) := ⟨by
            rw [List.take_succ_eq_append_getElem hlt]; unfold brL; rw [List.filter_append]; split
            · rename_i h; rw [List.filter_cons_of_pos qz127, List.filter_nil]
            · rename_i h; rw [List.filter_cons_of_neg qz127, List.filter_nil, List.append_nil]⟩
          have HTL : Aside0 ((brL ls (pl.take j)).length ≤ 12) := ⟨by
            unfold brL
            exact Nat.le_trans (List.length_filter_le _ _) (by rw [List.length_take]; have := HPL.out; omega)⟩
          rw [hk1] at HE h1; clear hk1; have hpl := HPL.out; obtain ⟨bb, hbb⟩ : ∃ bb, bb = bridgeB ls k := ⟨_, rfl⟩
          rw [← hbb] at HE; have HBB := ak hbb; clear hbb; cases bb
          · rw [if_neg (by decide)] at HE
            go_wp2_with (go_at_call 85; have hq := isBridgeW _ c ls k _ (Kd.C_below HR.out (show Below w.heap.size w _ from by (repeat (first | exact HB.out | exact Below.refl _ _ | apply below_alloc | apply pw_below_drewN | apply below_drew1)); done)) hc hn HG.out hk2; (with_reducible refine hq.mono ?_); clear hq; rw [← HBB.out]; rintro e w' ⟨rfl, hw⟩; replace HV := ak (Kd.R_below HV.out hw); replace HO := ak (Kd.R_below HO.out hw); replace HB := ak (below_step HB.out hw); clear hw); exact ⟨⟨j + 1, hlt, by go_num, (by rw [HE.out]; exact HV), HO, HB⟩, qz69⟩
          · rw [if_pos rfl] at HE
            go_wp2_with (first
              | (go_at_call 85; have hq := isBridgeW _ c ls k _ (Kd.C_below HR.out (show Below w.heap.size w _ from by (repeat (first | exact HB.out | exact Below.refl _ _ | apply below_alloc | apply pw_below_drewN | apply below_drew1)); done)) hc hn HG.out hk2; (with_reducible refine hq.mono ?_); clear hq; rw [← HBB.out]; rintro e w' ⟨rfl, hw⟩; replace HV := ak (Kd.R_below HV.out hw); replace HO := ak (Kd.R_below HO.out hw); replace HB := ak (below_step HB.out hw); clear hw)
              | ((with_reducible refine gate_builtin (b := .append) (xs := #[.tmp 22, .tmp 24]) rfl ?_); at_builtin; refine Kd.R_append (Kd.int .i64) (w0 := w) w.heap.size rfl (.tmp 22) (.tmp 24) 26 3 (.int .i64 0) 8 rfl Tryd.underlying26 info3 rfl (by decide) (by omega) (.slice vA (brL ls (pl.take j)).length vC) (brL ls (pl.take j)) (k : Int) [.int .i64 (k : Int)] (fun k => some k ≠ (Value.slice (some ad) pl.length pC).ownBlock) (fun _ => False) rfl rfl ?aP (fun _ hk => hk.elim) ?aF ?aO ?aB ?aS ?aL ?_; (case aP => exact rfl); (case aF => exact (by intro b hb; exact Kd.fresh' (Kd.R_lt HO.out) b hb)); (case aO => exact HV.out); (case aB => exact HB.out); (case aS => exact below_size HB.out); (case aL => have := HTL.out; omega)
                 intro v7_ w7_ ho hb hg hat; have HP1 := ak (Kd.R_after (ok := fun _ => True) HO.out hg hat); have HP2 := ak ho
                 have HP3 := ak hb))
            exact ⟨⟨j + 1, hlt, by go_num, (by rw [HE.out]; exact HP2), HP1, HP3⟩, qz69⟩
        · go_wp2
          obtain rfl : j = pl.length := by omega
          exact bodyPost_ret (v := .tuple #[.slice vA (brL ls (pl.take pl.length)).length vC, .bool true]) (by simp [results, Tryd.results41, go_sem]) rfl ⟨_, rfl, (by rw [HRS.out]; exact Kd.R_mono HV.out (fun _ _ => trivial)), HB.out⟩
  · rw [if_neg hb] at h
    cases h
end Go.Proofs.YtcafgpincnkcdaaDoor.A
namespace Go.Proofs.YtcafgpincnkcdaaDoor.A
open Go.RowKit YtcafgpincnkcdaaDoorW.PrintWords YtcafgpincnkcdaaDoorW.PrintLast YtcafgpincnkcdaaDoorW.PrintMore
open Net Plain
def impl_ClosingLegs.f (l0 : List (S49)) : Option (List Int × Bool) := if l0.length ≤ 140737488351232 then some (if legsB l0 = true then (closeL l0, true) else ([], false)) else none
theorem impl_ClosingLegs.calls (A0 : Option Addr) (c : Nat) (ls : List (S49)) (r1 : List Int) (r2 : Bool) (w : World) (hr0 : Kd.C k49 w A0 ls.length ls) (hc : ls.length ≤ c) (h : impl_ClosingLegs.f ls = some (r1, r2)) (hL : Sine.Laid w) :
    Calls Tryd.prog 11 #[.slice A0 ls.length c] w fun e w' => ∃ v0_ : Value, e = .returned (.tuple #[v0_, .bool r2]) ∧ Kd.R (Kd.int .i64) 3 w' w.heap.size (fun _ => True) v0_ r1 ∧ Below w.heap.size w w' := by
  unfold impl_ClosingLegs.f at h; by_cases hb : ls.length ≤ 140737488351232
  · rw [if_pos hb] at h
    obtain ⟨K, hK⟩ := areLegs_ev ls hb; have HA := ak (hK K (Nat.le_refl _)); have HR := ak hr0; have HL := ak hL; have HB := ak (Below.refl w.heap.size w); clear hK hr0 hL; by_cases hv : legsB ls = true
    · rw [if_pos hv] at h
      obtain ⟨rfl, rfl⟩ := Prod.mk.inj (Option.some.inj h); rw [hv] at HA; have hv' := legsB_iff.mp hv; have HG := ak hv'.1; have hn := hv'.2; clear h hv hv'; go_enter Tryd.func11, Tryd.ntmps11
      go_wp2_with (first
        | (go_at_call 62; (with_reducible refine (impl_areLegs.calls K _ _ ls true _ ?s1 ?s2 HA.out).mono ?_); (case s1 => exact Kd.C_below HR.out qz11); (case s2 => exact hc); rintro e w' ⟨rfl, hw⟩; replace HB := ak (below_step (show Below w.heap.size w _ from by (repeat (first | exact HB.out | exact Below.refl _ _ | apply below_alloc | apply pw_below_drewN | apply below_drew1)); done) hw); clear hw)
        | ((go_at_call 63; (with_reducible refine (place _ c ls _ ?s1 ?s2 hc hn HG.out (RR ls) rfl).mono ?_); (case s1 => exact HL.out.keep qz11); (case s2 => exact Kd.C_below HR.out qz11); rintro e w' ⟨g, T, cl, rfl, hst, ho, hw⟩; have HO : Aside0 (Kd.R (Kd.int .i64) 3 w' w.heap.size (fun k => k ≠ g ∧ k ≠ T) cl (closeL ls)) := ⟨Kd.R_lower ho (below_size (show Below w.heap.size w _ from by (repeat (first | exact HB.out | exact Below.refl _ _ | apply below_alloc | apply pw_below_drewN | apply below_drew1)); done))⟩; replace HB := ak (below_step (show Below w.heap.size w _ from by (repeat (first | exact HB.out | exact Below.refl _ _ | apply below_alloc | apply pw_below_drewN | apply below_drew1)); done) hw); have HS := ak hst; clear hst ho hw; obtain ⟨cA, cC, ecl⟩ := Kd.R_slice HO.out; subst ecl); have cc := HS.out.cc))
      exact bodyPost_ret (v := .tuple #[.slice cA (closeL ls).length cC, .bool true]) (by simp [results, Tryd.results11, go_sem]) rfl ⟨_, rfl, Kd.R_mono (by repeat (first | exact HO.out | apply Kd.R_drewN | apply Kd.R_drew)) (fun k hk => trivial), qz11⟩
    · rw [if_neg hv] at h
      obtain ⟨rfl, rfl⟩ := Prod.mk.inj (Option.some.inj h); rw [Bool.eq_false_iff.mpr hv] at HA; clear h hv; go_enter Tryd.func11, Tryd.ntmps11; go_wp2_with (go_at_call 62; (with_reducible refine (impl_areLegs.calls K _ _ ls false _ ?s1 ?s2 HA.out).mono ?_); (case s1 => exact Kd.C_below HR.out qz11); (case s2 => exact hc); rintro e w' ⟨rfl, hw⟩; replace HB := ak (below_step (show Below w.heap.size w _ from by (repeat (first | exact HB.out | exact Below.refl _ _ | apply below_alloc | apply pw_below_drewN | apply below_drew1)); done) hw); clear hw); exact bodyPost_ret (v := .tuple #[.slice none 0 0, .bool false]) (by simp [results, Tryd.results11, go_sem]) rfl ⟨_, rfl, Kd.R_nil _ _ _ _ _, qz11⟩
  · rw [if_neg hb] at h
    cases h
end Go.Proofs.YtcafgpincnkcdaaDoor.A
namespace Go.Proofs.YtcafgpincnkcdaaDoor.A
open Go.Proofs.YtcafgpincnkcdaaDoor Go.RowKit YtcafgpincnkcdaaDoorW.PrintWords YtcafgpincnkcdaaDoorW.PrintLast YtcafgpincnkcdaaDoorW.PrintMore
attribute [local go_sem] max2_int min2_int max_two min_two max_three min_three max_four min_four
mutual
def laws_FnBridges.j0 : Nat → List Int → List (S49) → Int → Bool → Bool → Bool → Option (Bool)
 | 0, _, _, _, _, _, _ => none
 | k + 1, x0, x3, x4, x5, x6, x58 => if x58 = true then (some false) else (if x6 = true then ((impl_LoopsThrough.f x3 x4).bind fun bt813 => (if bt813.2 = true then (if (x5 != ((bt813.1.length : Int) == 0)) = true then (some false) else (laws_FnBridges.j1 k x0)) else (some false))) else (laws_FnBridges.j1 k x0))
def laws_FnBridges.j1 : Nat → List Int → Option (Bool)
 | 0, _ => none
 | k + 1, x0 => (spec_DrawBridgesOf.f k x0).bind fun t817 => ((impl_BridgesOf.f t817).bind fun bt820 => ((spec_BridgesOf.f k t817).bind fun bt824 => (if (bt820.2 != bt824.2) = true then (laws_FnBridges.j2 k x0 t817 bt820.1 true) else ((laws_vInts.f k bt820.1 bt824.1).bind fun t828 => (laws_FnBridges.j2 k x0 t817 bt820.1 (!t828))))))
def laws_FnBridges.j2 : Nat → List Int → List (S49) → List Int → Bool → Option (Bool)
 | 0, _, _, _, _ => none
 | k + 1, x0, x11, x12, x95 => if x95 = true then (some false) else (laws_FnBridges.l0 k x0 x11 x12 0)
def laws_FnBridges.l0 : Nat → List Int → List (S49) → List Int → Int → Option (Bool)
 | 0, _, _, _, _ => none
 | k + 1, x0, x11, x12, x16 => if x16 < (x12.length : Int) then (if 0 ≤ x16 then ((impl_IsBridge.f x11 (rd x12 x16)).bind fun bt830 => (if bt830.2 = true then (if bt830.1 = true then (laws_FnBridges.l0 k x0 x11 x12 (wrap64 (x16 + 1))) else (some false)) else (some false))) else (none)) else ((spec_DrawLoopsThrough.f k x0).bind fun bt832 => ((impl_LoopsThrough.f bt832.1 bt832.2).bind fun bt836 => ((spec_LoopsThrough.f k bt832.1 bt832.2).bind fun bt840 => (if (bt836.2 != bt840.2) = true then (laws_FnBridges.j4 k x0 true) else ((laws_vInts.f k bt836.1 bt840.1).bind fun t844 => (laws_FnBridges.j4 k x0 (!t844)))))))
def laws_FnBridges.j4 : Nat → List Int → Bool → Option (Bool)
 | 0, _, _ => none
 | k + 1, x0, x142 => if x142 = true then (some false) else ((spec_DrawCountLoops.f k x0).bind fun t845 => ((impl_CountLoops.f t845).bind fun bt848 => ((spec_CountLoops.f k t845).bind fun bt850 => (if bt848.1 = bt850.1 then (laws_FnBridges.j5 k t845 bt848.1 bt848.2 (bt848.2 != bt850.2)) else (laws_FnBridges.j5 k t845 bt848.1 bt848.2 true)))))
def laws_FnBridges.j5 : Nat → List (S49) → Int → Bool → Bool → Option (Bool)
 | 0, _, _, _, _ => none
 | k + 1, x25, x26, x27, x162 => if x162 = true then (some false) else (if x27 = true then ((impl_ClosingLegs.f x25).bind fun bt852 => (if bt852.2 = true then (some ((bt852.1.length : Int) == x26)) else (some false))) else (some true))
end
def laws_FnBridges.f (k : Nat) (l0 : List Int) : Option (Bool) := (laws_vBig.f l0).bind fun t804 => (if t804 = true then (some true) else ((spec_DrawIsBridge.f k l0).bind fun bt805 => ((impl_IsBridge.f bt805.1 bt805.2).bind fun bt809 => ((spec_IsBridge.f k bt805.1 bt805.2).bind fun bt811 => (if (bt809.1 != bt811.1) = true then (laws_FnBridges.j0 k l0 bt805.1 bt805.2 bt809.1 bt809.2 true) else (laws_FnBridges.j0 k l0 bt805.1 bt805.2 bt809.1 bt809.2 (bt809.2 != bt811.2)))))))
theorem laws_FnBridges.mono_l : ∀ k, (∀ y0 y1 y2 y3 y4 y5, LeO (laws_FnBridges.j0 k y0 y1 y2 y3 y4 y5) (laws_FnBridges.j0 (k + 1) y0 y1 y2 y3 y4 y5)) ∧ (∀ y0, LeO (laws_FnBridges.j1 k y0) (laws_FnBridges.j1 (k + 1) y0)) ∧ (∀ y0 y1 y2 y3, LeO (laws_FnBridges.j2 k y0 y1 y2 y3) (laws_FnBridges.j2 (k + 1) y0 y1 y2 y3)) ∧ (∀ y0 y1 y2 y3, LeO (laws_FnBridges.l0 k y0 y1 y2 y3) (laws_FnBridges.l0 (k + 1) y0 y1 y2 y3)) ∧ (∀ y0 y1, LeO (laws_FnBridges.j4 k y0 y1) (laws_FnBridges.j4 (k + 1) y0 y1)) ∧ (∀ y0 y1 y2 y3, LeO (laws_FnBridges.j5 k y0 y1 y2 y3) (laws_FnBridges.j5 (k + 1) y0 y1 y2 y3))
 | 0 => ⟨fun _ _ _ _ _ _ r h => by simp [laws_FnBridges.j0] at h, fun _ r h => by simp [laws_FnBridges.j1] at h, fun _ _ _ _ r h => by simp [laws_FnBridges.j2] at h, fun _ _ _ _ r h => by simp [laws_FnBridges.l0] at h, fun _ _ r h => by simp [laws_FnBridges.j4] at h, fun _ _ _ _ r h => by simp [laws_FnBridges.j5] at h⟩
 | k + 1 => by
  obtain ⟨ih0, ih1, ih2, ih3, ih4, ih5⟩ := laws_FnBridges.mono_l k; refine ⟨?_, ?_, ?_, ?_, ?_, ?_⟩
  ·
   intro y0 y1 y2 y3 y4 y5; unfold laws_FnBridges.j0; exact qz6
  ·
   intro y0; unfold laws_FnBridges.j1; exact qz6
  ·
   intro y0 y1 y2 y3; unfold laws_FnBridges.j2; exact qz6
  ·
   intro y0 y1 y2 y3; unfold laws_FnBridges.l0; exact qz6
  ·
   intro y0 y1; unfold laws_FnBridges.j4; exact qz6
  ·
   intro y0 y1 y2 y3; unfold laws_FnBridges.j5; exact qz6
theorem laws_FnBridges.mono : ∀ a0 k, LeO (laws_FnBridges.f k a0) (laws_FnBridges.f (k + 1) a0) := by
 intro a0 k; obtain ⟨ih0, ih1, ih2, ih3, ih4, ih5⟩ := laws_FnBridges.mono_l k; unfold laws_FnBridges.f
 repeat' first
   | (with_reducible exact ih0 _ _ _ _ _ _)
   | (with_reducible exact ih1 _)
   | (with_reducible exact ih2 _ _ _ _)
   | (with_reducible exact ih3 _ _ _ _)
   | (with_reducible exact ih4 _ _)
   | (with_reducible exact ih5 _ _ _ _)
   | (with_reducible exact laws_vInts.mono _ _ _)
   | (with_reducible exact spec_BridgesOf.mono _ _)
   | (with_reducible exact spec_CountLoops.mono _ _)
   | (with_reducible exact spec_DrawBridgesOf.mono _ _)
   | (with_reducible exact spec_DrawCountLoops.mono _ _)
   | (with_reducible exact spec_DrawIsBridge.mono _ _)
   | (with_reducible exact spec_DrawLoopsThrough.mono _ _)
   | (with_reducible exact spec_IsBridge.mono _ _ _)
   | (with_reducible exact spec_LoopsThrough.mono _ _ _)
   | (with_reducible exact LeO.refl _)
   | (with_reducible exact LeO.none _)
   | (with_reducible refine LeO.ite ?_ ?_)
   | (with_reducible refine LeO.bind ?_ (fun _ => ?_))
   | exact ih0 _ _ _ _ _ _
   | exact ih1 _
   | exact ih2 _ _ _ _
   | exact ih3 _ _ _ _
   | exact ih4 _ _
   | exact ih5 _ _ _ _
   | exact laws_vInts.mono _ _ _
   | exact spec_BridgesOf.mono _ _
   | exact spec_CountLoops.mono _ _
   | exact spec_DrawBridgesOf.mono _ _
   | exact spec_DrawCountLoops.mono _ _
   | exact spec_DrawIsBridge.mono _ _
   | exact spec_DrawLoopsThrough.mono _ _
   | exact spec_IsBridge.mono _ _ _
   | exact spec_LoopsThrough.mono _ _ _
   | exact LeO.none _
   | refine LeO.ite ?_ ?_
   | refine LeO.bind ?_ (fun _ => ?_)
theorem laws_FnBridges.calls (k : Nat) (A0 : Option Addr) (c0 : Nat) (l0 : List Int) (r : Bool) (w : World) (hr0 : Kd.C (Kd.int .u8) w A0 l0.length l0) (hc0 : l0.length ≤ c0) (h : laws_FnBridges.f k l0 = some true) (hL : Net.Sine.Laid w) :
  Calls Tryd.prog 5 #[.slice A0 l0.length c0] w fun e w' => e = .returned (.bool true) ∧ Below w.heap.size w w' := by
 have HL := ak hL; clear hL; have HR0 := ak hr0; have HC0 := ak hc0; clear hr0 hc0; have HB := ak (Below.refl w.heap.size w); have H : ((laws_vBig.f l0).bind fun t804 => (if t804 = true then (some true) else ((spec_DrawIsBridge.f k l0).bind fun bt805 => ((impl_IsBridge.f bt805.1 bt805.2).bind fun bt809 => ((spec_IsBridge.f k bt805.1 bt805.2).bind fun bt811 => (if (bt809.1 != bt811.1) = true then (laws_FnBridges.j0 k l0 bt805.1 bt805.2 bt809.1 bt809.2 true) else (laws_FnBridges.j0 k l0 bt805.1 bt805.2 bt809.1 bt809.2 (bt809.2 != bt811.2)))))))) = some true := h; clear h; replace H := Option.bind_eq_some_iff.mp H; obtain ⟨t804, A20, H⟩ := H; replace H : (if t804 = true then (some true) else ((spec_DrawIsBridge.f k l0).bind fun bt805 => ((impl_IsBridge.f bt805.1 bt805.2).bind fun bt809 => ((spec_IsBridge.f k bt805.1 bt805.2).bind fun bt811 => (if (bt809.1 != bt811.1) = true then (laws_FnBridges.j0 k l0 bt805.1 bt805.2 bt809.1 bt809.2 true) else (laws_FnBridges.j0 k l0 bt805.1 bt805.2 bt809.1 bt809.2 (bt809.2 != bt811.2))))))) = some true := H; have A2 := ak A20; clear A20; by_cases c3 : t804 = true
 ·
  subst c3; have H1 : (some true) = some true := rfl; clear H; have H := H1; clear H1; go_enter Tryd.func5, Tryd.ntmps5; go_wp2_with (first | ((with_reducible refine gate_callee (f := 7) rfl ?_); refine gL (some 33) Tryd.func7 #[.slice A0 l0.length c0] ?_; (with_reducible refine (laws_vBig.calls _ _ l0 true _ ?side1 ?side2 A2.out).mono ?_); (case side1 => exact qz20); (case side2 => exact HC0.out); rintro e w' ⟨rfl, ⟨nd, rfl⟩⟩; refine ⟨_, rfl, ?_⟩)); go_ret; exact ⟨qz5, qz0⟩
 ·
  replace c3 := Bool.eq_false_iff.mpr c3; subst c3; have H1 : ((spec_DrawIsBridge.f k l0).bind fun bt805 => ((impl_IsBridge.f bt805.1 bt805.2).bind fun bt809 => ((spec_IsBridge.f k bt805.1 bt805.2).bind fun bt811 => (if (bt809.1 != bt811.1) = true then (laws_FnBridges.j0 k l0 bt805.1 bt805.2 bt809.1 bt809.2 true) else (laws_FnBridges.j0 k l0 bt805.1 bt805.2 bt809.1 bt809.2 (bt809.2 != bt811.2)))))) = some true := by rw [if_neg (show ¬ (false = true) by decide)] at H; exact H
  clear H; have H := H1; clear H1; replace H := Option.bind_eq_some_iff.mp H; obtain ⟨⟨t805, t806⟩, A40, H⟩ := H; replace H : ((impl_IsBridge.f t805 t806).bind fun bt809 => ((spec_IsBridge.f k t805 t806).bind fun bt811 => (if (bt809.1 != bt811.1) = true then (laws_FnBridges.j0 k l0 t805 t806 bt809.1 bt809.2 true) else (laws_FnBridges.j0 k l0 t805 t806 bt809.1 bt809.2 (bt809.2 != bt811.2))))) = some true := H; have A4 := ak A40; clear A40; replace H := Option.bind_eq_some_iff.mp H; obtain ⟨⟨t809, t810⟩, A50, H⟩ := H; replace H : ((spec_IsBridge.f k t805 t806).bind fun bt811 => (if (t809 != bt811.1) = true then (laws_FnBridges.j0 k l0 t805 t806 t809 t810 true) else (laws_FnBridges.j0 k l0 t805 t806 t809 t810 (t810 != bt811.2)))) = some true := H; have A5 := ak A50; clear A50; replace H := Option.bind_eq_some_iff.mp H; obtain ⟨⟨t811, t812⟩, A60, H⟩ := H; replace H : (if (t809 != t811) = true then (laws_FnBridges.j0 k l0 t805 t806 t809 t810 true) else (laws_FnBridges.j0 k l0 t805 t806 t809 t810 (t810 != t812))) = some true := H; have A6 := ak A60; clear A60; have HC7 := ak H; clear H; go_enter Tryd.func5, Tryd.ntmps5
  go_upto_region 6 with (first | ((with_reducible refine gate_callee (f := 7) rfl ?_); refine gL (some 33) Tryd.func7 #[.slice A0 l0.length c0] ?_; (with_reducible refine (laws_vBig.calls _ _ l0 false _ ?side1 ?side2 A2.out).mono ?_); (case side1 => exact qz20); (case side2 => exact HC0.out); rintro e w' ⟨rfl, ⟨nd, rfl⟩⟩; refine ⟨_, rfl, ?_⟩) | ((with_reducible refine gate_callee (f := 36) rfl ?_); refine gL (some 36) Tryd.func36 #[.slice A0 l0.length c0] ?_; (with_reducible refine (spec_DrawIsBridge.calls k _ _ l0 t805 t806 _ ?side1 ?side2 A4.out).mono ?_); (case side1 => exact qz20); (case side2 => exact HC0.out); rintro e w8 ⟨v807, rfl, ho0, hb⟩; refine ⟨_, rfl, ?_⟩; replace HO808 := ak (Kd.R_lower ho0 (below_size qz0)); replace HB := ak (below_step qz0 hb); (try clear hb); (try clear hb2); (try clear hk); (try clear hi); (try clear ho0); obtain ⟨Ao9, co9, eo9⟩ := Kd.R_slice HO808.out; subst eo9) | ((with_reducible refine gate_callee (f := 37) rfl ?_); refine gL (some 42) Tryd.func37 #[.slice Ao9 t805.length co9, .int .i64 t806] ?_; (with_reducible refine (impl_IsBridge.calls _ _ t805 t806 t809 t810 _ ?side1 ?side2 A5.out ?sideL).mono ?_); (case sideL => exact HL.out.keep qz40); (case side1 => exact (by repeat (first | exact (Kd.R_reads' HO808.out).2.2 | (with_reducible refine Kd.C_alloc ?_ _) | (with_reducible refine Kd.C_drewN ?_ _) | (with_reducible refine Kd.C_drew ?_)))); (case side2 => exact (Kd.R_reads' HO808.out).2.1); rintro e w10 ⟨rfl, hb⟩; refine ⟨_, rfl, ?_⟩; replace HO808 := ak (Kd.R_below qz113 hb); replace HB := ak (below_step qz0 hb); (try clear hb); (try clear hb2); (try clear hk); (try clear hi)) | ((with_reducible refine gate_callee (f := 38) rfl ?_); refine gL (some 48) Tryd.func38 #[.slice Ao9 t805.length co9, .int .i64 t806] ?_; (with_reducible refine (spec_IsBridge.calls k _ _ t805 t806 t811 t812 _ ?side1 ?side2 A6.out).mono ?_); (case side1 => exact (by repeat (first | exact (Kd.R_reads' HO808.out).2.2 | (with_reducible refine Kd.C_alloc ?_ _) | (with_reducible refine Kd.C_drewN ?_ _) | (with_reducible refine Kd.C_drew ?_)))); (case side2 => exact (Kd.R_reads' HO808.out).2.1); rintro e w11 ⟨rfl, hb⟩; refine ⟨_, rfl, ?_⟩; replace HO808 := ak (Kd.R_below qz113 hb); replace HB := ak (below_step qz0 hb); (try clear hb); (try clear hb2); (try clear hk); (try clear hi)))
  (try simp only [Act.put, List.setIfInBounds_toArray, List.set_cons_zero, List.set_cons_succ])
  go_cut [58] (fun v58 wc => ∃ (kq : Nat) (x58_6 : Bool), v58 = .bool x58_6 ∧ Aside0 (laws_FnBridges.j0 kq l0 t805 t806 t809 t810 x58_6 = some true) ∧ Aside0 (kq ≤ k) ∧ Aside0 (Kd.R k49 49 wc w.heap.size (fun _ => True) (.slice Ao9 t805.length co9) t805) ∧ Aside0 (Below w.heap.size w wc))
  case first =>
   have H := HC7.out; clear HC7; by_cases c12 : (t809 != t811) = true
   ·
    rw [if_pos c12] at H; have c12b0 : (t809 != t811) = true := c12; (try (have c12b1 : decide (t809 = t811) = false := by simpa using c12)); (try (have c12b2 : (t809 == t811) = false := by simpa using c12)); (try (have c12b3 : ¬ (t809 = t811) := by simpa using c12)); clear c12; (first | rw [c12b0] | (simp only [i64_w, i32_w]; rw [c12b0]) | skip); exact absurd H (by cases k <;> simp [laws_FnBridges.j0])
   ·
    rw [if_neg c12] at H; have c12b0 : (t809 != t811) = false := by simpa using c12
    (try (have c12b1 : decide (t809 = t811) = true := by simpa using c12)); (try (have c12b2 : (t809 == t811) = true := by simpa using c12)); clear c12; (first | rw [c12b0] | (simp only [i64_w, i32_w]; rw [c12b0]) | skip); have H' := ak H; clear H; go_wp2; go_meet; (case rel => exact ⟨_, ((t810 != t812)), qz8, H', ⟨qz65⟩, ⟨qz113⟩, ⟨qz0⟩⟩)
  case rest =>
   clear HC7; (try clear c1); (try clear p2); (try clear c3); (try clear c5); (try clear c7); (try clear c12); (try clear c12b0); (try clear c12b1); (try clear c12b2); obtain ⟨kq, x58_6, rfl, HA, HJ6, HO_3, HB⟩ := hcut
   cases kq with
   | zero => exact absurd HA.out (by simp [laws_FnBridges.j0])
   | succ kj6 =>
    have H := HA.out; clear HA; simp only [laws_FnBridges.j0] at H; by_cases c13 : x58_6 = true
    ·
     subst c13; have H1 : (some false) = some true := by rw [if_pos rfl] at H; exact H
     clear H; have H := H1; clear H1; exact absurd (Option.some.inj H) (by decide)
    ·
     replace c13 := Bool.eq_false_iff.mpr c13; subst c13; have H1 : (if t810 = true then ((impl_LoopsThrough.f t805 t806).bind fun bt813 => (if bt813.2 = true then (if (t809 != ((bt813.1.length : Int) == 0)) = true then (some false) else (laws_FnBridges.j1 kj6 l0)) else (some false))) else (laws_FnBridges.j1 kj6 l0)) = some true := by rw [if_neg (show ¬ (false = true) by decide)] at H; exact H
     clear H; have H := H1; clear H1; have HC14 := ak H; clear H
     go_upto_if 59 with (fail)
     go_cut [] (fun wc => ∃ (kq : Nat), Aside0 (laws_FnBridges.j1 kq l0 = some true) ∧ Aside0 (kq ≤ kj6) ∧ Aside0 (Below w.heap.size w wc))
     case first =>
      have H := HC14.out; clear HC14; by_cases c15 : t810 = true
      ·
       subst c15; have H1 : ((impl_LoopsThrough.f t805 t806).bind fun bt813 => (if bt813.2 = true then (if (t809 != ((bt813.1.length : Int) == 0)) = true then (some false) else (laws_FnBridges.j1 kj6 l0)) else (some false))) = some true := by rw [if_pos rfl] at H; exact H
       clear H; have H := H1; clear H1; replace H := Option.bind_eq_some_iff.mp H; obtain ⟨⟨t813, t814⟩, A160, H⟩ := H; replace H : (if t814 = true then (if (t809 != ((t813.length : Int) == 0)) = true then (some false) else (laws_FnBridges.j1 kj6 l0)) else (some false)) = some true := H; have A16 := ak A160; clear A160; by_cases c17 : t814 = true
       ·
        subst c17; have H1 : (if (t809 != ((t813.length : Int) == 0)) = true then (some false) else (laws_FnBridges.j1 kj6 l0)) = some true := by rw [if_pos rfl] at H; exact H
        clear H; have H := H1; clear H1; by_cases c18 : (t809 != ((t813.length : Int) == 0)) = true
        ·
         rw [if_pos c18] at H; have c18b0 : (t809 != ((t813.length : Int) == 0)) = true := c18; (try (have c18b1 : decide (t809 = ((t813.length : Int) == 0)) = false := by simpa using c18)); (try (have c18b2 : (t809 == ((t813.length : Int) == 0)) = false := by simpa using c18)); (try (have c18b3 : ¬ (t809 = ((t813.length : Int) == 0)) := by simpa using c18)); clear c18; (first | rw [c18b0] | (simp only [i64_w, i32_w]; rw [c18b0]) | skip); exact absurd (Option.some.inj H) (by decide)
        ·
         rw [if_neg c18] at H; have c18b0 : (t809 != ((t813.length : Int) == 0)) = false := by simpa using c18
         (try (have c18b1 : decide (t809 = ((t813.length : Int) == 0)) = true := by simpa using c18)); (try (have c18b2 : (t809 == ((t813.length : Int) == 0)) = true := by simpa using c18)); clear c18; (first | rw [c18b0] | (simp only [i64_w, i32_w]; rw [c18b0]) | skip); have H' := ak H; clear H; go_wp2_with (first | ((with_reducible refine gate_callee (f := 39) rfl ?_); refine gL (some 63) Tryd.func39 #[.slice Ao9 t805.length co9, .int .i64 t806] ?_; (with_reducible refine (impl_LoopsThrough.calls _ _ t805 t806 t813 true _ ?side1 ?side2 A16.out ?sideL).mono ?_); (case sideL => exact HL.out.keep qz40); (case side1 => exact (by repeat (first | exact (Kd.R_reads' HO_3.out).2.2 | (with_reducible refine Kd.C_alloc ?_ _) | (with_reducible refine Kd.C_drewN ?_ _) | (with_reducible refine Kd.C_drew ?_)))); (case side2 => exact (Kd.R_reads' HO_3.out).2.1); rintro e w21 ⟨v815, rfl, ho0, hb⟩; refine ⟨_, rfl, ?_⟩; replace HO_3 := ak (Kd.R_below qz7 hb); replace HO816 := ak (Kd.R_lower ho0 (below_size qz0)); replace HB := ak (below_step qz0 hb); (try clear hb); (try clear hb2); (try clear hk); (try clear hi); (try clear ho0); obtain ⟨Ao22, co22, eo22⟩ := Kd.R_slice HO816.out; subst eo22)); go_meet; (case rel => exact ⟨_, H', ⟨(by have := HJ6.out; first | omega | exact Nat.le_refl _)⟩, ⟨qz0⟩⟩)
       ·
        replace c17 := Bool.eq_false_iff.mpr c17; subst c17; have H1 : (some false) = some true := by rw [if_neg (show ¬ (false = true) by decide)] at H; exact H
        clear H; have H := H1; clear H1; exact absurd (Option.some.inj H) (by decide)
      ·
       replace c15 := Bool.eq_false_iff.mpr c15; subst c15; have H1 : (laws_FnBridges.j1 kj6 l0) = some true := by rw [if_neg (show ¬ (false = true) by decide)] at H; exact H
       clear H; have H := H1; clear H1; have H' := ak H; clear H; go_wp2; go_meet; (case rel => exact ⟨_, H', ⟨(by have := HJ6.out; first | omega | exact Nat.le_refl _)⟩, ⟨qz0⟩⟩)
     case rest =>
      clear HC14; (try clear c1); (try clear p2); (try clear c3); (try clear c5); (try clear c7); (try clear c12); (try clear c12b0); (try clear c12b1); (try clear c12b2); (try clear c13); (try clear c15); (try clear c17); (try clear c18); (try clear c18b0); (try clear c18b1); (try clear c18b2); (try clear p2); obtain ⟨kq, HA, HJ13, HB⟩ := hcut
      cases kq with
      | zero => exact absurd HA.out (by simp [laws_FnBridges.j1])
      | succ kj13 =>
       have H := HA.out; clear HA; simp only [laws_FnBridges.j1] at H; replace H := Option.bind_eq_some_iff.mp H; obtain ⟨t817, A240, H⟩ := H; replace H : ((impl_BridgesOf.f t817).bind fun bt820 => ((spec_BridgesOf.f kj13 t817).bind fun bt824 => (if (bt820.2 != bt824.2) = true then (laws_FnBridges.j2 kj13 l0 t817 bt820.1 true) else ((laws_vInts.f kj13 bt820.1 bt824.1).bind fun t828 => (laws_FnBridges.j2 kj13 l0 t817 bt820.1 (!t828)))))) = some true := H; have A24 := ak A240; clear A240; replace H := Option.bind_eq_some_iff.mp H; obtain ⟨⟨t820, t821⟩, A250, H⟩ := H; replace H : ((spec_BridgesOf.f kj13 t817).bind fun bt824 => (if (t821 != bt824.2) = true then (laws_FnBridges.j2 kj13 l0 t817 t820 true) else ((laws_vInts.f kj13 t820 bt824.1).bind fun t828 => (laws_FnBridges.j2 kj13 l0 t817 t820 (!t828))))) = some true := H; have A25 := ak A250; clear A250; replace H := Option.bind_eq_some_iff.mp H; obtain ⟨⟨t824, t825⟩, A260, H⟩ := H; replace H : (if (t821 != t825) = true then (laws_FnBridges.j2 kj13 l0 t817 t820 true) else ((laws_vInts.f kj13 t820 t824).bind fun t828 => (laws_FnBridges.j2 kj13 l0 t817 t820 (!t828)))) = some true := H; have A26 := ak A260; clear A260; have HC27 := ak H; clear H
       go_upto_region 15 with (first | ((with_reducible refine gate_callee (f := 40) rfl ?_); refine gL (some 76) Tryd.func40 #[.slice A0 l0.length c0] ?_; (with_reducible refine (spec_DrawBridgesOf.calls kj13 _ _ l0 t817 _ ?side1 ?side2 A24.out).mono ?_); (case side1 => exact qz15); (case side2 => exact HC0.out); rintro e w28 ⟨v818, rfl, ho0, hb⟩; refine ⟨_, rfl, ?_⟩; replace HO819 := ak (Kd.R_lower ho0 (below_size qz0)); replace HB := ak (below_step qz0 hb); (try clear hb); (try clear hb2); (try clear hk); (try clear hi); (try clear ho0); obtain ⟨Ao29, co29, eo29⟩ := Kd.R_slice HO819.out; subst eo29) | ((with_reducible refine gate_callee (f := 41) rfl ?_); refine gL (some 79) Tryd.func41 #[.slice Ao29 t817.length co29] ?_; (with_reducible refine (impl_BridgesOf.calls _ _ t817 t820 t821 _ ?side1 ?side2 A25.out ?sideL).mono ?_); (case sideL => exact HL.out.keep qz40); (case side1 => exact (by repeat (first | exact (Kd.R_reads' HO819.out).2.2 | (with_reducible refine Kd.C_alloc ?_ _) | (with_reducible refine Kd.C_drewN ?_ _) | (with_reducible refine Kd.C_drew ?_)))); (case side2 => exact (Kd.R_reads' HO819.out).2.1); rintro e w30 ⟨v822, rfl, ho0, hb⟩; refine ⟨_, rfl, ?_⟩; replace HO819 := ak (Kd.R_below qz112 hb); replace HO823 := ak (Kd.R_lower ho0 (below_size qz0)); replace HB := ak (below_step qz0 hb); (try clear hb); (try clear hb2); (try clear hk); (try clear hi); (try clear ho0)) | ((with_reducible refine gate_callee (f := 42) rfl ?_); refine gL (some 84) Tryd.func42 #[.slice Ao29 t817.length co29] ?_; (with_reducible refine (spec_BridgesOf.calls kj13 _ _ t817 t824 t825 _ ?side1 ?side2 A26.out).mono ?_); (case side1 => exact (by repeat (first | exact (Kd.R_reads' HO819.out).2.2 | (with_reducible refine Kd.C_alloc ?_ _) | (with_reducible refine Kd.C_drewN ?_ _) | (with_reducible refine Kd.C_drew ?_)))); (case side2 => exact (Kd.R_reads' HO819.out).2.1); rintro e w31 ⟨v826, rfl, ho0, hb⟩; refine ⟨_, rfl, ?_⟩; replace HO819 := ak (Kd.R_below qz112 hb); replace HO827 := ak (Kd.R_lower (Kd.R_new' ho0 (Kd.R_lt (by (with_reducible repeat (first | apply Kd.R_alloc | apply Kd.R_drewN | apply Kd.R_drew)); exact HO823.out))) (below_size qz0)); replace HO823 := ak (Kd.R_elder' (by (with_reducible repeat (first | apply Kd.R_alloc | apply Kd.R_drewN | apply Kd.R_drew)); exact HO823.out) (Kd.R_base ho0) hb); replace HB := ak (below_step qz0 hb); (try clear hb); (try clear hb2); (try clear hk); (try clear hi); (try clear ho0)))
       (try simp only [Act.put, List.setIfInBounds_toArray, List.set_cons_zero, List.set_cons_succ])
       go_cut [95] (fun v95 wc => ∃ (kq : Nat) (x95_26 : Bool), v95 = .bool x95_26 ∧ Aside0 (laws_FnBridges.j2 kq l0 t817 t820 x95_26 = some true) ∧ Aside0 (kq ≤ kj13) ∧ Aside0 (Kd.R k49 49 wc w.heap.size (fun _ => True) (.slice Ao29 t817.length co29) t817) ∧ Aside0 (Kd.R (Kd.int .i64) 3 wc w.heap.size (fun _ => True) v822 t820) ∧ Aside0 (Below w.heap.size w wc))
       case first =>
        have H := HC27.out; clear HC27; by_cases c32 : (t821 != t825) = true
        ·
         rw [if_pos c32] at H; have c32b0 : (t821 != t825) = true := c32; (try (have c32b1 : decide (t821 = t825) = false := by simpa using c32)); (try (have c32b2 : (t821 == t825) = false := by simpa using c32)); (try (have c32b3 : ¬ (t821 = t825) := by simpa using c32)); clear c32; (first | rw [c32b0] | (simp only [i64_w, i32_w]; rw [c32b0]) | skip); exact absurd H (by cases kj13 <;> simp [laws_FnBridges.j2])
        ·
         rw [if_neg c32] at H; have c32b0 : (t821 != t825) = false := by simpa using c32
         (try (have c32b1 : decide (t821 = t825) = true := by simpa using c32)); (try (have c32b2 : (t821 == t825) = true := by simpa using c32)); clear c32; (first | rw [c32b0] | (simp only [i64_w, i32_w]; rw [c32b0]) | skip); replace H := Option.bind_eq_some_iff.mp H; obtain ⟨t828, A330, H⟩ := H; replace H : (laws_FnBridges.j2 kj13 l0 t817 t820 (!t828)) = some true := H; have A33 := ak A330; clear A330; have H' := ak H; clear H; obtain ⟨Ao34, co34, eo34⟩ := Kd.R_slice HO823.out; subst eo34; obtain ⟨Ao35, co35, eo35⟩ := Kd.R_slice HO827.out; subst eo35; go_wp2_with (first | (go_at_call 13; (with_reducible refine (laws_vInts.calls kj13 _ _ t820 _ _ t824 t828 _ ?side1 ?side2 ?side3 ?side4 A33.out).mono ?_); (case side1 => exact (by repeat (first | exact (Kd.R_reads' HO823.out).2.2 | (with_reducible refine Kd.C_alloc ?_ _) | (with_reducible refine Kd.C_drewN ?_ _) | (with_reducible refine Kd.C_drew ?_)))); (case side2 => exact (Kd.R_reads' HO823.out).2.1); (case side3 => exact (by repeat (first | exact (Kd.R_reads' HO827.out).2.2 | (with_reducible refine Kd.C_alloc ?_ _) | (with_reducible refine Kd.C_drewN ?_ _) | (with_reducible refine Kd.C_drew ?_)))); (case side4 => exact (Kd.R_reads' HO827.out).2.1); rintro e w' ⟨rfl, ⟨nd, rfl⟩⟩)); go_meet; (case rel => exact ⟨_, (!t828), qz8, H', ⟨(by have := HJ6.out; have := HJ13.out; first | omega | exact Nat.le_refl _)⟩, ⟨qz112⟩, ⟨(by (with_reducible repeat (first | apply Kd.R_alloc | apply Kd.R_drewN | apply Kd.R_drew)); exact Kd.R_mono HO823.out (fun _ hk => trivial))⟩, ⟨qz0⟩⟩)
       case rest =>
        clear HC27; (try clear c1); (try clear p2); (try clear c3); (try clear c4); (try clear c5); (try clear c7); (try clear c12); (try clear c12b0); (try clear c12b1); (try clear c12b2); (try clear c13); (try clear c15); (try clear c17); (try clear c18); (try clear c18b0); (try clear c18b1); (try clear c18b2); (try clear c32); (try clear c32b0); (try clear c32b1); (try clear c32b2); (try clear p2); obtain ⟨kq, x95_26, rfl, HA, HJ26, HO_11, HO_12, HB⟩ := hcut
        cases kq with
        | zero => exact absurd HA.out (by simp [laws_FnBridges.j2])
        | succ kj26 =>
         have H := HA.out; clear HA; simp only [laws_FnBridges.j2] at H; by_cases c36 : x95_26 = true
         ·
          subst c36; have H1 : (some false) = some true := by rw [if_pos rfl] at H; exact H
          clear H; have H := H1; clear H1; exact absurd (Option.some.inj H) (by decide)
         ·
          replace c36 := Bool.eq_false_iff.mpr c36; subst c36; have H1 : (laws_FnBridges.l0 kj26 l0 t817 t820 0) = some true := by rw [if_neg (show ¬ (false = true) by decide)] at H; exact H
          clear H; have H := H1; clear H1; have H' := ak H; clear H; go_wp2
          go_loopg [16] kj26 (fun kq v16 w' => ∃ (x16_4 : Int), v16 = .int .i64 x16_4 ∧ Aside0 (laws_FnBridges.l0 kq l0 t817 t820 x16_4 = some true) ∧ Aside0 (kq ≤ kj26) ∧ Aside0 (Kd.R k49 49 w' w.heap.size (fun _ => True) (.slice Ao29 t817.length co29) t817) ∧ Aside0 (Kd.R (Kd.int .i64) 3 w' w.heap.size (fun _ => True) v822 t820) ∧ Aside0 (Below w.heap.size w w'))
          case atStart => exact ⟨(0), qz8, H', ⟨Nat.le_refl _⟩, ⟨qz61⟩, ⟨qz57⟩, ⟨qz0⟩⟩
          case round =>
           clear H'; (try clear c1); (try clear p2); (try clear c3); (try clear c4); (try clear c5); (try clear c7); (try clear c12); (try clear c12b0); (try clear c12b1); (try clear c12b2); (try clear c13); (try clear c15); (try clear c17); (try clear c18); (try clear c18b0); (try clear c18b1); (try clear c18b2); (try clear c32); (try clear c32b0); (try clear c32b1); (try clear c32b2); (try clear c36); (try clear p2); obtain ⟨x16_4, rfl, HA, HK4, HO_11, HO_12, HB⟩ := hrel
           cases gk with
           | zero => exact absurd HA.out (by simp [laws_FnBridges.l0])
           | succ k4 =>
            have H := HA.out; clear HA; simp only [laws_FnBridges.l0] at H; by_cases c37 : x16_4 < (t820.length : Int)
            ·
             rw [if_pos c37] at H; have c37b0 : decide (x16_4 < (t820.length : Int)) = true := decide_eq_true c37; clear c37; by_cases c38 : 0 ≤ x16_4
             ·
              rw [if_pos c38] at H; have c38b0 : decide (0 ≤ x16_4) = true := decide_eq_true c38; clear c38; replace H := Option.bind_eq_some_iff.mp H; obtain ⟨⟨t830, t831⟩, A390, H⟩ := H; replace H : (if t831 = true then (if t830 = true then (laws_FnBridges.l0 k4 l0 t817 t820 (wrap64 (x16_4 + 1))) else (some false)) else (some false)) = some true := H; have A39 := ak A390; clear A390; by_cases c40 : t831 = true
              ·
               subst c40; have H1 : (if t830 = true then (laws_FnBridges.l0 k4 l0 t817 t820 (wrap64 (x16_4 + 1))) else (some false)) = some true := by rw [if_pos rfl] at H; exact H
               clear H; have H := H1; clear H1; by_cases c41 : t830 = true
               ·
                subst c41; have H1 : (laws_FnBridges.l0 k4 l0 t817 t820 (wrap64 (x16_4 + 1))) = some true := by rw [if_pos rfl] at H; exact H
                clear H; have H := H1; clear H1; have H' := ak H; clear H; obtain ⟨Ao42, co42, eo42⟩ := Kd.R_slice HO_12.out; subst eo42; have p829 : 0 ≤ (x16_4 : Int) := of_decide_eq_true qz4; have q829 : x16_4 < (t820.length : Int) := of_decide_eq_true qz4; obtain ⟨ad829, e829, hx829_0⟩ := Kd.at_int (Kd.R_reads' HO_12.out).2.2 x16_4 p829 q829; cases e829; replace p829 := eq_true p829; replace q829 := eq_true q829; go_wp2_with (first | ((with_reducible refine gate_callee (f := 37) rfl ?_); refine gL (some 108) Tryd.func37 #[.slice Ao29 t817.length co29, .int .i64 (rd t820 x16_4)] ?_; (with_reducible refine (impl_IsBridge.calls _ _ t817 (rd t820 x16_4) true true _ ?side1 ?side2 A39.out ?sideL).mono ?_); (case sideL => exact HL.out.keep qz40); (case side1 => exact (by repeat (first | exact (Kd.R_reads' HO_11.out).2.2 | (with_reducible refine Kd.C_alloc ?_ _) | (with_reducible refine Kd.C_drewN ?_ _) | (with_reducible refine Kd.C_drew ?_)))); (case side2 => exact (Kd.R_reads' HO_11.out).2.1); rintro e w43 ⟨rfl, hb⟩; refine ⟨_, rfl, ?_⟩; replace HO_11 := ak (Kd.R_below qz61 hb); replace HO_12 := ak (Kd.R_below qz57 hb); replace HB := ak (below_step qz0 hb); (try clear hb); (try clear hb2); (try clear hk); (try clear hi))); go_roundg k4; (case measure => exact (by have := HJ6.out; have := HJ13.out; have := HJ26.out; have := HK4.out; omega)); (case rel => exact ⟨(wrap64 (x16_4 + 1)), qz8, H', ⟨(by have := HJ6.out; have := HJ13.out; have := HJ26.out; have := HK4.out; omega)⟩, ⟨qz61⟩, ⟨qz57⟩, ⟨qz0⟩⟩)
               ·
                replace c41 := Bool.eq_false_iff.mpr c41; subst c41; have H1 : (some false) = some true := by rw [if_neg (show ¬ (false = true) by decide)] at H; exact H
                clear H; have H := H1; clear H1; exact absurd (Option.some.inj H) (by decide)
              ·
               replace c40 := Bool.eq_false_iff.mpr c40; subst c40; have H1 : (some false) = some true := by rw [if_neg (show ¬ (false = true) by decide)] at H; exact H
               clear H; have H := H1; clear H1; exact absurd (Option.some.inj H) (by decide)
             ·
              rw [if_neg c38] at H; exact absurd H (by simp)
            ·
             rw [if_neg c37] at H; have c37b0 : decide (x16_4 < (t820.length : Int)) = false := decide_eq_false c37; clear c37; replace H := Option.bind_eq_some_iff.mp H; obtain ⟨⟨t832, t833⟩, A480, H⟩ := H; replace H : ((impl_LoopsThrough.f t832 t833).bind fun bt836 => ((spec_LoopsThrough.f k4 t832 t833).bind fun bt840 => (if (bt836.2 != bt840.2) = true then (laws_FnBridges.j4 k4 l0 true) else ((laws_vInts.f k4 bt836.1 bt840.1).bind fun t844 => (laws_FnBridges.j4 k4 l0 (!t844)))))) = some true := H; have A48 := ak A480; clear A480; replace H := Option.bind_eq_some_iff.mp H; obtain ⟨⟨t836, t837⟩, A490, H⟩ := H; replace H : ((spec_LoopsThrough.f k4 t832 t833).bind fun bt840 => (if (t837 != bt840.2) = true then (laws_FnBridges.j4 k4 l0 true) else ((laws_vInts.f k4 t836 bt840.1).bind fun t844 => (laws_FnBridges.j4 k4 l0 (!t844))))) = some true := H; have A49 := ak A490; clear A490; replace H := Option.bind_eq_some_iff.mp H; obtain ⟨⟨t840, t841⟩, A500, H⟩ := H; replace H : (if (t837 != t841) = true then (laws_FnBridges.j4 k4 l0 true) else ((laws_vInts.f k4 t836 t840).bind fun t844 => (laws_FnBridges.j4 k4 l0 (!t844)))) = some true := H; have A50 := ak A500; clear A500; have HC51 := ak H; clear H; obtain ⟨Ao52, co52, eo52⟩ := Kd.R_slice HO_12.out; subst eo52
             go_upto_region 26 with (first | ((with_reducible refine gate_callee (f := 43) rfl ?_); refine gL (some 119) Tryd.func43 #[.slice A0 l0.length c0] ?_; (with_reducible refine (spec_DrawLoopsThrough.calls k4 _ _ l0 t832 t833 _ ?side1 ?side2 A48.out).mono ?_); (case side1 => exact qz15); (case side2 => exact HC0.out); rintro e w53 ⟨v834, rfl, ho0, hb⟩; refine ⟨_, rfl, ?_⟩; replace HO_12 := ak (Kd.R_below qz57 hb); replace HO835 := ak (Kd.R_lower (Kd.R_new' ho0 (Kd.R_lt qz61)) (below_size qz0)); replace HO_11 := ak (Kd.R_elder' qz61 (Kd.R_base ho0) hb); replace HB := ak (below_step qz0 hb); (try clear hb); (try clear hb2); (try clear hk); (try clear hi); (try clear ho0); obtain ⟨Ao54, co54, eo54⟩ := Kd.R_slice HO835.out; subst eo54) | ((with_reducible refine gate_callee (f := 39) rfl ?_); refine gL (some 125) Tryd.func39 #[.slice Ao54 t832.length co54, .int .i64 t833] ?_; (with_reducible refine (impl_LoopsThrough.calls _ _ t832 t833 t836 t837 _ ?side1 ?side2 A49.out ?sideL).mono ?_); (case sideL => exact HL.out.keep qz40); (case side1 => exact (by repeat (first | exact (Kd.R_reads' HO835.out).2.2 | (with_reducible refine Kd.C_alloc ?_ _) | (with_reducible refine Kd.C_drewN ?_ _) | (with_reducible refine Kd.C_drew ?_)))); (case side2 => exact (Kd.R_reads' HO835.out).2.1); rintro e w55 ⟨v838, rfl, ho0, hb⟩; refine ⟨_, rfl, ?_⟩; replace HO_11 := ak (Kd.R_below qz61 hb); replace HO835 := ak (Kd.R_below (by (with_reducible repeat (first | apply Kd.R_alloc | apply Kd.R_drewN | apply Kd.R_drew)); exact HO835.out) hb); replace HO839 := ak (Kd.R_lower (Kd.R_new' ho0 (Kd.R_lt qz57)) (below_size qz0)); replace HO_12 := ak (Kd.R_elder' qz57 (Kd.R_base ho0) hb); replace HB := ak (below_step qz0 hb); (try clear hb); (try clear hb2); (try clear hk); (try clear hi); (try clear ho0)) | ((with_reducible refine gate_callee (f := 44) rfl ?_); refine gL (some 131) Tryd.func44 #[.slice Ao54 t832.length co54, .int .i64 t833] ?_; (with_reducible refine (spec_LoopsThrough.calls k4 _ _ t832 t833 t840 t841 _ ?side1 ?side2 A50.out).mono ?_); (case side1 => exact (by repeat (first | exact (Kd.R_reads' HO835.out).2.2 | (with_reducible refine Kd.C_alloc ?_ _) | (with_reducible refine Kd.C_drewN ?_ _) | (with_reducible refine Kd.C_drew ?_)))); (case side2 => exact (Kd.R_reads' HO835.out).2.1); rintro e w56 ⟨v842, rfl, ho0, hb⟩; refine ⟨_, rfl, ?_⟩; replace HO_11 := ak (Kd.R_below qz61 hb); replace HO835 := ak (Kd.R_below (by (with_reducible repeat (first | apply Kd.R_alloc | apply Kd.R_drewN | apply Kd.R_drew)); exact HO835.out) hb); replace HO843 := ak (Kd.R_lower (Kd.R_new' (Kd.R_new' ho0 (Kd.R_lt qz57)) (Kd.R_lt (by (with_reducible repeat (first | apply Kd.R_alloc | apply Kd.R_drewN | apply Kd.R_drew)); exact HO839.out))) (below_size qz0)); replace HO_12 := ak (Kd.R_elder' qz57 (Kd.R_base ho0) hb); replace HO839 := ak (Kd.R_elder' (by (with_reducible repeat (first | apply Kd.R_alloc | apply Kd.R_drewN | apply Kd.R_drew)); exact HO839.out) (Kd.R_base ho0) hb); replace HB := ak (below_step qz0 hb); (try clear hb); (try clear hb2); (try clear hk); (try clear hi); (try clear ho0)))
             (try simp only [Act.put, List.setIfInBounds_toArray, List.set_cons_zero, List.set_cons_succ])
             go_cut [142] (fun v142 wc => ∃ (kq : Nat) (x142_50 : Bool), v142 = .bool x142_50 ∧ Aside0 (laws_FnBridges.j4 kq l0 x142_50 = some true) ∧ Aside0 (kq ≤ k4) ∧ Aside0 (Below w.heap.size w wc))
             case first =>
              have H := HC51.out; clear HC51; by_cases c57 : (t837 != t841) = true
              ·
               rw [if_pos c57] at H; have c57b0 : (t837 != t841) = true := c57; (try (have c57b1 : decide (t837 = t841) = false := by simpa using c57)); (try (have c57b2 : (t837 == t841) = false := by simpa using c57)); (try (have c57b3 : ¬ (t837 = t841) := by simpa using c57)); clear c57; (first | rw [c57b0] | (simp only [i64_w, i32_w]; rw [c57b0]) | skip); exact absurd H (by cases k4 <;> simp [laws_FnBridges.j4])
              ·
               rw [if_neg c57] at H; have c57b0 : (t837 != t841) = false := by simpa using c57
               (try (have c57b1 : decide (t837 = t841) = true := by simpa using c57)); (try (have c57b2 : (t837 == t841) = true := by simpa using c57)); clear c57; (first | rw [c57b0] | (simp only [i64_w, i32_w]; rw [c57b0]) | skip); replace H := Option.bind_eq_some_iff.mp H; obtain ⟨t844, A580, H⟩ := H; replace H : (laws_FnBridges.j4 k4 l0 (!t844)) = some true := H; have A58 := ak A580; clear A580; have H' := ak H; clear H; obtain ⟨Ao59, co59, eo59⟩ := Kd.R_slice HO839.out; subst eo59; obtain ⟨Ao60, co60, eo60⟩ := Kd.R_slice HO843.out; subst eo60; go_wp2_with (first | (go_at_call 13; (with_reducible refine (laws_vInts.calls k4 _ _ t836 _ _ t840 t844 _ ?side1 ?side2 ?side3 ?side4 A58.out).mono ?_); (case side1 => exact (by repeat (first | exact (Kd.R_reads' HO839.out).2.2 | (with_reducible refine Kd.C_alloc ?_ _) | (with_reducible refine Kd.C_drewN ?_ _) | (with_reducible refine Kd.C_drew ?_)))); (case side2 => exact (Kd.R_reads' HO839.out).2.1); (case side3 => exact (by repeat (first | exact (Kd.R_reads' HO843.out).2.2 | (with_reducible refine Kd.C_alloc ?_ _) | (with_reducible refine Kd.C_drewN ?_ _) | (with_reducible refine Kd.C_drew ?_)))); (case side4 => exact (Kd.R_reads' HO843.out).2.1); rintro e w' ⟨rfl, ⟨nd, rfl⟩⟩)); go_meet; (case rel => exact ⟨_, (!t844), qz8, H', ⟨(by have := HJ6.out; have := HJ13.out; have := HJ26.out; have := HK4.out; first | omega | exact Nat.le_refl _)⟩, ⟨qz0⟩⟩)
             case rest =>
              clear HC51; (try clear c1); (try clear p2); (try clear c3); (try clear c4); (try clear c5); (try clear p6); (try clear c7); (try clear p8); (try clear q8); (try clear hx8); (try clear c12); (try clear c12b0); (try clear c12b1); (try clear c12b2); (try clear c13); (try clear c15); (try clear c17); (try clear c18); (try clear c18b0); (try clear c18b1); (try clear c18b2); (try clear c32); (try clear c32b0); (try clear c32b1); (try clear c32b2); (try clear c36); (try clear c37); (try clear c37b0); (try clear c38); (try clear c38b0); (try clear c39); (try clear c40); (try clear c41); (try clear c42); (try clear c43); (try clear c44); (try clear c57); (try clear c57b0); (try clear c57b1); (try clear c57b2); (try clear hx829_0); (try clear p2); (try clear p829); (try clear q829); obtain ⟨kq, x142_50, rfl, HA, HJ50, HB⟩ := hcut
              cases kq with
              | zero => exact absurd HA.out (by simp [laws_FnBridges.j4])
              | succ kj50 =>
               have H := HA.out; clear HA; simp only [laws_FnBridges.j4] at H; by_cases c61 : x142_50 = true
               ·
                subst c61; have H1 : (some false) = some true := by rw [if_pos rfl] at H; exact H
                clear H; have H := H1; clear H1; exact absurd (Option.some.inj H) (by decide)
               ·
                replace c61 := Bool.eq_false_iff.mpr c61; subst c61; have H1 : ((spec_DrawCountLoops.f kj50 l0).bind fun t845 => ((impl_CountLoops.f t845).bind fun bt848 => ((spec_CountLoops.f kj50 t845).bind fun bt850 => (if bt848.1 = bt850.1 then (laws_FnBridges.j5 kj50 t845 bt848.1 bt848.2 (bt848.2 != bt850.2)) else (laws_FnBridges.j5 kj50 t845 bt848.1 bt848.2 true))))) = some true := by rw [if_neg (show ¬ (false = true) by decide)] at H; exact H
                clear H; have H := H1; clear H1; replace H := Option.bind_eq_some_iff.mp H; obtain ⟨t845, A620, H⟩ := H; replace H : ((impl_CountLoops.f t845).bind fun bt848 => ((spec_CountLoops.f kj50 t845).bind fun bt850 => (if bt848.1 = bt850.1 then (laws_FnBridges.j5 kj50 t845 bt848.1 bt848.2 (bt848.2 != bt850.2)) else (laws_FnBridges.j5 kj50 t845 bt848.1 bt848.2 true)))) = some true := H; have A62 := ak A620; clear A620; replace H := Option.bind_eq_some_iff.mp H; obtain ⟨⟨t848, t849⟩, A630, H⟩ := H; replace H : ((spec_CountLoops.f kj50 t845).bind fun bt850 => (if t848 = bt850.1 then (laws_FnBridges.j5 kj50 t845 t848 t849 (t849 != bt850.2)) else (laws_FnBridges.j5 kj50 t845 t848 t849 true))) = some true := H; have A63 := ak A630; clear A630; replace H := Option.bind_eq_some_iff.mp H; obtain ⟨⟨t850, t851⟩, A640, H⟩ := H; replace H : (if t848 = t850 then (laws_FnBridges.j5 kj50 t845 t848 t849 (t849 != t851)) else (laws_FnBridges.j5 kj50 t845 t848 t849 true)) = some true := H; have A64 := ak A640; clear A640; have HC65 := ak H; clear H
                go_upto_region 31 with (first | ((with_reducible refine gate_callee (f := 45) rfl ?_); refine gL (some 144) Tryd.func45 #[.slice A0 l0.length c0] ?_; (with_reducible refine (spec_DrawCountLoops.calls kj50 _ _ l0 t845 _ ?side1 ?side2 A62.out).mono ?_); (case side1 => exact qz15); (case side2 => exact HC0.out); rintro e w66 ⟨v846, rfl, ho0, hb⟩; refine ⟨_, rfl, ?_⟩; replace HO847 := ak (Kd.R_lower ho0 (below_size qz0)); replace HB := ak (below_step qz0 hb); (try clear hb); (try clear hb2); (try clear hk); (try clear hi); (try clear ho0); obtain ⟨Ao67, co67, eo67⟩ := Kd.R_slice HO847.out; subst eo67) | ((with_reducible refine gate_callee (f := 46) rfl ?_); refine gL (some 147) Tryd.func46 #[.slice Ao67 t845.length co67] ?_; (with_reducible refine (impl_CountLoops.calls _ _ t845 t848 t849 _ ?side1 ?side2 A63.out ?sideL).mono ?_); (case sideL => exact HL.out.keep qz40); (case side1 => exact (by repeat (first | exact (Kd.R_reads' HO847.out).2.2 | (with_reducible refine Kd.C_alloc ?_ _) | (with_reducible refine Kd.C_drewN ?_ _) | (with_reducible refine Kd.C_drew ?_)))); (case side2 => exact (Kd.R_reads' HO847.out).2.1); rintro e w68 ⟨rfl, hb⟩; refine ⟨_, rfl, ?_⟩; replace HO847 := ak (Kd.R_below qz111 hb); replace HB := ak (below_step qz0 hb); (try clear hb); (try clear hb2); (try clear hk); (try clear hi)) | ((with_reducible refine gate_callee (f := 47) rfl ?_); refine gL (some 152) Tryd.func47 #[.slice Ao67 t845.length co67] ?_; (with_reducible refine (spec_CountLoops.calls kj50 _ _ t845 t850 t851 _ ?side1 ?side2 A64.out).mono ?_); (case side1 => exact (by repeat (first | exact (Kd.R_reads' HO847.out).2.2 | (with_reducible refine Kd.C_alloc ?_ _) | (with_reducible refine Kd.C_drewN ?_ _) | (with_reducible refine Kd.C_drew ?_)))); (case side2 => exact (Kd.R_reads' HO847.out).2.1); rintro e w69 ⟨rfl, hb⟩; refine ⟨_, rfl, ?_⟩; replace HO847 := ak (Kd.R_below qz111 hb); replace HB := ak (below_step qz0 hb); (try clear hb); (try clear hb2); (try clear hk); (try clear hi)))
                (try simp only [Act.put, List.setIfInBounds_toArray, List.set_cons_zero, List.set_cons_succ])
                go_cut [162] (fun v162 wc => ∃ (kq : Nat) (x162_64 : Bool), v162 = .bool x162_64 ∧ Aside0 (laws_FnBridges.j5 kq t845 t848 t849 x162_64 = some true) ∧ Aside0 (kq ≤ kj50) ∧ Aside0 (Kd.R k49 49 wc w.heap.size (fun _ => True) (.slice Ao67 t845.length co67) t845) ∧ Aside0 (Below w.heap.size w wc))
                case first =>
                 have H := HC65.out; clear HC65; by_cases c70 : t848 = t850
                 ·
                  rw [if_pos c70] at H; have c70b0 : (t848 == t850) = true := beq_iff_eq.mpr c70; have c70b1 : (t848 != t850) = false := bne_eq_false_iff_eq.mpr c70; clear c70; (first | rw [c70b0] | (simp only [i64_w, i32_w]; rw [c70b0]) | skip); have H' := ak H; clear H; go_wp2; go_meet; (case rel => exact ⟨_, ((t849 != t851)), qz8, H', ⟨(by have := HJ6.out; have := HJ13.out; have := HJ26.out; have := HK4.out; have := HJ50.out; first | omega | exact Nat.le_refl _)⟩, ⟨qz111⟩, ⟨qz0⟩⟩)
                 ·
                  rw [if_neg c70] at H; have c70b0 : (t848 == t850) = false := beq_eq_false_iff_ne.mpr c70; have c70b1 : (t848 != t850) = true := bne_iff_ne.mpr c70; (first | rw [c70b0] | (simp only [i64_w, i32_w]; rw [c70b0]) | skip); exact absurd H (by cases kj50 <;> simp [laws_FnBridges.j5])
                case rest =>
                 clear HC65; (try clear c1); (try clear p2); (try clear c3); (try clear c4); (try clear c5); (try clear c6); (try clear p6); (try clear c7); (try clear p8); (try clear q8); (try clear hx8); (try clear c12); (try clear c12b0); (try clear c12b1); (try clear c12b2); (try clear c13); (try clear c15); (try clear c17); (try clear c18); (try clear c18b0); (try clear c18b1); (try clear c18b2); (try clear c32); (try clear c32b0); (try clear c32b1); (try clear c32b2); (try clear c36); (try clear c37); (try clear c37b0); (try clear c38); (try clear c38b0); (try clear c39); (try clear c40); (try clear c41); (try clear c42); (try clear c43); (try clear c44); (try clear c45); (try clear c46); (try clear c47); (try clear c57); (try clear c57b0); (try clear c57b1); (try clear c57b2); (try clear c61); (try clear p64); (try clear c70); (try clear c70b0); (try clear c70b1); (try clear hx829_0); (try clear p2); (try clear p6); (try clear p8); (try clear p829); (try clear q8); (try clear q829); obtain ⟨kq, x162_64, rfl, HA, HJ64, HO_25, HB⟩ := hcut
                 cases kq with
                 | zero => exact absurd HA.out (by simp [laws_FnBridges.j5])
                 | succ kj64 =>
                  have H := HA.out; clear HA; simp only [laws_FnBridges.j5] at H; by_cases c71 : x162_64 = true
                  ·
                   subst c71; have H1 : (some false) = some true := by rw [if_pos rfl] at H; exact H
                   clear H; have H := H1; clear H1; exact absurd (Option.some.inj H) (by decide)
                  ·
                   replace c71 := Bool.eq_false_iff.mpr c71; subst c71; have H1 : (if t849 = true then ((impl_ClosingLegs.f t845).bind fun bt852 => (if bt852.2 = true then (some ((bt852.1.length : Int) == t848)) else (some false))) else (some true)) = some true := by rw [if_neg (show ¬ (false = true) by decide)] at H; exact H
                   clear H; have H := H1; clear H1; by_cases c72 : t849 = true
                   ·
                    subst c72; have H1 : ((impl_ClosingLegs.f t845).bind fun bt852 => (if bt852.2 = true then (some ((bt852.1.length : Int) == t848)) else (some false))) = some true := by rw [if_pos rfl] at H; exact H
                    clear H; have H := H1; clear H1; replace H := Option.bind_eq_some_iff.mp H; obtain ⟨⟨t852, t853⟩, A730, H⟩ := H; replace H : (if t853 = true then (some ((t852.length : Int) == t848)) else (some false)) = some true := H; have A73 := ak A730; clear A730; by_cases c74 : t853 = true
                    ·
                     subst c74; have H1 : (some ((t852.length : Int) == t848)) = some true := by rw [if_pos rfl] at H; exact H
                     clear H; have H := H1; clear H1; (try exact absurd (Option.some.inj H) (by decide))
                     all_goals (have hr_ := Option.some.inj H)
                     all_goals go_wp2_with (first | ((with_reducible refine gate_callee (f := 11) rfl ?_); refine gL (some 166) Tryd.func11 #[.slice Ao67 t845.length co67] ?_; (with_reducible refine (impl_ClosingLegs.calls _ _ t845 t852 true _ ?side1 ?side2 A73.out ?sideL).mono ?_); (case sideL => exact HL.out.keep qz40); (case side1 => exact (by repeat (first | exact (Kd.R_reads' HO_25.out).2.2 | (with_reducible refine Kd.C_alloc ?_ _) | (with_reducible refine Kd.C_drewN ?_ _) | (with_reducible refine Kd.C_drew ?_)))); (case side2 => exact (Kd.R_reads' HO_25.out).2.1); rintro e w75 ⟨v854, rfl, ho0, hb⟩; refine ⟨_, rfl, ?_⟩; replace HO_25 := ak (Kd.R_below (by (with_reducible repeat (first | apply Kd.R_alloc | apply Kd.R_drewN | apply Kd.R_drew)); exact HO_25.out) hb); replace HO855 := ak (Kd.R_lower ho0 (below_size qz0)); replace HB := ak (below_step qz0 hb); (try clear hb); (try clear hb2); (try clear hk); (try clear hi); (try clear ho0); obtain ⟨Ao76, co76, eo76⟩ := Kd.R_slice HO855.out; subst eo76))
                     all_goals go_ret
                     all_goals exact ⟨qz5, qz0⟩
                    ·
                     replace c74 := Bool.eq_false_iff.mpr c74; subst c74; have H1 : (some false) = some true := by rw [if_neg (show ¬ (false = true) by decide)] at H; exact H
                     clear H; have H := H1; clear H1; exact absurd (Option.some.inj H) (by decide)
                   ·
                    replace c72 := Bool.eq_false_iff.mpr c72; subst c72; have H1 : (some true) = some true := rfl; clear H; have H := H1; clear H1; go_wp2; go_ret; exact ⟨qz5, qz0⟩
end Go.Proofs.YtcafgpincnkcdaaDoor.A
namespace Go.Proofs.YtcafgpincnkcdaaDoor.Draw
open Go Go.RowKit YtcafgpincnkcdaaDoorW.PrintWords Plain A
def Oks {α : Type} (g : Nat → Option α) (P : α → Prop) : Prop := ∃ r, Ev g r ∧ P r
theorem Oks.bind {α β : Type} {g : Nat → Option α} {f : Nat → α → Option β} {P : α → Prop} {Q : β → Prop} (h : Oks g P) (k : ∀ r, P r → Oks (fun n => f n r) Q) : Oks (fun n => (g n).bind (f n)) Q := by
  obtain ⟨r, h1, h2⟩ := h; obtain ⟨q, k1, k2⟩ := k r h2; exact ⟨q, Ev.bind h1 k1, k2⟩
theorem Oks.now {α : Type} {P : α → Prop} {r : α} (h : P r) : Oks (fun _ => some r) P := ⟨r, Ev.now _, h⟩
theorem Oks.pos {α : Type} {c : Prop} [Decidable c] {g f : Nat → Option α} {P : α → Prop} (hc : c) (h : Oks g P) : Oks (fun n => if c then g n else f n) P := by
  obtain ⟨r, h1, h2⟩ := h; exact ⟨r, Ev.pos hc h1, h2⟩
theorem Oks.neg {α : Type} {c : Prop} [Decidable c] {g f : Nat → Option α} {P : α → Prop} (hc : ¬ c) (h : Oks f P) : Oks (fun n => if c then g n else f n) P := by
  obtain ⟨r, h1, h2⟩ := h; exact ⟨r, Ev.neg hc h1, h2⟩
theorem Oks.ite {α : Type} {c : Prop} [Decidable c] {g f : Nat → Option α} {P : α → Prop} (h : c → Oks g P) (k : ¬ c → Oks f P) : Oks (fun n => if c then g n else f n) P := by
  by_cases hc : c
  · exact Oks.pos hc (h hc)
  · exact Oks.neg hc (k hc)
theorem Oks.step {α : Type} {g f : Nat → Option α} {P : α → Prop} (e : ∀ k, g (k + 1) = f k) (h : Oks f P) : Oks g P := by
  obtain ⟨r, h1, h2⟩ := h; exact ⟨r, Ev.step e h1, h2⟩
theorem Oks.imp {α : Type} {g : Nat → Option α} {P Q : α → Prop} (h : Oks g P) (k : ∀ r, P r → Q r) : Oks g Q := by
  obtain ⟨r, h1, h2⟩ := h; exact ⟨r, h1, k r h2⟩
theorem Oks.of {α : Type} {g : Nat → Option α} {P : α → Prop} {r : α} (h : Ev g r) (k : P r) : Oks g P := ⟨r, h, k⟩
def Bytes (code : List Int) : Prop := ∀ x ∈ code, 0 ≤ x ∧ x ≤ 255
theorem Bytes.of_wf {code : List Int} (h : ∀ x ∈ code, (Lit.int .u8 x).wf = true) : Bytes code := fun x hx => by
  have := h x hx; simp only [Lit.wf, IntKind.min, IntKind.max, IntKind.signed, IntKind.bits, Bool.and_eq_true, decide_eq_true_eq, Bool.false_eq_true, if_false] at this; omega
theorem Bytes.at_ {code : List Int} (h : Bytes code) (i : Int) : 0 ≤ rd code i ∧ rd code i ≤ 255 := by
  have e : rd code i = code.getD i.toNat 0 := rfl; rw [e]; by_cases hi : i.toNat < code.length
  · have e2 : code.getD i.toNat 0 = code[i.toNat] := by simp [List.getD, hi]
    rw [e2]; exact h _ (List.getElem_mem hi)
  · have e2 : code.getD i.toNat 0 = 0 := by simp [List.getD, hi]
    rw [e2]; omega
theorem and255 (x : Int) (h0 : 0 ≤ x) (h1 : x ≤ 18446744073709551615) : 0 ≤ Go.bits .and .u64 x 255 ∧ Go.bits .and .u64 x 255 ≤ 255 := by
  have h := bits_and_u64_nat x.toNat 255 (by omega) (by omega); rw [Int.toNat_of_nonneg h0] at h; have h2 : x.toNat &&& 255 ≤ 255 := Nat.and_le_right; have e : Go.bits .and .u64 x 255 = ((x.toNat &&& 255 : Nat) : Int) := h; rw [e]; omega
theorem seed_low (x : Int) : 0 ≤ wrap64 (Go.bits .and .u64 (IntKind.u64.wrap x / 1099511627776) 255) ∧ wrap64 (Go.bits .and .u64 (IntKind.u64.wrap x / 1099511627776) 255) ≤ 255 := by
  have h := IntKind.wrap_u64 x; have h2 := and255 (IntKind.u64.wrap x / 1099511627776) (by omega) (by omega); rw [w64 (by omega) (by omega)]; exact h2
theorem next_ok {code : List Int} (hc : Bytes code) (hl : code.length ≤ 65536) (a s : Int) (h0 : 0 ≤ a) (h1 : a ≤ 1000000000) : ∃ v s', spec_l1Cur_next.f code a s = some (v, a + 1, s') ∧ 0 ≤ v ∧ v ≤ 255 := by
  have hr := hc.at_ a; have e1 : wrap64 (rd code a) = rd code a := w64 (by omega) (by omega); have e2 : wrap64 (a + 1) = a + 1 := w64 (by omega) (by omega); unfold spec_l1Cur_next.f; rw [e2]; by_cases c1 : a < (code.length : Int)
  · rw [if_pos c1, if_pos h0, if_pos (by omega), e1]
    exact ⟨_, _, rfl, hr⟩
  · rw [if_neg c1, if_neg (by omega)]
    exact ⟨_, _, rfl, seed_low _⟩
theorem pick_ok {code : List Int} (hc : Bytes code) (hl : code.length ≤ 65536) (a s n : Int) (h0 : 0 ≤ a) (h1 : a ≤ 100000000) : ∃ v a' s', spec_l1Cur_pick.f code a s n = some (v, a', s') ∧ 0 ≤ v ∧ (0 < n → v < n) ∧ a ≤ a' ∧ a' ≤ a + 2 := by
  unfold spec_l1Cur_pick.f; by_cases c1 : n ≤ 1
  · rw [if_pos c1]
    exact ⟨0, a, s, rfl, by omega, by omega, by omega, by omega⟩
  rw [if_neg c1]; obtain ⟨v, s1, e, hv⟩ := next_ok hc hl a s h0 (by omega); rw [e, Option.bind_some]; by_cases c2 : n > 200
  · obtain ⟨v2, s2, e2, hv2⟩ := next_ok hc hl (a + 1) s1 (by omega) (by omega)
    have e3 : wrap64 (wrap64 (v * 256) + v2) = v * 256 + v2 := by rw [w64 (x := v * 256) (by omega) (by omega), w64 (by omega) (by omega)]
    rw [if_pos c2, e2, Option.bind_some, if_neg (by omega), e3]; have hm := Int.tmod_lt_of_pos (v * 256 + v2) (show (0 : Int) < n by omega); have hm0 := Int.tmod_nonneg n (show (0 : Int) ≤ v * 256 + v2 by omega); exact ⟨_, _, _, rfl, hm0, fun _ => hm, qz71, qz71⟩
  · rw [if_neg c2, if_neg (by omega)]
    have hm := Int.tmod_lt_of_pos v (show (0 : Int) < n by omega); have hm0 := Int.tmod_nonneg n (show (0 : Int) ≤ v by omega); exact ⟨_, _, _, rfl, hm0, fun _ => hm, qz71, qz71⟩
theorem among_ok {code : List Int} (hc : Bytes code) (hl : code.length ≤ 65536) (a s : Int) (l : List Int) (hn : 0 < l.length) (h0 : 0 ≤ a) (h1 : a ≤ 100000000) : ∃ v a' s', spec_l1Cur_among.f code a s l = some (v, a', s') ∧ v ∈ l ∧ a ≤ a' ∧ a' ≤ a + 2 := by
  unfold spec_l1Cur_among.f; obtain ⟨v, a', s', e, hv0, hv1, ha⟩ := pick_ok hc hl a s (l.length : Int) h0 h1; have hv := hv1 (by omega); rw [e, Option.bind_some, if_pos hv0, if_pos hv]; refine ⟨_, _, _, rfl, ?_, ha⟩; have e2 : rd l v = l.getD v.toNat 0 := rfl; have hi : v.toNat < l.length := by omega
  have e3 : l.getD v.toNat 0 = l[v.toNat] := by simp [List.getD, hi]
  rw [e2, e3]; exact List.getElem_mem _
theorem pickK {code : List Int} (hc : Bytes code) (hl : code.length ≤ 65536) (a s n : Int) (h0 : 0 ≤ a) (h1 : a ≤ 100000000) : Oks (fun _ => spec_l1Cur_pick.f code a s n) (fun r => 0 ≤ r.1 ∧ (0 < n → r.1 < n) ∧ a ≤ r.2.1 ∧ r.2.1 ≤ a + 2) := by
  obtain ⟨v, a', s', e, h⟩ := pick_ok hc hl a s n h0 h1; exact ⟨_, Ev.some (fun _ => e), h⟩
theorem amongK {code : List Int} (hc : Bytes code) (hl : code.length ≤ 65536) (a s : Int) (l : List Int) (hn : 0 < l.length) (h0 : 0 ≤ a) (h1 : a ≤ 100000000) : Oks (fun _ => spec_l1Cur_among.f code a s l) (fun r => r.1 ∈ l ∧ a ≤ r.2.1 ∧ r.2.1 ≤ a + 2) := by
  obtain ⟨v, a', s', e, h⟩ := among_ok hc hl a s l hn h0 h1; exact ⟨_, Ev.some (fun _ => e), h⟩
theorem oneK {code : List Int} (hc : Bytes code) (hl : code.length ≤ 65536) (a s n : Int) (h0 : 0 ≤ a) (h1 : a ≤ 100000000) : Oks (fun _ => spec_l1Cur_one.f code a s n) (fun r => a ≤ r.2.1 ∧ r.2.1 ≤ a + 2) := by
  obtain ⟨v, a', s', e, h⟩ := pick_ok hc hl a s n h0 h1; exact ⟨(v == 0, a', s'), Ev.some (fun _ => by unfold spec_l1Cur_one.f; rw [e]; rfl), h.2.2⟩
variable {code : List Int} (hc : Bytes code) (hl : code.length ≤ 65536)
include hc hl
theorem leg_j0 (a s b0 b1 b2 b3 b4 : Int) (h0 : 0 ≤ a) (h1 : a ≤ 90000000) : Oks (fun k => spec_l1Cur_leg.j0 k code a s b0 b1 b2 b3 b4) (fun r => a ≤ r.2.2.2.2.2.1 ∧ r.2.2.2.2.2.1 ≤ a + 4) := by
  refine Oks.step (fun k => by simp only [spec_l1Cur_leg.j0]; rfl) ?_; refine Oks.bind (pickK hc hl a s 40 h0 (by omega)) ?_; rintro ⟨v, a1, s1⟩ ⟨e1, e2, e3, e4⟩
  dsimp only at e1 e2 e3 e4 ⊢
  refine Oks.ite (fun _ => ?_) (fun _ => Oks.ite (fun _ => ?_) (fun _ => Oks.ite (fun _ => ?_) (fun _ => Oks.ite (fun _ => ?_) (fun _ => Oks.now ⟨qz71, qz71⟩))))
  all_goals
    refine Oks.bind (amongK hc hl a1 s1 _ (by simp) (by omega) (by omega)) ?_; rintro ⟨u, a2, s2⟩ ⟨_, g3, g4⟩
    dsimp only at g3 g4 ⊢
    exact Oks.now ⟨qz71, qz71⟩
theorem legK (a s : Int) (h0 : 0 ≤ a) (h1 : a ≤ 80000000) : Oks (fun k => spec_l1Cur_leg.f k code a s) (fun r => a ≤ r.2.2.2.2.2.1 ∧ r.2.2.2.2.2.1 ≤ a + 20) := by
  unfold spec_l1Cur_leg.f; refine Oks.bind (pickK hc hl a s 6 h0 (by omega)) ?_; rintro ⟨v1, a1, s1⟩ ⟨_, _, e3, e4⟩
  dsimp only at e3 e4 ⊢
  refine Oks.bind (pickK hc hl a1 s1 6 (by omega) (by omega)) ?_; rintro ⟨v2, a2, s2⟩ ⟨_, _, f3, f4⟩
  dsimp only at f3 f4 ⊢
  refine Oks.bind (amongK hc hl a2 s2 _ (by simp) (by omega) (by omega)) ?_; rintro ⟨v3, a3, s3⟩ ⟨_, g3, g4⟩
  dsimp only at g3 g4 ⊢
  refine Oks.bind (amongK hc hl a3 s3 _ (by simp) (by omega) (by omega)) ?_; rintro ⟨v4, a4, s4⟩ ⟨_, h3, h4⟩
  dsimp only at h3 h4 ⊢
  refine Oks.bind (amongK hc hl a4 s4 _ (by simp) (by omega) (by omega)) ?_; rintro ⟨v5, a5, s5⟩ ⟨_, i3, i4⟩
  dsimp only at i3 i4 ⊢
  exact Oks.ite (fun _ => (leg_j0 hc hl a5 s5 _ _ _ _ _ (by omega) (by omega)).imp fun r ⟨k1, k2⟩ => ⟨by omega, by omega⟩) (fun _ => (leg_j0 hc hl a5 s5 _ _ _ _ _ (by omega) (by omega)).imp fun r ⟨k1, k2⟩ => ⟨by omega, by omega⟩)
end Go.Proofs.YtcafgpincnkcdaaDoor.Draw
