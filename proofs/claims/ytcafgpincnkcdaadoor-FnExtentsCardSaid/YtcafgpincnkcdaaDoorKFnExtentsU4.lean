/- The program's StationsWithin, in the form of the printed functions, over the laid table of sines. -/
import Derived.Test.YtcafgpincnkcdaaDoorKFnExtentsU3
set_option linter.unusedSimpArgs false
set_option linter.unusedVariables false
namespace Go.Proofs.YtcafgpincnkcdaaDoor.A
open Go.RowKit YtcafgpincnkcdaaDoorW.PrintWords YtcafgpincnkcdaaDoorW.PrintLast YtcafgpincnkcdaaDoorW.PrintMore
open Net Plain
def impl_StationsWithin.f (l0 : List (S49)) (a1 a2 : Int) : Option (List Int × Bool) := if l0.length ≤ 140737488351232 then some (if legsB l0 = true ∧ a1 ∈ plL (RR l0) ∧ 0 ≤ a2 then (nearL l0 a1.toNat a2 (plL (RR l0)), true) else ([], false)) else none
set_option maxHeartbeats 2000000 in
set_option maxRecDepth 100000 in
theorem impl_StationsWithin.calls (A0 : Option Addr) (c : Nat) (ls : List (S49)) (a1 : Int) (a2 : Int) (r1 : List Int) (r2 : Bool) (w : World) (hr0 : Kd.C k49 w A0 ls.length ls) (hc : ls.length ≤ c) (h : impl_StationsWithin.f ls a1 a2 = some (r1, r2)) (hL : Sine.Laid w) :
    Calls Tryd.prog 27 #[.slice A0 ls.length c, .int .i64 a1, .int .i64 a2] w fun e w' => ∃ v0_ : Value, e = .returned (.tuple #[v0_, .bool r2]) ∧ Kd.R (Kd.int .i64) 3 w' w.heap.size (fun _ => True) v0_ r1 ∧ Below w.heap.size w w' := by
  unfold impl_StationsWithin.f at h; by_cases hb : ls.length ≤ 140737488351232
  · rw [if_pos hb] at h
    have HR := ak hr0; have HL := ak hL; have HB := ak (Below.refl w.heap.size w); clear hr0 hL; by_cases hg0 : legsB ls = true ∧ (0 ≤ a1 ∧ a1 < 8)
    · obtain ⟨hv, hs0, hs8⟩ := hg0
      obtain ⟨b, rfl⟩ := Int.eq_ofNat_of_zero_le hs0; have hv' := legsB_iff.mp hv; have HG := ak hv'.1; have hn := hv'.2; have hpq : Pq (RR ls) (b : Int).toNat = decide ((b : Int) ∈ plL (RR ls)) := by rw [Pq_eq, Int.toNat_natCast]
      by_cases hp : (b : Int) ∈ plL (RR ls)
      · rw [decide_eq_true hp] at hpq
        by_cases hd : a2 < 0
        · rw [if_neg (fun e => by have := e.2.2; omega)] at h
          simp only [Option.some.injEq, Prod.mk.injEq] at h; obtain ⟨rfl, rfl⟩ := h; clear hp hv'; go_enter Tryd.func27, Tryd.ntmps27; go_wp2_with (go_at_call 70; (with_reducible refine (placedAt A0 c ls (b : Int) _ ?s0 ?s1 hc hv hs0 hs8).mono ?_); (case s0 => exact HL.out.keep qz11); (case s1 => exact Kd.C_below HR.out qz11); rintro e w' ⟨g, T, cA, cC, rfl, _, _, hw⟩; rw [hpq]; replace HB := ak (below_step (show Below w.heap.size w _ from by (repeat (first | exact HB.out | exact Below.refl _ _ | apply below_alloc | apply pw_below_drewN | apply below_drew1)); done) hw); clear hw); exact bodyPost_ret (v := .tuple #[.slice none 0 0, .bool false]) qz148 rfl ⟨_, rfl, Kd.R_nil _ _ _ _ _, qz150⟩
        · rw [if_pos ⟨hv, hp, by omega⟩, Int.toNat_natCast] at h
          simp only [Option.some.injEq, Prod.mk.injEq] at h; obtain ⟨rfl, rfl⟩ := h; obtain ⟨pl, hpl⟩ : ∃ pl, pl = plL (RR ls) := ⟨_, rfl⟩
          have HPL := ak (show pl.length ≤ 8 from by rw [hpl]; exact plL_small HG.out)
          have HMem : Aside0 (∀ j : Nat, (hj : j < pl.length) → ∃ k : Nat, pl[j] = (k : Int) ∧ k < 8) := ⟨fun j hj => by
            have hm : pl[j] ∈ plL (RR ls) := by rw [← hpl]; exact List.getElem_mem hj
            have h8 := Grow.in_range (ends ls) (RR_ok HG.out).1 (Good.range HG.out) _ ((mem_plL _ _).mp hm); obtain ⟨k, hk⟩ := Int.eq_ofNat_of_zero_le h8.1
            exact ⟨k, hk, by omega⟩⟩
          have HRS := ak (show nearL ls b a2 (plL (RR ls)) = nearL ls b a2 (pl.take pl.length) from by rw [List.take_length, hpl]); have HPE := ak (show selTo (Pq (RR ls)) 8 = pl from by rw [hpl]; exact plL_sel HG.out); clear hv' hpl hp; go_enter Tryd.func27, Tryd.ntmps27
          go_wp2_with (first
            | (go_at_call 70; (with_reducible refine (placedAt A0 c ls (b : Int) _ ?s0 ?s1 hc hv hs0 hs8).mono ?_); (case s0 => exact HL.out.keep qz11); (case s1 => exact Kd.C_below HR.out qz11); rintro e w' ⟨g, T, cA, cC, rfl, hst, _, hw⟩; rw [hpq]; replace HB := ak (below_step (show Below w.heap.size w _ from by (repeat (first | exact HB.out | exact Below.refl _ _ | apply below_alloc | apply pw_below_drewN | apply below_drew1)); done) hw); have HS := ak hst; clear hw hst)
            | (go_at_call 65; have hq := stationsW _ (HS.out.keep qz143); (with_reducible refine hq.mono ?_); clear hq; rintro e w3 ⟨v, rfl, hv3, hw⟩; have hsz := below_size HB.out; have hgs : g < w'.heap.size := World.block_lt_of_cell? _ _ HS.out.tc; have hTs := HS.out.ge; rw [HPE.out] at hv3; have HP := ak (show Kd.R (Kd.int .i64) 3 w3 w.heap.size (fun k => k ≠ g ∧ k ≠ T) v pl from Kd.R_mono (Kd.R_lower hv3 hsz) (fun k hk => ⟨by omega, by omega⟩)); replace HB := ak (below_step HB.out hw); replace HS := ak (HS.out.keep hw); clear hv3 hw; obtain ⟨pA, pC, ep⟩ := Kd.R_slice HP.out; subst ep))
          have hown : ∀ k, Value.ownBlock (Value.slice none 0 0) = some k → False := by intro k hk; simp [Value.ownBlock] at hk
          go_loopw [10, 28] (fun v10 v28 w' => ∃ (j : Nat), j ≤ pl.length ∧ v28 = .int .i64 j ∧ Aside0 (Kd.R (Kd.int .i64) 3 w' w.heap.size (fun k => k ≠ g ∧ k ≠ T ∧ some k ≠ (Value.slice pA pl.length pC).ownBlock) v10 (nearL ls b a2 (pl.take j))) ∧ Aside0 (Kd.R (Kd.int .i64) 3 w' w.heap.size (fun k => (k ≠ g ∧ k ≠ T) ∧ some k ≠ v10.ownBlock) (.slice pA pl.length pC) pl) ∧ Aside0 (St ls.length T g (Pq (RR ls)) (Xq ls (RR ls)) (Bq (RR ls)) (.slice cA (closeL ls).length cC) w') ∧ Aside0 (Below w.heap.size w w')) (fun _ v28 _ => pl.length - (intOf v28).toNat)
          case atStart => exact ⟨0, Nat.zero_le _, rfl, ⟨(by rw [List.take_zero]; exact Kd.R_nil _ _ _ _ _)⟩, ⟨Kd.R_mono HP.out (fun k hk => ⟨hk, fun e => hown k e.symm⟩)⟩, HS, HB⟩
          case round =>
            obtain ⟨j, hj, rfl, HV, HC, HS2, HB2⟩ := hrel; clear HP HB HS hown; have HO := HC; have HB := HB2; have HS := HS2; clear HC HB2 HS2; obtain ⟨vA, vC, ev⟩ := Kd.R_slice HV.out; subst ev; by_cases hlt : j < pl.length
            · obtain ⟨ad, e1, h1⟩ := Kd.at_int (Kd.R_reads' HO.out).2.2 (j : Int) (by omega) (by omega)
              subst e1; rw [rd_at _ j hlt, Int.toNat_natCast] at h1; obtain ⟨a, hk1, hk2⟩ := HMem.out j hlt
              have HE : Aside0 (nearL ls b a2 (pl.take (j + 1)) = if nearM ls b a ≤ a2 then nearL ls b a2 (pl.take j) ++ [(a : Int)] else nearL ls b a2 (pl.take j)) := ⟨by
                rw [List.take_succ_eq_append_getElem hlt, hk1]; unfold nearL; rw [List.filter_append]; split
                · rename_i h; rw [List.filter_cons_of_pos (by simpa using h), List.filter_nil]
                · rename_i h; rw [List.filter_cons_of_neg (by simpa using h), List.filter_nil, List.append_nil]⟩
              have HTL : Aside0 ((nearL ls b a2 (pl.take j)).length ≤ 8) := ⟨by
                unfold nearL
                exact Nat.le_trans (List.length_filter_le _ _) (by rw [List.length_take]; have := HPL.out; omega)⟩
              rw [hk1] at h1; clear hk1; have hpl := HPL.out; have ob := off_bound HG.out b a; obtain ⟨K2, hK2⟩ := apart_ev (Xq ls (RR ls) a) (Xq ls (RR ls) b) ob.1 ob.2.1 ob.2.2; have HAP := ak (hK2 K2 (Nat.le_refl _)); clear hK2 ob; rw [show sizeM (plus (Xq ls (RR ls) a) (Xq ls (RR ls) b) (-1)).f0 (plus (Xq ls (RR ls) a) (Xq ls (RR ls) b) (-1)).f1 (plus (Xq ls (RR ls) a) (Xq ls (RR ls) b) (-1)).f2 = nearM ls b a from rfl] at HAP; have hb8 : b < 8 := by omega
              have p0 := HS.out.px a hk2; have p1 := HS.out.py a hk2; have p2 := HS.out.pz a hk2; have q0 := HS.out.px b hb8; have q1 := HS.out.py b hb8; have q2 := HS.out.pz b hb8; have ka0 : (0 : Int) ≤ (a : Int) := by omega
              have ka1 : (a : Int) < 8 := by omega
              have ka2 : (a : Int) < ((8 : Nat) : Int) := by omega
              generalize nearM ls b a = nm at *; go_wp2_with fail
              go_region_held3 (fun w' => w'.cell? ⟨g, 8 + a * 3, none⟩ = some (.int .i64 (Xq ls (RR ls) a).f0) ∧ w'.cell? ⟨g, 8 + a * 3 + 1, none⟩ = some (.int .i64 (Xq ls (RR ls) a).f1) ∧ w'.cell? ⟨g, 8 + a * 3 + 2, none⟩ = some (.int .i64 (Xq ls (RR ls) a).f2) ∧ w'.cell? ⟨g, 8 + b * 3, none⟩ = some (.int .i64 (Xq ls (RR ls) b).f0) ∧ w'.cell? ⟨g, 8 + b * 3 + 1, none⟩ = some (.int .i64 (Xq ls (RR ls) b).f1) ∧ w'.cell? ⟨g, 8 + b * 3 + 2, none⟩ = some (.int .i64 (Xq ls (RR ls) b).f2))
                ((repeat' refine And.intro ?_ ?_) <;> exact Sine.keepc (w := wr) qz151 qz32)
                (first | (go_at_call 80; (with_reducible refine (impl_apart.calls K2 (Xq ls (RR ls) a).f0 (Xq ls (RR ls) a).f1 (Xq ls (RR ls) a).f2 (Xq ls (RR ls) b).f0 (Xq ls (RR ls) b).f1 (Xq ls (RR ls) b).f2 nm _ HAP.out).mono ?_); rintro e w3 ⟨rfl, hw3⟩
                          have hbw := below_step (show Below wr.heap.size wr _ from by (repeat (first | exact Below.refl _ _ | apply pw_below_drewN | apply below_drew1 | exact HB.out | refine below_step ?_ qz151)); done) hw3; replace HV := ak (Kd.R_below HV.out hbw); replace HO := ak (Kd.R_below HO.out hbw); replace HS := ak (HS.out.keep hbw); replace HB := ak (below_step HB.out hbw)
                          clear hbw))
              by_cases hnd : nm ≤ a2
              · rw [if_pos hnd] at HE
                have hgs : g < w3.heap.size := World.block_lt_of_cell? _ _ HS.out.tc; have hTs := HS.out.ge
                go_wp2_with ((with_reducible refine gate_builtin (b := .append) (xs := #[.tmp 47, .tmp 49]) rfl ?_); at_builtin; refine Kd.R_append (Kd.int .i64) (w0 := w) w.heap.size rfl (.tmp 47) (.tmp 49) 26 3 (.int .i64 0) 8 rfl Tryd.underlying26 info3 rfl (by decide) (by omega) (.slice vA (nearL ls b a2 (pl.take j)).length vC) (nearL ls b a2 (pl.take j)) (a : Int) [.int .i64 (a : Int)] (fun k => k ≠ g ∧ k ≠ T ∧ some k ≠ (Value.slice (some ad) pl.length pC).ownBlock) (fun _ => False) rfl rfl ?aP (fun _ hk => hk.elim) ?aF ?aO ?aB ?aS ?aL ?_; (case aP => exact rfl); (case aF => exact (by intro b hb; exact ⟨by omega, by omega, Kd.fresh' (Kd.R_lt HO.out) b hb⟩)); (case aO => exact HV.out); (case aB => exact HB.out); (case aS => exact below_size HB.out); (case aL => have := HTL.out; omega)
                             intro v7_ w7_ ho hb hg hat; have HP1 := ak (Kd.R_after (ok := fun k => k ≠ g ∧ k ≠ T) HO.out hg hat); have HP2 := ak ho; have HP3 := ak hb
                             have HP4 := ak (HS.out.blocks (hg.block g hgs (fun e => (HV.out.1 _ e.symm).1 rfl)) (hg.block T hTs (fun e => (HV.out.1 _ e.symm).2.1 rfl)) hg.size))
                exact ⟨⟨j + 1, hlt, by go_num, (by rw [HE.out]; exact HP2), HP1, HP4, HP3⟩, qz126⟩
              · rw [if_neg hnd] at HE
                go_wp2; exact ⟨⟨j + 1, hlt, by go_num, qz141, HO, HS, HB⟩, qz126⟩
            · go_wp2
              obtain rfl : j = pl.length := by omega
              exact bodyPost_ret (v := .tuple #[.slice vA (nearL ls b a2 (pl.take pl.length)).length vC, .bool true]) qz148 rfl ⟨_, rfl, (by rw [HRS.out]; exact Kd.R_mono HV.out (fun _ _ => trivial)), HB.out⟩
      · rw [if_neg (fun e => hp e.2.1)] at h
        simp only [Option.some.injEq, Prod.mk.injEq] at h; obtain ⟨rfl, rfl⟩ := h; rw [decide_eq_false hp] at hpq; clear hp hv'; go_enter Tryd.func27, Tryd.ntmps27; go_wp2_with (go_at_call 70; (with_reducible refine (placedAt A0 c ls (b : Int) _ ?s0 ?s1 hc hv hs0 hs8).mono ?_); (case s0 => exact HL.out.keep qz11); (case s1 => exact Kd.C_below HR.out qz11); rintro e w' ⟨g, T, cA, cC, rfl, _, _, hw⟩; rw [hpq]; replace HB := ak (below_step (show Below w.heap.size w _ from by (repeat (first | exact HB.out | exact Below.refl _ _ | apply below_alloc | apply pw_below_drewN | apply below_drew1)); done) hw); clear hw); exact bodyPost_ret (v := .tuple #[.slice none 0 0, .bool false]) qz148 rfl ⟨_, rfl, Kd.R_nil _ _ _ _ _, qz150⟩
    · have hno : legsB ls = true → ¬ (0 ≤ a1 ∧ a1 < 8) := fun h1 h2 => hg0 ⟨h1, h2⟩
      rw [if_neg (fun e => hno e.1 (by
        have hv' := legsB_iff.mp e.1; have h8 := Grow.in_range (ends ls) (RR_ok hv'.1).1 (Good.range hv'.1) _ ((mem_plL _ _).mp e.2.1)
        exact ⟨h8.1, h8.2⟩))] at h
      simp only [Option.some.injEq, Prod.mk.injEq] at h; obtain ⟨rfl, rfl⟩ := h; clear hg0; go_enter Tryd.func27, Tryd.ntmps27; go_wp2_with (go_at_call 70; (with_reducible refine (placedAt_no A0 c ls a1 _ ?s1 hc hb hno).mono ?_); (case s1 => exact Kd.C_below HR.out qz11); rintro e w' ⟨rfl, hw⟩; replace HB := ak (below_step (show Below w.heap.size w _ from by (repeat (first | exact HB.out | exact Below.refl _ _ | apply below_alloc | apply pw_below_drewN | apply below_drew1)); done) hw); clear hw); exact bodyPost_ret (v := .tuple #[.slice none 0 0, .bool false]) qz148 rfl ⟨_, rfl, Kd.R_nil _ _ _ _ _, qz150⟩
  · rw [if_neg hb] at h
    cases h
end Go.Proofs.YtcafgpincnkcdaaDoor.A
