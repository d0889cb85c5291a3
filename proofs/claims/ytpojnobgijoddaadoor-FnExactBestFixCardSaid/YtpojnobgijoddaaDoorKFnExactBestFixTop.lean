/- The row of the law FnExactBestFix: whatever the input, it returns true; its arguments read as they did. No conditions. -/
import Derived.Deep.Slices
import Derived.Deep.Fields
import Derived.ChangeSame
import Derived.SizedLaws
import Derived.Test.YtpojnobgijoddaaDoorCards
import Derived.Test.YtpojnobgijoddaaDoorTie
import Derived.OpenVars
import Derived.ChangeVars
import Derived.SevenTiedAt
import Derived.ShutString
import Derived.ChangeOld
import Derived.Test.YtpojnobgijoddaaDoorKFnExactBestFixU7
set_option maxHeartbeats 8000000
set_option maxRecDepth 100000
set_option linter.unusedSimpArgs false
set_option linter.unusedVariables false
namespace Go.Proofs.YtpojnobgijoddaaDoor.Net
open Go Go.RowKit YtpojnobgijoddaaDoorW.PrintWords YtpojnobgijoddaaDoorW.PrintLast YtpojnobgijoddaaDoorW.PrintMore A Plain
structure Lst7 (q : Nat) (y : L) (W : World) : Prop where
  c0 : W.cell? ⟨q, 0, none⟩ = some (.int .i64 (sNum y))
  c1 : W.cell? ⟨q, 1, none⟩ = some (.int .i64 (sDen y))
  z0 : W.frozen? ⟨q, 0, none⟩ = false
  z1 : W.frozen? ⟨q, 1, none⟩ = false
theorem Lst7.keep {q : Nat} {y : L} {W W' : World} (h : Lst7 q y W) (hb : Below W.heap.size W W') : Lst7 q y W' := ⟨Sine.keepc h.c0 hb, Sine.keepc h.c1 hb, keepz h.c0 h.z0 hb, keepz h.c1 h.z1 hb⟩
theorem Lst7.put {q : Nat} {y y' : L} {W : World} (h : Lst7 q y W) : Lst7 q y' ((W.setCell ⟨q, 0, none⟩ (.int .i64 (sNum y'))).setCell ⟨q, 1, none⟩ (.int .i64 (sDen y'))) := by
  have h0 : (W.setCell ⟨q, 0, none⟩ (.int .i64 (sNum y'))).cell? ⟨q, 0, none⟩ = some (.int .i64 (sNum y')) := by simpa using World.cell?_setCell_same _ _ _ h.c0
  have h1 : (W.setCell ⟨q, 0, none⟩ (.int .i64 (sNum y'))).cell? ⟨q, 1, none⟩ = some (.int .i64 (sDen y)) := far h.c1 (offne (by decide))
  exact ⟨far h0 (offne (by decide)), by simpa using World.cell?_setCell_same _ _ _ h1, by rw [World.frozen?_setCell, World.frozen?_setCell]; exact h.z0, by rw [World.frozen?_setCell, World.frozen?_setCell]; exact h.z1⟩
theorem fixedM_yes {x : S45} {fix : Int} (h1 : 1 ≤ fix) (h4 : fix ≤ 4) : (fixedM x fix).1 = fixX x fix ∧ (fixedM x fix).2 = decide (Good (fixX x fix)) := by
  unfold fixedM
  rw [if_pos ⟨h1, h4⟩]
  exact ⟨rfl, rfl⟩
theorem bestL_take (ls : L) (j : Nat) (h : j < (usedL ls).length) : bestL ls ((usedL ls).take (j + 1)) = fixTo ls (rd (usedL ls) (j : Int)).toNat (bestL ls ((usedL ls).take j)) 4 := by
  rw [List.take_succ_eq_append_getElem h, bestL_snoc, rd_get _ j h]
def BestPost (ls : L) (w : World) (e : Ending) (w' : World) : Prop := e = .returned (.tuple #[.int .i64 (bestB ls).b, .int .i64 (bestB ls).h, .bool ((bestB ls).h != 0)]) ∧ Below w.heap.size w w'
theorem bestFixW (A : Option Addr) (c : Nat) (ls : L) (w : World) (hL : Sine.Laid w) (hr0 : Kd.C k45 w A ls.length ls) (hc : ls.length ≤ c) (hn : ls.length ≤ 12) (hg : ∀ x ∈ ls, Good x) :
    Calls Tryd.prog 47 #[.slice A ls.length c] w (BestPost ls w) := by
  have HR := Aside0.mk hr0
  have HL := Aside0.mk hL
  have HG := Aside0.mk hg
  have HB := Aside0.mk (Below.refl w.heap.size w)
  have hul := usedL_len ls
  have HUR := Aside0.mk (usedL_range ls)
  have HBK : Aside0 (∀ l : List Int, (∀ i ∈ l, 0 ≤ i ∧ i < (ls.length : Int)) → BOk ls (bestL ls l)) := ⟨fun l h => BOk.list hg l h⟩
  have HEND : Aside0 (bestB ls = bestL ls ((usedL ls).take (usedL ls).length)) := ⟨by rw [List.take_length]; rfl⟩
  clear hL hr0 hg
  go_enter Tryd.func47, Tryd.ntmps47
  go_wp2_with (first
    | (go_at_call 33; (with_reducible refine (strainW A c ls _ ?s1 ?s2 hc hn HG.out).mono ?_); (case s1 => exact HL.out.keep qz6); (case s2 => exact Kd.C_below HR.out qz6); rintro e w2 ⟨rfl, hw⟩; replace HB := Aside0.mk (below_alloc (below_step (show Below w.heap.size w _ from by (repeat (first | exact HB.out | exact Below.refl _ _ | apply below_alloc | apply pw_below_drewN | apply below_drew1)); done) hw) (Obj.cells #[Value.int IntKind.i64 (sNum ls), Value.int IntKind.i64 (sDen ls)] 49)); have L7 : Lst7 w2.heap.size ls (w2.alloc (Obj.cells #[Value.int IntKind.i64 (sNum ls), Value.int IntKind.i64 (sDen ls)] 49)) := ⟨by go_simp, by go_simp, by go_simp, by go_simp⟩; have hq7 : w.heap.size ≤ w2.heap.size := hw.size; clear hw)
    | (go_at_call 49; generalize w2.alloc (Obj.cells #[Value.int IntKind.i64 (sNum ls), Value.int IntKind.i64 (sDen ls)] 49) = w3 at *; (with_reducible refine (place A c ls _ ?s1 ?s2 hc hn HG.out (RR ls) rfl).mono ?_); (case s1 => exact HL.out.keep HB.out); (case s2 => exact Kd.C_below HR.out HB.out); rintro e w4 ⟨g, T, cl, rfl, hst, ho, hw⟩; replace HB := Aside0.mk (below_step HB.out hw); replace L7 := L7.keep hw; have HS := Aside0.mk hst; clear ho hw hst)
    | (go_at_call 50; have hq := placedLegsW A c ls w4 HS.out (World.block_lt_of_cell? _ _ HS.out.tc) HS.out.ge (Kd.C_below HR.out HB.out) hc hn HG.out; (with_reducible refine hq.mono ?_); clear hq; rintro e w5 ⟨v, rfl, hv, hw⟩; replace HB := Aside0.mk (below_step HB.out hw); have hq4 := World.block_lt_of_cell? _ _ L7.c0; replace L7 := L7.keep hw; clear HS; obtain ⟨A5, hh, c5, ev, hres⟩ := listForm hv; subst ev; rw [show plcL ls (RR ls) ls.length = usedL ls from rfl] at hres; have HRS := Aside0.mk hres; clear hv hw hres))
  rw [show (plcL ls (RR ls) ls.length).length = (usedL ls).length from rfl]
  have HBW : Aside0 (∀ W, Off w2.heap.size w5 W → Below w.heap.size w W) := ⟨fun W h => HB.out.trans ((h.below (Nat.le_of_lt (World.block_lt_of_cell? _ _ L7.c0))).mono hq7)⟩
  have HL7 := Aside0.mk L7
  clear L7
  have HAH : Aside0 (0 < (usedL ls).length → A5 = some ⟨hh, 0, none⟩ ∧ w2.heap.size ≠ hh) := ⟨fun h => ⟨(HRS.out h).1, by have := (HRS.out h).2.1; have hq5 : w2.heap.size < w4.heap.size := hq4; omega⟩⟩
  have HC5 : Aside0 (∀ t : Nat, t < (usedL ls).length → w5.cell? ⟨hh, t, none⟩ = some (.int .i64 (rd (usedL ls) (t : Int)))) := ⟨fun t ht => (HRS.out (by omega)).2.2.2 t ht⟩
  clear HRS hq4
  generalize w2.heap.size = q7 at *
  go_loopw [5, 6, 21] (fun v5 v6 v21 W => ∃ j : Nat, j ≤ (usedL ls).length ∧ v21 = .int .i64 j ∧ v5 = .int .i64 (bestL ls ((usedL ls).take j)).b ∧ v6 = .int .i64 (bestL ls ((usedL ls).take j)).h ∧ Aside0 (Lst7 q7 (bestL ls ((usedL ls).take j)).y W) ∧ Aside0 (Off q7 w5 W)) (fun _ _ v21 _ => (usedL ls).length - (intOf v21).toNat)
  case atStart => exact ⟨0, Nat.zero_le _, rfl, rfl, rfl, HL7, ⟨Off.refl _ _⟩⟩
  case round =>
    obtain ⟨j, hj, rfl, rfl, rfl, H7, HO⟩ := hrel
    clear HL7
    by_cases hlt : j < (usedL ls).length
    · have hpos : 0 < (usedL ls).length := by omega
      have j0 : (0 : Int) ≤ (j : Int) := by omega
      have j1 : (j : Int) < ((usedL ls).length : Int) := by omega
      have hmem : rd (usedL ls) (j : Int) ∈ usedL ls := by rw [rd_get _ j hlt]; exact List.getElem_mem hlt
      have hur := HUR.out _ hmem
      have hok := HBK.out ((usedL ls).take j) (fun i hi => HUR.out i (List.mem_of_mem_take hi))
      have h31 := HO.out.cell (HC5.out j hlt) (HAH.out hpos).2.symm
      have hA5 := (HAH.out hpos).1
      have HNX := Aside0.mk (bestL_take ls j hlt)
      generalize rd (usedL ls) (j : Int) = kz at *
      obtain ⟨kk, rfl⟩ := Int.eq_ofNat_of_zero_le hur.1
      have hkk : kk < ls.length := by omega
      rw [Int.toNat_natCast] at HNX
      subst hA5
      have HOK := Aside0.mk hok
      clear hok hmem hur
      generalize bestL ls ((usedL ls).take j) = st at *
      go_wp2
      go_loopw [5, 6, 10] (fun v5 v6 v10 W => ∃ m : Nat, m ≤ 4 ∧ v10 = .int .i64 ((m + 1 : Nat) : Int) ∧ v5 = .int .i64 (fixTo ls kk st m).b ∧ v6 = .int .i64 (fixTo ls kk st m).h ∧ Aside0 (Lst7 q7 (fixTo ls kk st m).y W) ∧ Aside0 (Off q7 w5 W)) (fun _ _ v10 _ => 5 - (intOf v10).toNat)
      case atStart => exact ⟨0, by omega, rfl, rfl, rfl, H7, HO⟩
      case round =>
        obtain ⟨m, hm, rfl, rfl, rfl, H8, HP⟩ := hrel
        clear H7 HO h31
        by_cases hm4 : m < 4
        · have f1 : (1 : Int) ≤ ((m + 1 : Nat) : Int) := by omega
          have f4 : ((m + 1 : Nat) : Int) ≤ 4 := by omega
          have HE : Aside0 (fixTo ls kk st (m + 1) = stepB ls kk (fixTo ls kk st m) ((m + 1 : Nat) : Int)) := ⟨rfl⟩
          have hok2 := HOK.out.fixS HG.out kk hkk m (by omega)
          have hnx : wrap64 (((m + 1 : Nat) : Int) + 1) = ((m + 1 + 1 : Nat) : Int) := by unfold wrap64; omega
          have HMS : Aside0 (5 - ((m + 1 + 1 : Nat) : Int).toNat < 5 - ((m + 1 : Nat) : Int).toNat) := ⟨by omega⟩
          have HNX2 : Aside0 (wrap64 (((m + 1 : Nat) : Int) + 1) = ((m + 1 + 1 : Nat) : Int)) := ⟨hnx⟩
          clear hnx
          generalize fixTo ls kk st m = sm at *
          generalize hfx : ((m + 1 : Nat) : Int) = fx at *
          have HFE := Aside0.mk hfx
          clear hfx
          have hy := fixedM_yes (x := leg ls (kk : Int)) f1 f4
          unfold stepB at HE
          by_cases hgd : Good (fixX (leg ls (kk : Int)) fx)
          · rw [decide_eq_true hgd] at hy
            have HYG := Aside0.mk (set_good HG.out kk hgd)
            have hyn : (ls.set kk (fixX (leg ls (kk : Int)) fx)).length ≤ 12 := by rw [List.length_set]; exact hn
            have HFY : Aside0 (∀ W, Below w.heap.size w W → Calls Tryd.prog 52 #[.slice A ls.length c, .int .i64 (kk : Int), .int .i64 fx] W fun e w' => ∃ v, e = .returned (.tuple #[v, .bool true]) ∧ Kd.R k45 45 w' W.heap.size (fun _ => True) v (ls.set kk (fixX (leg ls (kk : Int)) fx)) ∧ Below W.heap.size W w') := ⟨fun W hW => by
              have hq := fixLegYes A c ls kk fx W (Kd.C_below HR.out hW) hc hn hkk hy.2
              rw [hy.1] at hq
              exact hq⟩
            have HSL := Aside0.mk (sless HYG.out hyn hok2.good (by rw [hok2.len]; exact hn))
            clear hy hok2
            generalize ls.set kk (fixX (leg ls (kk : Int)) fx) = y at *
            by_cases hcmp : sCmp y sm.y = -1
            · rw [decide_eq_true hcmp] at HSL
              have HE2 := Aside0.mk (HE.out.trans (if_pos ⟨hgd, hcmp⟩))
              clear HE hcmp hgd
              go_wp2_with (first
                | (go_at_call 52; (with_reducible refine (HFY.out _ (HBW.out _ HP.out)).mono ?_); rintro e w6 ⟨v, rfl, hv, hw⟩; obtain ⟨A1, c1, ev⟩ := Kd.R_slice hv; subst ev; have HV := Aside0.mk (Kd.R_reads' hv).2; replace H8 := Aside0.mk (H8.out.keep hw); replace HP := Aside0.mk (HP.out.step hw); clear hv hw)
                | (go_at_call 33; (with_reducible refine (strainW A1 c1 y _ ?s1 HV.out.2 HV.out.1 hyn HYG.out).mono ?_); (case s1 => exact HL.out.keep (HBW.out _ HP.out)); rintro e w7 ⟨rfl, hw⟩; replace H8 := Aside0.mk (H8.out.keep hw); replace HP := Aside0.mk (HP.out.step hw); have B8 := below_alloc (Below.refl w7.heap.size w7) (Obj.cells #[Value.int IntKind.i64 (sNum y), Value.int IntKind.i64 (sDen y)] 49); obtain ⟨x0, x1, _, _⟩ := H8.out.keep B8; have e0 : (w7.alloc (Obj.cells #[Value.int IntKind.i64 (sNum y), Value.int IntKind.i64 (sDen y)] 49)).cell? ⟨w7.heap.size, 0, none⟩ = some (.int .i64 (sNum y)) := (by go_simp); have e1 : (w7.alloc (Obj.cells #[Value.int IntKind.i64 (sNum y), Value.int IntKind.i64 (sDen y)] 49)).cell? ⟨w7.heap.size, 1, none⟩ = some (.int .i64 (sDen y)) := (by go_simp); have H9 := Aside0.mk (H8.out.keep B8); have HP9 := Aside0.mk (HP.out.step B8); clear hw B8)
                | (go_at_call 36; generalize w7.alloc (Obj.cells #[Value.int IntKind.i64 (sNum y), Value.int IntKind.i64 (sDen y)] 49) = w8 at *; (with_reducible refine (impl_fraction_less.calls _ _ _ _ _ _ HSL.out).mono ?_); rintro e w9 ⟨rfl, hw⟩; replace e0 := Sine.keepc e0 hw; replace e1 := Sine.keepc e1 hw; replace H9 := Aside0.mk (H9.out.keep hw); replace HP9 := Aside0.mk (HP9.out.step hw); obtain ⟨y0, y1, y2, y3⟩ := H9.out; clear hw x0 x1))
              go_region
              all_goals go_wp2
              all_goals exact ⟨⟨m + 1, by omega, by rw [← HFE.out]; exact congrArg _ (by omega), by rw [HE2.out], by rw [HE2.out], by rw [HE2.out]; exact ⟨(H9.out.put (y' := y)).keep (below_drew1 (Below.refl _ _))⟩, ⟨((HP9.out.set _).set _).step (below_drew1 (Below.refl _ _))⟩⟩, by have := HMS.out; simp [intOf]; omega⟩
            · rw [decide_eq_false hcmp] at HSL
              have HE2 := Aside0.mk (HE.out.trans (if_neg (fun e => hcmp e.2)))
              clear HE hcmp hgd
              go_wp2_with (first
                | (go_at_call 52; (with_reducible refine (HFY.out _ (HBW.out _ HP.out)).mono ?_); rintro e w6 ⟨v, rfl, hv, hw⟩; obtain ⟨A1, c1, ev⟩ := Kd.R_slice hv; subst ev; have HV := Aside0.mk (Kd.R_reads' hv).2; replace H8 := Aside0.mk (H8.out.keep hw); replace HP := Aside0.mk (HP.out.step hw); clear hv hw)
                | (go_at_call 33; (with_reducible refine (strainW A1 c1 y _ ?s1 HV.out.2 HV.out.1 hyn HYG.out).mono ?_); (case s1 => exact HL.out.keep (HBW.out _ HP.out)); rintro e w7 ⟨rfl, hw⟩; replace H8 := Aside0.mk (H8.out.keep hw); replace HP := Aside0.mk (HP.out.step hw); have B8 := below_alloc (Below.refl w7.heap.size w7) (Obj.cells #[Value.int IntKind.i64 (sNum y), Value.int IntKind.i64 (sDen y)] 49); obtain ⟨x0, x1, _, _⟩ := H8.out.keep B8; have e0 : (w7.alloc (Obj.cells #[Value.int IntKind.i64 (sNum y), Value.int IntKind.i64 (sDen y)] 49)).cell? ⟨w7.heap.size, 0, none⟩ = some (.int .i64 (sNum y)) := (by go_simp); have e1 : (w7.alloc (Obj.cells #[Value.int IntKind.i64 (sNum y), Value.int IntKind.i64 (sDen y)] 49)).cell? ⟨w7.heap.size, 1, none⟩ = some (.int .i64 (sDen y)) := (by go_simp); have H9 := Aside0.mk (H8.out.keep B8); have HP9 := Aside0.mk (HP.out.step B8); clear hw B8)
                | (go_at_call 36; generalize w7.alloc (Obj.cells #[Value.int IntKind.i64 (sNum y), Value.int IntKind.i64 (sDen y)] 49) = w8 at *; (with_reducible refine (impl_fraction_less.calls _ _ _ _ _ _ HSL.out).mono ?_); rintro e w9 ⟨rfl, hw⟩; replace e0 := Sine.keepc e0 hw; replace e1 := Sine.keepc e1 hw; replace H9 := Aside0.mk (H9.out.keep hw); replace HP9 := Aside0.mk (HP9.out.step hw); obtain ⟨y0, y1, y2, y3⟩ := H9.out; clear hw x0 x1))
              exact ⟨⟨m + 1, by omega, by rw [← HFE.out]; exact congrArg _ (by omega), by rw [HE2.out], by rw [HE2.out], by rw [HE2.out]; exact H9, HP9⟩, by have := HMS.out; simp [intOf]; omega⟩
          · have HE2 := Aside0.mk (HE.out.trans (if_neg (fun e => hgd e.1)))
            rw [decide_eq_false hgd] at hy
            have HFN : Aside0 (∀ W, Below w.heap.size w W → Calls Tryd.prog 52 #[.slice A ls.length c, .int .i64 (kk : Int), .int .i64 fx] W fun e w' => e = .returned (.tuple #[.slice none 0 0, .bool false]) ∧ Below W.heap.size W w') := ⟨fun W hW => fixLegNo A c ls kk fx W (Kd.C_below HR.out hW) hkk hy.2⟩
            clear HE hy hgd hok2
            go_wp2_with (go_at_call 52; (with_reducible refine (HFN.out _ (HBW.out _ HP.out)).mono ?_); rintro e w6 ⟨rfl, hw⟩; replace H8 := Aside0.mk (H8.out.keep hw); replace HP := Aside0.mk (HP.out.step hw); clear hw)
            exact ⟨⟨m + 1, by omega, by rw [← HFE.out]; exact congrArg _ (by omega), by rw [HE2.out], by rw [HE2.out], by rw [HE2.out]; exact H8, HP⟩, by have := HMS.out; simp [intOf]; omega⟩
        · obtain rfl : m = 4 := by omega
          have HNX2 := HNX.out
          go_wp2
          exact ⟨⟨j + 1, hlt, by go_num, by rw [HNX2], by rw [HNX2], by rw [HNX2]; exact H8, HP⟩, by simp [intOf]; omega⟩
    · obtain rfl : j = (usedL ls).length := by omega
      have HE := HEND.out
      go_wp2
      exact bodyPost_ret (v := .tuple #[.int .i64 (bestL ls ((usedL ls).take (usedL ls).length)).b, .int .i64 (bestL ls ((usedL ls).take (usedL ls).length)).h, .bool ((bestL ls ((usedL ls).take (usedL ls).length)).h != 0)]) (by simp [results, Tryd.results47, go_sem]) rfl ⟨by rw [HE], HBW.out _ HO.out⟩
end Go.Proofs.YtpojnobgijoddaaDoor.Net
namespace Go.Proofs.YtpojnobgijoddaaDoor.A
open Go Go.RowKit YtpojnobgijoddaaDoorW.PrintWords YtpojnobgijoddaaDoorW.PrintLast YtpojnobgijoddaaDoorW.PrintMore
open Net (L Sine.Laid legsB legsB_iff areLegs_ev bestB bestFixW BestPost)
def bstM (ls : L) : Int × Int × Bool := if legsB ls = true then ((bestB ls).b, (bestB ls).h, (bestB ls).h != 0) else (0, 0, false)
def impl_BestFix.f (l0 : List (S45)) : Option (Int × Int × Bool) := if l0.length ≤ 140737488351232 then some (bstM l0) else none
theorem impl_BestFix.calls (A0 : Option Addr) (c : Nat) (ls : List (S45)) (r1 : Int) (r2 : Int) (r3 : Bool) (w : World) (hr0 : Kd.C k45 w A0 ls.length ls) (hc : ls.length ≤ c) (h : impl_BestFix.f ls = some (r1, r2, r3)) (hL : Sine.Laid w) :
    Calls Tryd.prog 22 #[.slice A0 ls.length c] w fun e w' => e = .returned (.tuple #[.int .i64 r1, .int .i64 r2, .bool r3]) ∧ Below w.heap.size w w' := by
  unfold impl_BestFix.f at h
  by_cases hb : ls.length ≤ 140737488351232
  case neg => rw [if_neg hb] at h; cases h
  rw [if_pos hb] at h
  obtain ⟨K, hK⟩ := areLegs_ev ls hb
  have HA := Aside0.mk (hK K (Nat.le_refl _))
  have HR := Aside0.mk hr0
  have HL := Aside0.mk hL
  have HB := Aside0.mk (Below.refl w.heap.size w)
  clear hK hr0 hL hb
  unfold bstM at h
  cases hv : legsB ls
  · rw [if_neg (by rw [hv]; simp)] at h
    simp only [Option.some.injEq, Prod.mk.injEq] at h
    obtain ⟨rfl, rfl, rfl⟩ := h
    rw [hv] at HA
    clear hv
    go_enter Tryd.func22, Tryd.ntmps22
    go_wp2_with (go_at_call 32; (with_reducible refine (impl_areLegs.calls K _ _ ls false _ ?s1 ?s2 HA.out).mono ?_); (case s1 => exact Kd.C_below HR.out qz6); (case s2 => exact hc); rintro e w' ⟨rfl, hw⟩; replace HB := Aside0.mk (below_step (show Below w.heap.size w _ from by (repeat (first | exact HB.out | exact Below.refl _ _ | apply below_alloc | apply pw_below_drewN | apply below_drew1)); done) hw); clear hw)
    exact bodyPost_ret (v := .tuple #[.int .i64 0, .int .i64 0, .bool false]) (by simp [results, Tryd.results22, go_sem]) rfl ⟨rfl, by repeat (first | exact HB.out | apply below_drew1)⟩
  · rw [hv] at HA
    rw [if_pos hv] at h
    simp only [Option.some.injEq, Prod.mk.injEq] at h
    obtain ⟨rfl, rfl, rfl⟩ := h
    have hv' := legsB_iff.mp hv
    have HG := Aside0.mk hv'.1
    have hn := hv'.2
    clear hv hv'
    go_enter Tryd.func22, Tryd.ntmps22
    go_wp2_with (first
      | (go_at_call 32; (with_reducible refine (impl_areLegs.calls K _ _ ls true _ ?s1 ?s2 HA.out).mono ?_); (case s1 => exact Kd.C_below HR.out qz6); (case s2 => exact hc); rintro e w' ⟨rfl, hw⟩; replace HB := Aside0.mk (below_step (show Below w.heap.size w _ from by (repeat (first | exact HB.out | exact Below.refl _ _ | apply below_alloc | apply pw_below_drewN | apply below_drew1)); done) hw); clear hw)
      | (go_at_call 47; (with_reducible refine (bestFixW A0 c ls _ ?s1 ?s2 hc hn HG.out).mono ?_); (case s1 => exact HL.out.keep qz6); (case s2 => exact Kd.C_below HR.out qz6); rintro e w2 ⟨rfl, hw⟩; replace HB := Aside0.mk (below_step (show Below w.heap.size w _ from by (repeat (first | exact HB.out | exact Below.refl _ _ | apply below_alloc | apply pw_below_drewN | apply below_drew1)); done) hw); clear hw))
    exact bodyPost_ret (v := .tuple #[.int .i64 (bestB ls).b, .int .i64 (bestB ls).h, .bool ((bestB ls).h != 0)]) (by simp [results, Tryd.results22, go_sem]) rfl ⟨rfl, by (repeat (first | exact HB.out | exact Below.refl _ _ | apply below_alloc | apply pw_below_drewN | apply below_drew1)); done⟩
end Go.Proofs.YtpojnobgijoddaaDoor.A
namespace Go.Proofs.YtpojnobgijoddaaDoor.A
open Go.Proofs.YtpojnobgijoddaaDoor Go.RowKit YtpojnobgijoddaaDoorW.PrintWords YtpojnobgijoddaaDoorW.PrintLast YtpojnobgijoddaaDoorW.PrintMore
attribute [local go_sem] max2_int min2_int max_two min_two max_three min_three max_four min_four
def laws_FnExactBestFix.j0 : Nat → List (S47) → List (S45) → Bool → Option (Bool)
 | 0, _, _, _ => none
 | k + 1, x0, x7, x43 => if x43 = true then (some false) else ((laws_toLegS.f k x0).bind fun t503 => ((laws_eqLegS.f k x7 t503).bind fun t506 => (if t506 = true then (some true) else (some false))))
def laws_FnExactBestFix.f (k : Nat) (l0 : List (S47)) : Option (Bool) := (laws_szLegS.f l0 1048576).bind fun t490 => (if t490 < 0 then (some true) else ((laws_toLegS.f k l0).bind fun t491 => ((spec_BestFix.f k t491).bind fun bt494 => ((laws_toLegS.f k l0).bind fun t497 => ((impl_BestFix.f t497).bind fun bt500 => (if bt500.1 = bt494.1 then (if bt500.2.1 = bt494.2.1 then (laws_FnExactBestFix.j0 k l0 t497 (bt500.2.2 != bt494.2.2)) else (laws_FnExactBestFix.j0 k l0 t497 true)) else (laws_FnExactBestFix.j0 k l0 t497 true)))))))
theorem laws_FnExactBestFix.mono_l : ∀ k, (∀ y0 y1 y2, LeO (laws_FnExactBestFix.j0 k y0 y1 y2) (laws_FnExactBestFix.j0 (k + 1) y0 y1 y2))
 | 0 => fun _ _ _ r h => by simp [laws_FnExactBestFix.j0] at h
 | k + 1 => by
  have ih0 := laws_FnExactBestFix.mono_l k
  ·
   intro y0 y1 y2
   unfold laws_FnExactBestFix.j0
   repeat' first
   | (with_reducible exact ih0 _ _ _)
   | (with_reducible exact laws_eqLegS.mono _ _ _)
   | (with_reducible exact laws_toLegS.mono _ _)
   | (with_reducible exact spec_BestFix.mono _ _)
   | (with_reducible exact LeO.refl _)
   | (with_reducible exact LeO.none _)
   | (with_reducible refine LeO.ite ?_ ?_)
   | (with_reducible refine LeO.bind ?_ (fun _ => ?_))
   | exact ih0 _ _ _
   | exact laws_eqLegS.mono _ _ _
   | exact laws_toLegS.mono _ _
   | exact spec_BestFix.mono _ _
   | exact LeO.none _
   | refine LeO.ite ?_ ?_
   | refine LeO.bind ?_ (fun _ => ?_)
theorem laws_FnExactBestFix.mono : ∀ a0 k, LeO (laws_FnExactBestFix.f k a0) (laws_FnExactBestFix.f (k + 1) a0) := by
 intro a0 k
 have ih0 := laws_FnExactBestFix.mono_l k
 unfold laws_FnExactBestFix.f
 repeat' first
   | (with_reducible exact ih0 _ _ _)
   | (with_reducible exact laws_eqLegS.mono _ _ _)
   | (with_reducible exact laws_toLegS.mono _ _)
   | (with_reducible exact spec_BestFix.mono _ _)
   | (with_reducible exact LeO.refl _)
   | (with_reducible exact LeO.none _)
   | (with_reducible refine LeO.ite ?_ ?_)
   | (with_reducible refine LeO.bind ?_ (fun _ => ?_))
   | exact ih0 _ _ _
   | exact laws_eqLegS.mono _ _ _
   | exact laws_toLegS.mono _ _
   | exact spec_BestFix.mono _ _
   | exact LeO.none _
   | refine LeO.ite ?_ ?_
   | refine LeO.bind ?_ (fun _ => ?_)
theorem laws_FnExactBestFix.calls (k : Nat) (A0 : Option Addr) (c0 : Nat) (l0 : List (S47)) (r : Bool) (w : World) (hr0 : Kd.C k47 w A0 l0.length l0) (hc0 : l0.length ≤ c0) (h : laws_FnExactBestFix.f k l0 = some true) (hL : Net.Sine.Laid w) :
  Calls Tryd.prog 7 #[.slice A0 l0.length c0] w fun e w' => e = .returned (.bool true) ∧ Below w.heap.size w w' := by
 have HL := Aside0.mk hL
 clear hL
 have HR0 := Aside0.mk hr0
 have HC0 := Aside0.mk hc0
 clear hr0 hc0
 have HB := Aside0.mk (Below.refl w.heap.size w)
 have H : ((laws_szLegS.f l0 1048576).bind fun t490 => (if t490 < 0 then (some true) else ((laws_toLegS.f k l0).bind fun t491 => ((spec_BestFix.f k t491).bind fun bt494 => ((laws_toLegS.f k l0).bind fun t497 => ((impl_BestFix.f t497).bind fun bt500 => (if bt500.1 = bt494.1 then (if bt500.2.1 = bt494.2.1 then (laws_FnExactBestFix.j0 k l0 t497 (bt500.2.2 != bt494.2.2)) else (laws_FnExactBestFix.j0 k l0 t497 true)) else (laws_FnExactBestFix.j0 k l0 t497 true)))))))) = some true := h
 clear h
 replace H := Option.bind_eq_some_iff.mp H
 obtain ⟨t490, A20, H⟩ := H
 replace H : (if t490 < 0 then (some true) else ((laws_toLegS.f k l0).bind fun t491 => ((spec_BestFix.f k t491).bind fun bt494 => ((laws_toLegS.f k l0).bind fun t497 => ((impl_BestFix.f t497).bind fun bt500 => (if bt500.1 = bt494.1 then (if bt500.2.1 = bt494.2.1 then (laws_FnExactBestFix.j0 k l0 t497 (bt500.2.2 != bt494.2.2)) else (laws_FnExactBestFix.j0 k l0 t497 true)) else (laws_FnExactBestFix.j0 k l0 t497 true))))))) = some true := H
 have A2 := Aside0.mk A20
 clear A20
 by_cases c3 : t490 < 0
 ·
  rw [if_pos c3] at H
  have c3b0 : decide (t490 < 0) = true := decide_eq_true c3
  clear c3
  go_enter Tryd.func7, Tryd.ntmps7
  go_wp2_with (first | ((with_reducible refine gate_callee (f := 10) rfl ?_); refine goesL_ (some 13) rfl rfl Tryd.func10 qz5 rfl #[.slice A0 l0.length c0, .int .i64 1048576] rfl qz1 ?_; (with_reducible refine (laws_szLegS.calls _ _ l0 1048576 t490 _ ?side1 ?side2 A2.out).mono ?_); (case side1 => repeat (first | exact HR0.out | (with_reducible refine Kd.C_alloc ?_ _) | (with_reducible refine Kd.C_drewN ?_ _) | (with_reducible refine Kd.C_drew ?_))); (case side2 => exact HC0.out); rintro e w' ⟨rfl, ⟨nd, rfl⟩⟩; refine ⟨_, rfl, ?_⟩))
  go_ret
  exact ⟨by first | rfl | (simp [errW_none, errW_some] <;> rfl) | (simp [*, errW_none, errW_some] <;> rfl), by repeat (first | (with_reducible first | exact HB.out | apply below_alloc | apply pw_below_drewN | apply below_drew1) | exact HB.out)⟩
 ·
  rw [if_neg c3] at H
  have c3b0 : decide (t490 < 0) = false := decide_eq_false c3
  clear c3
  replace H := Option.bind_eq_some_iff.mp H
  obtain ⟨t491, A40, H⟩ := H
  replace H : ((spec_BestFix.f k t491).bind fun bt494 => ((laws_toLegS.f k l0).bind fun t497 => ((impl_BestFix.f t497).bind fun bt500 => (if bt500.1 = bt494.1 then (if bt500.2.1 = bt494.2.1 then (laws_FnExactBestFix.j0 k l0 t497 (bt500.2.2 != bt494.2.2)) else (laws_FnExactBestFix.j0 k l0 t497 true)) else (laws_FnExactBestFix.j0 k l0 t497 true))))) = some true := H
  have A4 := Aside0.mk A40
  clear A40
  replace H := Option.bind_eq_some_iff.mp H
  obtain ⟨⟨t494, t495, t496⟩, A50, H⟩ := H
  replace H : ((laws_toLegS.f k l0).bind fun t497 => ((impl_BestFix.f t497).bind fun bt500 => (if bt500.1 = t494 then (if bt500.2.1 = t495 then (laws_FnExactBestFix.j0 k l0 t497 (bt500.2.2 != t496)) else (laws_FnExactBestFix.j0 k l0 t497 true)) else (laws_FnExactBestFix.j0 k l0 t497 true)))) = some true := H
  have A5 := Aside0.mk A50
  clear A50
  replace H := Option.bind_eq_some_iff.mp H
  obtain ⟨t497, A60, H⟩ := H
  replace H : ((impl_BestFix.f t497).bind fun bt500 => (if bt500.1 = t494 then (if bt500.2.1 = t495 then (laws_FnExactBestFix.j0 k l0 t497 (bt500.2.2 != t496)) else (laws_FnExactBestFix.j0 k l0 t497 true)) else (laws_FnExactBestFix.j0 k l0 t497 true))) = some true := H
  have A6 := Aside0.mk A60
  clear A60
  replace H := Option.bind_eq_some_iff.mp H
  obtain ⟨⟨t500, t501, t502⟩, A70, H⟩ := H
  replace H : (if t500 = t494 then (if t501 = t495 then (laws_FnExactBestFix.j0 k l0 t497 (t502 != t496)) else (laws_FnExactBestFix.j0 k l0 t497 true)) else (laws_FnExactBestFix.j0 k l0 t497 true)) = some true := H
  have A7 := Aside0.mk A70
  clear A70
  have HC8 := Aside0.mk H
  clear H
  go_enter Tryd.func7, Tryd.ntmps7
  go_upto_region 8 with (first | ((with_reducible refine gate_callee (f := 10) rfl ?_); refine goesL_ (some 13) rfl rfl Tryd.func10 qz5 rfl #[.slice A0 l0.length c0, .int .i64 1048576] rfl qz1 ?_; (with_reducible refine (laws_szLegS.calls _ _ l0 1048576 t490 _ ?side1 ?side2 A2.out).mono ?_); (case side1 => repeat (first | exact HR0.out | (with_reducible refine Kd.C_alloc ?_ _) | (with_reducible refine Kd.C_drewN ?_ _) | (with_reducible refine Kd.C_drew ?_))); (case side2 => exact HC0.out); rintro e w' ⟨rfl, ⟨nd, rfl⟩⟩; refine ⟨_, rfl, ?_⟩) | ((with_reducible refine gate_callee (f := 12) rfl ?_); refine goesL_ (some 18) rfl rfl Tryd.func12 qz5 rfl #[.slice A0 l0.length c0] rfl qz1 ?_; (with_reducible refine (laws_toLegS.calls k _ _ l0 t491 _ ?side1 ?side2 A4.out).mono ?_); (case side1 => repeat (first | exact HR0.out | (with_reducible refine Kd.C_alloc ?_ _) | (with_reducible refine Kd.C_drewN ?_ _) | (with_reducible refine Kd.C_drew ?_))); (case side2 => exact HC0.out); rintro e w9 ⟨v492, rfl, ho0, hb⟩; refine ⟨_, rfl, ?_⟩; have n0_ := Aside0.mk (Kd.R_lower ho0 (below_size qz0)); have n1_ := Aside0.mk (below_step qz0 hb); clear HB; have HO493 := n0_; have HB := n1_; clear n0_ n1_; (try clear hb); (try clear hb2); (try clear hk); (try clear hi); (try clear ho0); obtain ⟨Ao10, co10, eo10⟩ := Kd.R_slice HO493.out; subst eo10) | ((with_reducible refine gate_callee (f := 21) rfl ?_); refine goesL_ (some 19) rfl rfl Tryd.func21 qz5 rfl #[.slice Ao10 t491.length co10] rfl qz1 ?_; (with_reducible refine (spec_BestFix.calls k _ _ t491 t494 t495 t496 _ ?side1 ?side2 A5.out ?sideL).mono ?_); (case sideL => exact HL.out.keep qz0); (case side1 => repeat (first | exact (Kd.R_reads' HO493.out).2.2 | (with_reducible refine Kd.C_alloc ?_ _) | (with_reducible refine Kd.C_drewN ?_ _) | (with_reducible refine Kd.C_drew ?_))); (case side2 => exact (Kd.R_reads' HO493.out).2.1); rintro e w11 ⟨rfl, hb⟩; refine ⟨_, rfl, ?_⟩; have n0_ := Aside0.mk (Kd.R_below qz39 hb); have n1_ := Aside0.mk (below_step qz0 hb); clear HO493; clear HB; have HO493 := n0_; have HB := n1_; clear n0_ n1_; (try clear hb); (try clear hb2); (try clear hk); (try clear hi)) | ((with_reducible refine gate_callee (f := 12) rfl ?_); refine goesL_ (some 24) rfl rfl Tryd.func12 qz5 rfl #[.slice A0 l0.length c0] rfl qz1 ?_; (with_reducible refine (laws_toLegS.calls k _ _ l0 t497 _ ?side1 ?side2 A6.out).mono ?_); (case side1 => repeat (first | exact (Kd.C_below HR0.out HB.out) | (with_reducible refine Kd.C_alloc ?_ _) | (with_reducible refine Kd.C_drewN ?_ _) | (with_reducible refine Kd.C_drew ?_))); (case side2 => exact HC0.out); rintro e w12 ⟨v498, rfl, ho0, hb⟩; refine ⟨_, rfl, ?_⟩; have n0_ := Aside0.mk (Kd.R_elder' qz39 (Kd.R_base ho0) hb); have n1_ := Aside0.mk (Kd.R_lower (Kd.R_new' ho0 (Kd.R_lt qz39)) (below_size qz0)); have n2_ := Aside0.mk (below_step qz0 hb); clear HO493; clear HB; have HO493 := n0_; have HO499 := n1_; have HB := n2_; clear n0_ n1_ n2_; (try clear hb); (try clear hb2); (try clear hk); (try clear hi); (try clear ho0); obtain ⟨Ao13, co13, eo13⟩ := Kd.R_slice HO499.out; subst eo13) | ((with_reducible refine gate_callee (f := 22) rfl ?_); refine goesL_ (some 27) rfl rfl Tryd.func22 qz5 rfl #[.slice Ao13 t497.length co13] rfl qz1 ?_; (with_reducible refine (impl_BestFix.calls _ _ t497 t500 t501 t502 _ ?side1 ?side2 A7.out ?sideL).mono ?_); (case sideL => exact HL.out.keep qz0); (case side1 => repeat (first | exact (Kd.R_reads' HO499.out).2.2 | (with_reducible refine Kd.C_alloc ?_ _) | (with_reducible refine Kd.C_drewN ?_ _) | (with_reducible refine Kd.C_drew ?_))); (case side2 => exact (Kd.R_reads' HO499.out).2.1); rintro e w14 ⟨rfl, hb⟩; refine ⟨_, rfl, ?_⟩; have n0_ := Aside0.mk (Kd.R_below qz39 hb); have n1_ := Aside0.mk (Kd.R_below (by (with_reducible repeat (first | apply Kd.R_alloc | apply Kd.R_drewN | apply Kd.R_drew)); exact HO499.out) hb); have n2_ := Aside0.mk (below_step qz0 hb); clear HO493; clear HO499; clear HB; have HO493 := n0_; have HO499 := n1_; have HB := n2_; clear n0_ n1_ n2_; (try clear hb); (try clear hb2); (try clear hk); (try clear hi)))
  (try simp only [Act.put, List.setIfInBounds_toArray, List.set_cons_zero, List.set_cons_succ])
  go_cut [43] (fun v43 wc => ∃ (kq : Nat) (x43_7 : Bool), v43 = .bool x43_7 ∧ Aside0 (laws_FnExactBestFix.j0 kq l0 t497 x43_7 = some true) ∧ Aside0 (kq ≤ k) ∧ Aside0 (Kd.R k45 45 wc w.heap.size (fun _ => True) (.slice Ao13 t497.length co13) t497) ∧ Aside0 (Below w.heap.size w wc))
  case first =>
   have H := HC8.out
   clear HC8
   by_cases c15 : t500 = t494
   ·
    rw [if_pos c15] at H
    have c15b0 : (t500 == t494) = true := beq_iff_eq.mpr c15
    have c15b1 : (t500 != t494) = false := bne_eq_false_iff_eq.mpr c15
    clear c15
    (first | rw [c15b0] | (simp only [i64_w, i32_w]; rw [c15b0]) | skip)
    by_cases c16 : t501 = t495
    ·
     rw [if_pos c16] at H
     have c16b0 : (t501 == t495) = true := beq_iff_eq.mpr c16
     have c16b1 : (t501 != t495) = false := bne_eq_false_iff_eq.mpr c16
     clear c16
     have H' := Aside0.mk H
     clear H
     go_wp2
     go_meet
     case rel => exact ⟨_, ((t502 != t496)), qz3, H', ⟨by first | omega | exact Nat.le_refl _⟩, ⟨by (with_reducible repeat (first | apply Kd.R_alloc | apply Kd.R_drewN | apply Kd.R_drew)); exact Kd.R_mono HO499.out (fun _ hk => trivial)⟩, ⟨by repeat (first | (with_reducible first | exact HB.out | apply below_alloc | apply pw_below_drewN | apply below_drew1) | exact HB.out)⟩⟩
    ·
     rw [if_neg c16] at H
     have c16b0 : (t501 == t495) = false := beq_eq_false_iff_ne.mpr c16
     have c16b1 : (t501 != t495) = true := bne_iff_ne.mpr c16
     exact absurd H (by cases k <;> simp [laws_FnExactBestFix.j0])
   ·
    rw [if_neg c15] at H
    have c15b0 : (t500 == t494) = false := beq_eq_false_iff_ne.mpr c15
    have c15b1 : (t500 != t494) = true := bne_iff_ne.mpr c15
    (first | rw [c15b0] | (simp only [i64_w, i32_w]; rw [c15b0]) | skip)
    exact absurd H (by cases k <;> simp [laws_FnExactBestFix.j0])
  case rest =>
   clear HC8
   try clear c1
   try clear c2
   try clear p2
   try clear c3
   try clear c3b0
   try clear c7
   try clear c10
   try clear c12
   try clear c15
   try clear c15b0
   try clear c15b1
   try clear c16
   try clear c16b0
   try clear c16b1
   obtain ⟨kq, x43_7, rfl, HA, HJ7, HO_7, HB⟩ := hcut
   cases kq with
   | zero => exact absurd HA.out (by simp [laws_FnExactBestFix.j0])
   | succ kj7 =>
    have H := HA.out
    clear HA
    simp only [laws_FnExactBestFix.j0] at H
    by_cases c17 : x43_7 = true
    ·
     subst c17
     have H1 : (some false) = some true := by rw [if_pos rfl] at H; exact H
     clear H
     have H := H1
     clear H1
     exact absurd (Option.some.inj H) (by decide)
    ·
     replace c17 := Bool.eq_false_iff.mpr c17
     subst c17
     have H1 : ((laws_toLegS.f kj7 l0).bind fun t503 => ((laws_eqLegS.f kj7 t497 t503).bind fun t506 => (if t506 = true then (some true) else (some false)))) = some true := by rw [if_neg (show ¬ (false = true) by decide)] at H; exact H
     clear H
     have H := H1
     clear H1
     replace H := Option.bind_eq_some_iff.mp H
     obtain ⟨t503, A180, H⟩ := H
     replace H : ((laws_eqLegS.f kj7 t497 t503).bind fun t506 => (if t506 = true then (some true) else (some false))) = some true := H
     have A18 := Aside0.mk A180
     clear A180
     replace H := Option.bind_eq_some_iff.mp H
     obtain ⟨t506, A190, H⟩ := H
     replace H : (if t506 = true then (some true) else (some false)) = some true := H
     have A19 := Aside0.mk A190
     clear A190
     by_cases c20 : t506 = true
     ·
      subst c20
      have H1 : (some true) = some true := rfl
      clear H
      have H := H1
      clear H1
      go_wp2_with (first | ((with_reducible refine gate_callee (f := 12) rfl ?_); refine goesL_ (some 46) rfl rfl Tryd.func12 qz5 rfl #[.slice A0 l0.length c0] rfl qz1 ?_; (with_reducible refine (laws_toLegS.calls kj7 _ _ l0 t503 _ ?side1 ?side2 A18.out).mono ?_); (case side1 => repeat (first | exact (Kd.C_below HR0.out HB.out) | (with_reducible refine Kd.C_alloc ?_ _) | (with_reducible refine Kd.C_drewN ?_ _) | (with_reducible refine Kd.C_drew ?_))); (case side2 => exact HC0.out); rintro e w21 ⟨v504, rfl, ho0, hb⟩; refine ⟨_, rfl, ?_⟩; have n0_ := Aside0.mk (Kd.R_elder' qz7 (Kd.R_base ho0) hb); have n1_ := Aside0.mk (Kd.R_lower (Kd.R_new' ho0 (Kd.R_lt qz7)) (below_size qz0)); have n2_ := Aside0.mk (below_step qz0 hb); clear HO_7; clear HB; have HO_7 := n0_; have HO505 := n1_; have HB := n2_; clear n0_ n1_ n2_; (try clear hb); (try clear hb2); (try clear hk); (try clear hi); (try clear ho0); obtain ⟨Ao22, co22, eo22⟩ := Kd.R_slice HO505.out; subst eo22) | ((with_reducible refine gate_callee (f := 14) rfl ?_); refine goesL_ (some 47) rfl rfl Tryd.func14 qz5 rfl #[.slice Ao13 t497.length co13, .slice Ao22 t503.length co22] rfl qz1 ?_; (with_reducible refine (laws_eqLegS.calls kj7 _ _ t497 _ _ t503 true _ ?side1 ?side2 ?side3 ?side4 A19.out).mono ?_); (case side1 => repeat (first | exact (Kd.R_reads' HO_7.out).2.2 | (with_reducible refine Kd.C_alloc ?_ _) | (with_reducible refine Kd.C_drewN ?_ _) | (with_reducible refine Kd.C_drew ?_))); (case side2 => exact (Kd.R_reads' HO_7.out).2.1); (case side3 => repeat (first | exact (Kd.R_reads' HO505.out).2.2 | (with_reducible refine Kd.C_alloc ?_ _) | (with_reducible refine Kd.C_drewN ?_ _) | (with_reducible refine Kd.C_drew ?_))); (case side4 => exact (Kd.R_reads' HO505.out).2.1); rintro e w23 ⟨rfl, hb⟩; refine ⟨_, rfl, ?_⟩; have n0_ := Aside0.mk (Kd.R_below qz7 hb); have n1_ := Aside0.mk (Kd.R_below (by (with_reducible repeat (first | apply Kd.R_alloc | apply Kd.R_drewN | apply Kd.R_drew)); exact HO505.out) hb); have n2_ := Aside0.mk (below_step qz0 hb); clear HO_7; clear HO505; clear HB; have HO_7 := n0_; have HO505 := n1_; have HB := n2_; clear n0_ n1_ n2_; (try clear hb); (try clear hb2); (try clear hk); (try clear hi)))
      go_ret
      exact ⟨by first | rfl | (simp [errW_none, errW_some] <;> rfl) | (simp [*, errW_none, errW_some] <;> rfl), by repeat (first | (with_reducible first | exact HB.out | apply below_alloc | apply pw_below_drewN | apply below_drew1) | exact HB.out)⟩
     ·
      replace c20 := Bool.eq_false_iff.mpr c20
      subst c20
      have H1 : (some false) = some true := by rw [if_neg (show ¬ (false = true) by decide)] at H; exact H
      clear H
      have H := H1
      clear H1
      exact absurd (Option.some.inj H) (by decide)
end Go.Proofs.YtpojnobgijoddaaDoor.A
namespace Go.Proofs.YtpojnobgijoddaaDoor.Legs
open Go.RowKit YtpojnobgijoddaaDoorW.PrintWords Plain A
def cv (x : S47) : S45 := ⟨x.f0, x.f1, x.f2, x.f3, x.f4⟩
theorem toLegs_ev (l : List (S47)) (hb : l.length ≤ 7036874417766) : Ev (fun k => laws_toLegS.f k l) (l.map cv) := by
  unfold laws_toLegS.f
  refine Ev.pos (by omega) ?_
  refine Ev.pos (by omega) ?_
  exact copy_all laws_toLegS.l0 cv z47 _ (fun k x0 x3 x4 => by simp only [laws_toLegS.l0, laws_toLeg.f, Option.bind_some]; rfl) l (by omega)
theorem eqLegs_ev (l : List (S45)) (hb : l.length ≤ 140737488351232) : Ev (fun k => laws_eqLegS.f k l l) true := by
  unfold laws_eqLegS.f
  refine Ev.pos rfl ?_
  exact eq_all laws_eqLegS.l0 (fun k x0 x4 h0 => by
    simp only [laws_eqLegS.l0, laws_eqLeg.f, if_true, Option.bind_some]
    by_cases h : x4 < (x0.length : Int)
    · rw [if_pos h, if_pos h0, if_pos h, if_pos h]
    · rw [if_neg h, if_neg h]) l hb
theorem szLegs_eq (l : List (S47)) (hb : l.length ≤ 140737488351232) : laws_szLegS.f l 1048576 = some (if l.length ≤ 1048576 then 1048576 - (l.length : Int) else -1) := by
  unfold laws_szLegS.f
  rw [w64 (by omega) (by omega)]
  by_cases h : l.length ≤ 1048576
  · rw [if_neg (by omega), if_pos h]
  · rw [if_pos (by omega), if_neg h]
end Go.Proofs.YtpojnobgijoddaaDoor.Legs
namespace Go.Proofs.YtpojnobgijoddaaDoor.Net
open Go.RowKit YtpojnobgijoddaaDoorW.PrintWords Plain A Frac
theorem sCmp_cases (x y : L) : (sCmp x y = -1 ∧ sCmp x y < 0) ∨ (sCmp x y ≠ -1 ∧ ¬ sCmp x y < 0) := by
  unfold sCmp cmp
  split
  · exact Or.inl ⟨rfl, by decide⟩
  · refine Or.inr ?_
    split <;> exact ⟨by decide, by decide⟩
theorem cmpS_ev {x y : L} (hx : ∀ z ∈ x, Good z) (nx : x.length ≤ 12) (hy : ∀ z ∈ y, Good z) (ny : y.length ≤ 12) : Ev (fun k => spec_l10Compare.f k (sNum x) (sDen x) (sNum y) (sDen y)) (sCmp x y) := by
  have h1 := s_bound nx hx
  have h2 := s_bound ny hy
  unfold sCmp
  exact compare_ev (by omega) (by omega) (by omega) (by omega) (by unfold big; omega) (by unfold big; omega) (by unfold big; omega) (by unfold big; omega)
theorem mem_used {ls : L} (hg : ∀ x ∈ ls, Good x) (i : Nat) : ((i : Int) ∈ usedL ls) ↔ i < ls.length ∧ (leg ls i).f0 ∈ plL (RR ls) := by
  rw [show usedL ls = plcL ls (RR ls) ls.length from rfl, mem_plcL hg]
  exact ⟨fun h => ⟨by omega, h.2⟩, fun h => ⟨⟨by omega, by omega⟩, h.2⟩⟩
def stS (ls : L) (i : Nat) (st : BS) (m : Nat) : BS := if (i : Int) ∈ usedL ls then fixTo ls i st m else st
theorem best_inner {ls : L} (hv : legsB ls = true) (i : Nat) (hi : i < ls.length) (st : BS) (hok : BOk ls st) : ∀ (d m : Nat), m + d = 4 → ∀ v, Ev (fun k => spec_l10Best.l0 k ls (sNum (stS ls i st 4).y) (sDen (stS ls i st 4).y) (stS ls i st 4).b (stS ls i st 4).h ((i + 1 : Nat) : Int)) v →
    Ev (fun k => spec_l10Best.l1 k ls (sNum (stS ls i st m).y) (sDen (stS ls i st m).y) (stS ls i st m).b (stS ls i st m).h (i : Int) ((m + 1 : Nat) : Int)) v := by
  have h' := legsB_iff.mp hv
  intro d
  induction d with
  | zero =>
    intro m hm v hv2
    obtain rfl : m = 4 := by omega
    refine Ev.step (fun k => ?_) hv2
    conv => lhs; unfold spec_l10Best.l1
    rw [if_neg (by decide), w64 (x := (i : Int) + 1) (by omega) (by omega)]
    rfl
  | succ d ih =>
    intro m hm v hv2
    have hrec := ih (m + 1) (by omega) v hv2
    have hw : wrap64 (((m + 1 : Nat) : Int) + 1) = ((m + 1 + 1 : Nat) : Int) := by rw [w64 (by omega) (by omega)]; omega
    have hcan := can_ev ls (i : Int) ((m + 1 : Nat) : Int) (by omega)
    have hstep : ∀ k, spec_l10Best.l1 (k + 1) ls (sNum (stS ls i st m).y) (sDen (stS ls i st m).y) (stS ls i st m).b (stS ls i st m).h (i : Int) ((m + 1 : Nat) : Int) = (spec_l10Can.f k ls (i : Int) ((m + 1 : Nat) : Int)).bind fun t492 => (if t492 = true then ((spec_l10Fix.f ls (i : Int) ((m + 1 : Nat) : Int)).bind fun t493 => ((spec_l10Strain.f k t493).bind fun bt496 => ((spec_l10Compare.f k bt496.1 bt496.2 (sNum (stS ls i st m).y) (sDen (stS ls i st m).y)).bind fun t498 => (if t498 < 0 then (spec_l10Best.l1 k ls bt496.1 bt496.2 (i : Int) ((m + 1 : Nat) : Int) (i : Int) ((m + 1 + 1 : Nat) : Int)) else (spec_l10Best.l1 k ls (sNum (stS ls i st m).y) (sDen (stS ls i st m).y) (stS ls i st m).b (stS ls i st m).h (i : Int) ((m + 1 + 1 : Nat) : Int)))))) else (spec_l10Best.l1 k ls (sNum (stS ls i st m).y) (sDen (stS ls i st m).y) (stS ls i st m).b (stS ls i st m).h (i : Int) ((m + 1 + 1 : Nat) : Int))) := fun k => by
      conv => lhs; unfold spec_l10Best.l1
      rw [if_pos (by omega), hw]
    refine Ev.step (fun k => hstep k) ?_
    by_cases hp : (i : Int) ∈ usedL ls
    · have hp2 := (mem_used h'.1 i).mp hp
      have e0 : stS ls i st m = fixTo ls i st m := by unfold stS; rw [if_pos hp]
      have e1 : stS ls i st (m + 1) = stepB ls i (fixTo ls i st m) ((m + 1 : Nat) : Int) := by unfold stS; rw [if_pos hp]; rfl
      have ok := hok.fixS h'.1 i hi m (by omega)
      rw [e1] at hrec
      rw [e0]
      generalize fixTo ls i st m = sm at *
      by_cases hgd : Good (fixX (leg ls i) ((m + 1 : Nat) : Int))
      · have hf : (fixM ls (i : Int) ((m + 1 : Nat) : Int)).2 = true := by unfold fixM; rw [if_pos ⟨hv, ⟨by omega, by omega⟩, hp2.2, ⟨by omega, by omega⟩, hgd⟩]
        have hnv : legsB (ls.set i (fixX (leg ls i) ((m + 1 : Nat) : Int))) = true := by rw [legsB_set hv i hi]; exact decide_eq_true hgd
        have hn2 := legsB_iff.mp hnv
        rw [hf] at hcan
        unfold stepB at hrec
        refine Ev.bind hcan (Ev.pos rfl (Ev.bindc (fix_eq ls i _ hi (by omega)) (Ev.bind (strain_ev hnv) (Ev.bind (cmpS_ev hn2.1 hn2.2 ok.good (by rw [ok.len]; exact h'.2)) ?_))))
        rcases sCmp_cases (ls.set i (fixX (leg ls i) ((m + 1 : Nat) : Int))) sm.y with c | c
        · rw [if_pos ⟨hgd, c.1⟩] at hrec
          exact Ev.pos c.2 hrec
        · rw [if_neg (fun e => c.1 e.2)] at hrec
          exact Ev.neg c.2 hrec
      · have hf : (fixM ls (i : Int) ((m + 1 : Nat) : Int)).2 = false := by unfold fixM; rw [if_neg (fun e => hgd e.2.2.2.2)]
        rw [hf] at hcan
        unfold stepB at hrec
        rw [if_neg (fun e => hgd e.1)] at hrec
        exact Ev.bind hcan (Ev.neg (by decide) hrec)
    · have e0 : ∀ q, stS ls i st q = st := fun q => by unfold stS; rw [if_neg hp]
      rw [e0] at hrec ⊢
      have hf : (fixM ls (i : Int) ((m + 1 : Nat) : Int)).2 = false := by
        unfold fixM
        rw [if_neg (fun e => hp ((mem_used h'.1 i).mpr ⟨hi, e.2.2.1⟩))]
      rw [hf] at hcan
      exact Ev.bind hcan (Ev.neg (by decide) hrec)
def bestG (ls : L) (j : Nat) : BS := bestL ls (plcL ls (RR ls) j)
theorem bestG_step {ls : L} (hg : ∀ x ∈ ls, Good x) (i : Nat) (hi : i < ls.length) : bestG ls (i + 1) = stS ls i (bestG ls i) 4 := by
  have hm : ((i : Int) ∈ usedL ls) ↔ Pq (RR ls) (leg ls i).f0.toNat = true := by
    rw [show usedL ls = selTo (fun k => Pq (RR ls) (leg ls k).f0.toNat) ls.length from rfl, mem_selTo]
    refine ⟨fun ⟨k, h1, h2, h3⟩ => ?_, fun h => ⟨i, rfl, hi, h⟩⟩
    obtain rfl : i = k := by omega
    exact h3
  unfold bestG stS
  by_cases c : Pq (RR ls) (leg ls i).f0.toNat = true
  · rw [if_pos (hm.mpr c), show plcL ls (RR ls) (i + 1) = plcL ls (RR ls) i ++ [(i : Int)] from by unfold plcL; simp [selTo, c], bestL_snoc, Int.toNat_natCast]
  · rw [if_neg (fun e => c (hm.mp e)), show plcL ls (RR ls) (i + 1) = plcL ls (RR ls) i from by unfold plcL; simp [selTo, c]]
theorem bestG_ok {ls : L} (hg : ∀ x ∈ ls, Good x) (j : Nat) (hj : j ≤ ls.length) : BOk ls (bestG ls j) := BOk.list hg _ (fun i hi => by
  obtain ⟨k, rfl, hk, _⟩ := (mem_selTo _ _ _).mp hi
  omega)
theorem best_outer {ls : L} (hv : legsB ls = true) : ∀ (d j : Nat), j + d = ls.length → Ev (fun k => spec_l10Best.l0 k ls (sNum (bestG ls j).y) (sDen (bestG ls j).y) (bestG ls j).b (bestG ls j).h (j : Int)) ((bestB ls).b, (bestB ls).h) := by
  have h' := legsB_iff.mp hv
  intro d
  induction d with
  | zero =>
    intro j hj
    obtain rfl : j = ls.length := by omega
    refine Ev.step (f := fun _ => some ((bestB ls).b, (bestB ls).h)) (fun k => ?_) (Ev.now _)
    conv => lhs; unfold spec_l10Best.l0
    rw [if_neg (by omega)]
    rfl
  | succ d ih =>
    intro j hj
    have h := ih (j + 1) (by omega)
    have hin := best_inner hv j (by omega) (bestG ls j) (bestG_ok h'.1 j (by omega)) 4 0 (by omega)
    rw [bestG_step h'.1 j (by omega)] at h
    have e0 : stS ls j (bestG ls j) 0 = bestG ls j := by unfold stS; split <;> rfl
    have hq := hin _ h
    rw [e0] at hq
    refine Ev.step (fun k => ?_) hq
    conv => lhs; unfold spec_l10Best.l0
    rw [if_pos (by omega)]
    rfl
theorem best_ev {ls : L} (hv : legsB ls = true) : Ev (fun k => spec_l10Best.f k ls) ((bestB ls).b, (bestB ls).h) := by
  refine Ev.bind (strain_ev hv) ?_
  exact best_outer hv ls.length 0 (by omega)
end Go.Proofs.YtpojnobgijoddaaDoor.Net
namespace Go.Proofs.YtpojnobgijoddaaDoor.Pure
open Go.RowKit YtpojnobgijoddaaDoorW.PrintWords Plain A Legs
theorem bestFix_ev (ls : Net.L) (hb : ls.length ≤ 140737488351232) : Ev (fun k => spec_BestFix.f k ls) (bstM ls) := by
  refine Ev.bind (Net.l4Legs_ev ls hb) ?_
  unfold bstM
  by_cases hv : Net.legsB ls = true
  · rw [if_pos hv]
    have hok := Net.BOk.best (Net.legsB_iff.mp hv).1
    have e : decide ((Net.bestB ls).h > 0) = ((Net.bestB ls).h != 0) := by
      rcases hok.what with h | ⟨_, _, _, h, _⟩
      · rw [h.1]; rfl
      · rw [decide_eq_true (by omega), bne_iff_ne.mpr (by omega)]
    rw [← e]
    exact Ev.pos hv (Ev.bind (Net.best_ev hv) (Ev.now _))
  · rw [if_neg hv]
    exact Ev.neg hv (Ev.now _)
theorem FnExactBestFix (l0 : List (S47)) (hb : l0.length * 40 ≤ 140737488351232) (_ : ∀ x ∈ l0, (Lit.int .i64 x.f0).wf = true ∧ (Lit.int .i64 x.f1).wf = true ∧ (Lit.int .i64 x.f2).wf = true ∧ (Lit.int .i64 x.f3).wf = true ∧ (Lit.int .i64 x.f4).wf = true) : ∃ k, laws_FnExactBestFix.f k l0 = some true := by
  refine Ev.rounds ?_
  have hl : (l0.map cv).length = l0.length := by simp
  have hsz := szLegs_eq l0 (by omega)
  by_cases c : l0.length ≤ 1048576
  · rw [if_pos c] at hsz
    have hs := bestFix_ev (l0.map cv) (by omega)
    have hi : impl_BestFix.f (l0.map cv) = some (bstM (l0.map cv)) := by unfold impl_BestFix.f; rw [if_pos (by omega)]
    generalize bstM (l0.map cv) = B at *
    obtain ⟨b0, b1, b2⟩ := B
    have hlegs := toLegs_ev l0 (by omega)
    refine Ev.bindc hsz (Ev.neg (by omega) ?_)
    refine Ev.bind hlegs (Ev.bind hs (Ev.bind hlegs (Ev.bindc hi (Ev.pos rfl (Ev.pos rfl ?_)))))
    refine Ev.step (f := fun k => (laws_toLegS.f k l0).bind fun t => (laws_eqLegS.f k (l0.map cv) t).bind fun t' => if t' = true then some true else some false) (fun k => ?_) ?_
    · simp only [laws_FnExactBestFix.j0, bne_self_eq_false, Bool.false_eq_true, if_false]
    · exact Ev.bind hlegs (Ev.bind (eqLegs_ev _ (by omega)) (Ev.pos rfl (Ev.now _)))
  · rw [if_neg c] at hsz
    exact Ev.bindc hsz (Ev.pos (by decide) (Ev.now _))
end Go.Proofs.YtpojnobgijoddaaDoor.Pure
namespace Go.Proofs.YtpojnobgijoddaaDoor.Opens
open Go.ChangeShapes Go.WideShapes Go.Deep Go.RowKit YtpojnobgijoddaaDoorW.PrintWords
theorem list_of {α : Type} {P : Nat → α → Prop} : ∀ (n : Nat), (∀ i, i < n → ∃ x, P i x) → ∃ xs : List α, xs.length = n ∧ ∀ i x, xs[i]? = some x → P i x
  | 0, _ => ⟨[], rfl, fun i x h => by simp at h⟩
  | n + 1, h => by
    obtain ⟨xs, hl, hx⟩ := list_of n (fun i hi => h i (Nat.lt_succ_of_lt hi))
    obtain ⟨y, hy⟩ := h n (Nat.lt_succ_self n)
    refine ⟨xs ++ [y], by simp [hl], fun i x hi => ?_⟩
    by_cases hlt : i < xs.length
    · rw [List.getElem?_append_left hlt] at hi
      exact hx i x hi
    · rw [List.getElem?_append_right (by omega)] at hi
      have h0 : i - xs.length = 0 := by
        have := (List.getElem?_eq_some_iff.1 hi).1
        simp at this
        omega
      rw [h0] at hi
      simp at hi
      subst hi
      have : i = n := by omega
      subst this
      exact hy
section
variable {H : Type} {enc : TypeId × Value → H} {P : Program} {w : World} {base : Nat} {spare : Nat → Bool} {held : Bool}
theorem open_row {α : Type} (d : Kd α) {Q : α → Prop} {t e : TypeId} {a : Option Addr} {len cap : Nat} {dd : DataW H} {ps : List MemPlace} (ht : P.underlying t = some (.slice e)) (hC : P.cellsOf e = d.sz)
    (hd : ∀ n cs y, DataW.trod enc P w base spare held n e cs = some y → ∃ x, d.K w x cs ∧ Q x)
    (h : DataW.Trod enc P w base spare held t (.slice a len cap) dd ps) : ∃ xs : List α, xs.length = len ∧ len ≤ cap ∧ d.C w a len xs ∧ ∀ x ∈ xs, Q x := by
  obtain ⟨fuel, hf⟩ := h
  rcases open_slice ht hf with ⟨hcs, _⟩ | ⟨x, l, c, m, n, D, Pl, hcs, _, hl, hm, hmm, _, hi⟩
  · simp [Value.cells] at hcs
    obtain ⟨rfl, rfl, rfl⟩ := hcs
    exact ⟨[], rfl, Nat.le_refl _, ⟨rfl, by omega, fun h => by omega⟩, fun x hx => by simp at hx⟩
  · simp [Value.cells] at hcs
    obtain ⟨rfl, rfl, rfl⟩ := hcs
    have hle : len ≤ m := by subst hmm; split <;> omega
    obtain ⟨xs, hxl, hx⟩ := list_of (P := fun i (z : α) => Q z ∧ ∃ cs, d.K w z cs ∧ w.cells? base (x.add (i * d.sz)) d.sz = some cs) len (fun i hil => by
      obtain ⟨cs, h1, h2⟩ := hi i (by omega)
      rw [hC] at h1
      obtain ⟨z, h3, h4⟩ := hd _ _ _ h2
      exact ⟨z, h4, cs, h3, h1⟩)
    refine ⟨xs, hxl, hl, ⟨hxl, by unfold maxLen at hm; omega, fun _ => ⟨x, rfl, fun j p hp => ?_⟩⟩, fun z hz => ?_⟩
    · obtain ⟨_, cs, h1, h2⟩ := hx j p hp
      obtain ⟨_, hlen, hat⟩ := World.cells?_some h2
      refine ⟨cs, hlen, h1, fun i u hu => ?_⟩
      have hil : i < d.sz := by have := (List.getElem?_eq_some_iff.1 hu).1; omega
      rw [← Go.Deep.add_add, hat i hil, hu]
    · obtain ⟨j, hj⟩ := List.getElem?_of_mem hz
      exact (hx j z hj).1
theorem sized_row {t e : TypeId} {a : Option Addr} {len cap : Nat} {d : DataW H} {ps : List MemPlace} {ts : List TypeId} {ds : List (DataW H)} {j : Nat}
    (hsz : (DataW.weightsEach P ts ds).all (· ≤ reachBytes) = true) (ht : ts[j]? = some t) (hd : ds[j]? = some d) (hu : P.underlying t = some (.slice e)) {B : Nat} (hB : P.bytesOf e = B)
    (h : DataW.Trod enc P w base spare held t (.slice a len cap) d ps) : len * B ≤ 140737488351232 := by
  obtain ⟨fuel, hf⟩ := h
  rcases open_slice hu hf with ⟨hcs, _⟩ | ⟨x, l, c, m, n, D, Pl, hcs, _, hl, hm, hmm, hx, hi⟩
  · simp [Value.cells] at hcs
    obtain ⟨rfl, rfl, rfl⟩ := hcs
    simp
  · simp [Value.cells] at hcs
    obtain ⟨rfl, rfl, rfl⟩ := hcs
    obtain ⟨hx, _⟩ := Prod.mk.inj hx
    subst hx
    have z := sized_slice hsz ht hd hu
    rw [hB] at z
    simp only [List.length_map, List.length_range] at z
    have hle : len ≤ m := by subst hmm; split <;> omega
    rw [show len + (m - len) = m by omega] at z
    exact Nat.le_trans (Nat.mul_le_mul_right _ hle) z
theorem one_field {f : Field} {cs : List Value} {o c : Nat} (ho : f.offset = o) (hc : P.cellsOf f.type = c) {n : Nat} {y : Option (DataW H × List MemPlace)} (h : DataW.trod enc P w base spare held n f.type ((cs.drop f.offset).take (P.cellsOf f.type)) = y) : DataW.trod enc P w base spare held n f.type ((cs.drop o).take c) = y := by rw [← ho, ← hc]; exact h
end
theorem len5 {α : Type} : ∀ {l : List α}, l.length = 5 → ∃ x0 x1 x2 x3 x4, l = [x0, x1, x2, x3, x4]
  | [x0, x1, x2, x3, x4], _ => ⟨x0, x1, x2, x3, x4, rfl⟩
end Go.Proofs.YtpojnobgijoddaaDoor.Opens
namespace Go.Proofs.YtpojnobgijoddaaDoor.fnExactBestFix
open Go.ChangeShapes Go.WideShapes Go.ChangeAt Go.RowKit
open Go.ChangeMaps (open_string shut_string)
open A YtpojnobgijoddaaDoorW.PrintWords Opens
theorem own : ownKnob Tryd.prog.godebug = none := by kernel_rfl
theorem laidOut : laidOutB Tryd.prog = true := by kernel_rfl
theorem open_47 {H : Type} {enc : TypeId × Value → H} {w : World} {base : Nat} {spare : Nat → Bool} {held : Bool} {n : Nat} {cs : List Value} {y : DataW H × List MemPlace} (h : DataW.trod enc Tryd.prog w base spare held n 47 cs = some y) : ∃ (x0 : Int) (x1 : Int) (x2 : Int) (x3 : Int) (x4 : Int), cs = [.int .i64 x0, .int .i64 x1, .int .i64 x2, .int .i64 x3, .int .i64 x4] ∧ (Lit.int .i64 x0).wf = true ∧ (Lit.int .i64 x1).wf = true ∧ (Lit.int .i64 x2).wf = true ∧ (Lit.int .i64 x3).wf = true ∧ (Lit.int .i64 x4).wf = true := by
  obtain ⟨ys, n', _, _, hlen, hys, hf⟩ := DataW.trod_struct Tryd.underlying47 h
  replace hlen : cs.length = 5 := hlen.trans qz5
  replace hys : ys.length = 5 := hys.trans qz5
  clear h
  obtain ⟨c0, c1, c2, c3, c4, rfl⟩ := len5 hlen
  obtain ⟨y0, y1, y2, y3, y4, rfl⟩ := len5 hys
  have h0 : DataW.trod enc Tryd.prog w base spare held n' 3 [c0] = some y0 := one_field (c := 1) (o := 0) rfl qz5 (hf 0 _ rfl)
  obtain ⟨x0, e0, _, w0⟩ := DataW.trod_int Tryd.underlying3 h0
  obtain rfl : c0 = _ := (List.cons.inj e0).1
  have h1 : DataW.trod enc Tryd.prog w base spare held n' 3 [c1] = some y1 := one_field (c := 1) (o := 1) rfl qz5 (hf 1 _ rfl)
  obtain ⟨x1, e1, _, w1⟩ := DataW.trod_int Tryd.underlying3 h1
  obtain rfl : c1 = _ := (List.cons.inj e1).1
  have h2 : DataW.trod enc Tryd.prog w base spare held n' 3 [c2] = some y2 := one_field (c := 1) (o := 2) rfl qz5 (hf 2 _ rfl)
  obtain ⟨x2, e2, _, w2⟩ := DataW.trod_int Tryd.underlying3 h2
  obtain rfl : c2 = _ := (List.cons.inj e2).1
  have h3 : DataW.trod enc Tryd.prog w base spare held n' 3 [c3] = some y3 := one_field (c := 1) (o := 3) rfl qz5 (hf 3 _ rfl)
  obtain ⟨x3, e3, _, w3⟩ := DataW.trod_int Tryd.underlying3 h3
  obtain rfl : c3 = _ := (List.cons.inj e3).1
  have h4 : DataW.trod enc Tryd.prog w base spare held n' 3 [c4] = some y4 := one_field (c := 1) (o := 4) rfl qz5 (hf 4 _ rfl)
  obtain ⟨x4, e4, _, w4⟩ := DataW.trod_int Tryd.underlying3 h4
  obtain rfl : c4 = _ := (List.cons.inj e4).1
  exact ⟨x0, x1, x2, x3, x4, rfl, w0, w1, w2, w3, w4⟩
theorem lifted (os : Os) (started : os.Started) (H : Type) (enc : TypeId × Value → H) :
    ReturnsInHanded {} Tryd.checked os 7 .any (fun w args => (Rows.fnExactBestFixSpec.pre enc Tryd.prog Tryd.f7 [] false w args ∧ laidMetH Tryd.prog LaidT.list w) ∧ sizedMet enc Tryd.prog Tryd.f7 (OpenSpec.ofChange Rows.fnExactBestFixSpec) false w args) (Rows.fnExactBestFixSpec.post enc Tryd.prog Tryd.f7 false true false false) := by
  refine returnsInHanded_of_change_and (C := Tryd.checked) (X := fun w _ => laidMetH Tryd.prog LaidT.list w) (fun _ _ _ hh h => h.of_heap hh) own started qz5 Tryd.func7
    (ChangeSpec.witness_shaped (enc := enc) (C := Tryd.checked) (os := os) (X := fun w _ => laidMetH Tryd.prog LaidT.list w) false (World.doorLaid Tryd.prog 400 os) #[.slice none 0 0] 8 rfl (World.shaped_of_RefB qz5 qz5) qz5 qz5 qz5 (LaidT.door_met os _)) ?_
  intro W base args ds gs before hval0 hW hcnd hsz0 hL _
  have hsz : (DataW.weightsEach Tryd.prog (Tryd.f7.params.toList ++ Rows.fnExactBestFixSpec.plain.varTypes Tryd.prog) (ds ++ gs)).all (· ≤ reachBytes) = true := hsz0
  have hval : ∀ (j : Nat) t v, Tryd.f7.params[j]? = some t → args[j]? = some v → Value.okWide Tryd.prog W .any base t v := hval0
  have hW' := hW
  obtain ⟨p, q, hA0, hV, rfl, hfz, hnd⟩ := hW
  have hA : DataW.TrodAll enc Tryd.prog W 0 (fun _ => true) true Tryd.f7.params.toList args.toList ds p := hA0
  rw [Tryd.params7] at hA hval hsz
  obtain ⟨v0, vs0, d0, ds0, p0, q0, hargs, rfl, rfl, h0, r0⟩ := trodAll_cons hA
  obtain ⟨rfl, rfl, rfl⟩ := trodAll_nil r0
  obtain rfl : args = #[v0] := by cases args; simp_all
  have hV2 := hV
  obtain ⟨_, _, _, _, gd, _, rfl, _, _, _, _, _⟩ := trodVars_one hV
  have k0 := h0
  have lt0 : ∀ x ∈ p0, x.block < W.heap.size := by obtain ⟨m, hm⟩ := k0; exact DataW.trod_lt m _ _ _ hm
  obtain ⟨a0, len0, cap0, rfl⟩ := okWide_slice Tryd.underlying22 (hval 0 22 v0 rfl rfl)
  obtain ⟨l0, hl0, hc0, hr0, hw0⟩ := Opens.open_row k47 (Q := fun x => (Lit.int .i64 x.f0).wf = true ∧ (Lit.int .i64 x.f1).wf = true ∧ (Lit.int .i64 x.f2).wf = true ∧ (Lit.int .i64 x.f3).wf = true ∧ (Lit.int .i64 x.f4).wf = true) (e := 47) Tryd.underlying22 qz5 (fun _ _ _ h => by obtain ⟨x0, x1, x2, x3, x4, rfl, hw⟩ := open_47 h; exact ⟨⟨x0, x1, x2, x3, x4⟩, k47_mk _ _, hw⟩) h0
  have y0 : len0 * 40 ≤ 140737488351232 := Opens.sized_row hsz (j := 0) (t := 22) rfl rfl Tryd.underlying22 qz5 h0
  subst hl0
  clear hA0 hval0 hsz0 hsz
  obtain ⟨k, hk⟩ := Pure.FnExactBestFix l0 y0 hw0
  refine (laws_FnExactBestFix.calls k _ _ l0 true W hr0 hc0 hk (LaidT.of_laid hL)).mono fun e W' ⟨he, hb⟩ => ?_
  have bel : Below W.heap.size W W' := hb
  subst he
  exact ⟨_, rfl, _, _, _, [], _, _, hW', trodAll_mk1 (shut_bool Tryd.underlying4 _), (trodAll_cons_mk (Below.trod laidOut qz5 (of_decide_eq_true qz5) k0 bel lt0) trodAll_mk0), Below.trodVars laidOut bel qz5 hV2, bel.frame _, fun h => by cases h⟩
theorem over : Rows.fnExactBestFixRow.holds Tryd.pinned (OpenSpec.ofChange Rows.fnExactBestFixSpec) :=
  OpenClaim.holds_of_wide 7 Tryd.f7 rfl rfl rfl rfl rfl rfl rfl ⟨rfl, rfl, rfl, rfl, rfl⟩ rfl rfl rfl rfl rfl qz5 Tryd.func7 qz5
    (of_decide_eq_true qz5) (by unfold Func.isWrapper; first | (rw [if_pos (by decide +kernel)]; kernel_rfl) | (rw [if_neg (by decide +kernel)]; exact ⟨rfl, rfl⟩))
    (fun os started H enc _ => lifted os started H enc)
theorem proved : Rows.FnExactBestFixSaid := over
theorem card_holds : Rows.FnExactBestFixCardSaid :=
  Claim7.holds_tied_plain_at .later [] [.data] true (true, "f35521ca9b23a7300210d85882e5526660475bb4885cbb0315ff34c42be0a49d") false
    over (fun _ h => by cases h) qz5 (fun _ h => by cases h) fnExactBestFix_row_tie rfl ⟨rfl, rfl⟩ qz5 rfl
    (fun f fn hf hfn => by
      obtain rfl : f = 7 := Option.some.inj ((show Tryd.prog.funcNamed "loop.example/g00933/laws.FnExactBestFix" = some 7 by kernel_rfl).symm.trans hf) |>.symm
      obtain rfl : fn = Tryd.f7 := (Option.some.inj (Tryd.func7.symm.trans hfn)).symm
      exact ⟨by kernel_rfl, fun j t ht => by
        rw [Tryd.params7] at ht
        have hm : t ∈ [22] := by simpa using Array.mem_of_getElem? ht
        have hall : ([22].all fun u => !Tryd.prog.wantsStandIn u) = true := by kernel_rfl
        exact (show Tryd.prog.wantsStandIn t = false by simpa using List.all_eq_true.1 hall t hm)⟩)
    qz5
#print axioms card_holds
end Go.Proofs.YtpojnobgijoddaaDoor.fnExactBestFix
namespace Go.Proofs.YtpojnobgijoddaaDoor
theorem fnExactBestFix_holds : Rows.FnExactBestFixCardSaid := fnExactBestFix.card_holds
end Go.Proofs.YtpojnobgijoddaaDoor
