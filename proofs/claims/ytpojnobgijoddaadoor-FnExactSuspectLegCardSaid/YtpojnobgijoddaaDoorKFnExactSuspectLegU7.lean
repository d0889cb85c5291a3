/- The search for a way: the map of the legs by which the stations were found, and what the search leaves. -/
import Derived.Lib.SliceRun
import Derived.Deep.RegionLaw
import Derived.Maps.OwnSet
import Derived.Test.YtpojnobgijoddaaDoorKFnExactSuspectLegU6
set_option maxHeartbeats 4000000
set_option maxRecDepth 1000000
set_option linter.unusedSimpArgs false
set_option linter.unusedVariables false
namespace Go.Proofs.YtpojnobgijoddaaDoor.Net
open Go Go.RowKit YtpojnobgijoddaaDoorW.PrintWords YtpojnobgijoddaaDoorW.PrintLast YtpojnobgijoddaaDoorW.PrintMore A Plain
def resTo (ls : L) (ax : Int) (k : Nat) : List Int := ((usedL ls).take k).map (nT ls ax)
def resL (ls : L) (ax : Int) : List Int := (usedL ls).map (nT ls ax)
theorem resTo_len (ls : L) (ax : Int) (k : Nat) : (resTo ls ax k).length ≤ k := by
  unfold resTo; rw [List.length_map, List.length_take]; omega
theorem resTo_step (ls : L) (ax : Int) (k : Nat) (h : k < (usedL ls).length) : resTo ls ax (k + 1) = resTo ls ax k ++ [nT ls ax (rd (usedL ls) (k : Int))] := by
  unfold resTo
  rw [List.take_add_one, List.map_append, rd_get _ k h, List.getElem?_eq_getElem h]
  rfl
theorem resTo_all (ls : L) (ax : Int) : resL ls ax = resTo ls ax (usedL ls).length := by
  unfold resTo resL; rw [List.take_length]
theorem res_all {ls : L} (hn : ls.length ≤ 12) (hg : ∀ x ∈ ls, Good x) (ax : Int) {k : Int} (hk : k ∈ usedL ls) : resM (leg ls k) ax (coL ls ax) (treesM ls) = nT ls ax k := rest_eq hn hg ax hk
theorem SA_bound {ls : L} (hn : ls.length ≤ 12) (hg : ∀ x ∈ ls, Good x) (ax : Int) : 0 ≤ SA ls ax ∧ SA ls ax ≤ 129140163000000 :=
  ⟨tot_nonneg (f := fun k => nT ls ax k * nT ls ax k) (l := usedL ls) (fun k _ => sq_nonneg _), sq_bound hn hg ax⟩
def sqTo (l : List Int) (k : Nat) : Int := (l.take k).foldl (fun s x => wrap64 (s + wrap64 (x * x))) 0
theorem sqTo_step (l : List Int) (k : Nat) (h : k < l.length) : sqTo l (k + 1) = wrap64 (sqTo l k + wrap64 (rd l (k : Int) * rd l (k : Int))) := by
  unfold sqTo
  rw [List.take_add_one, List.getElem?_eq_getElem h, rd_get _ k h, List.foldl_append]
  rfl
theorem sqTo_all {ls : L} (hn : ls.length ≤ 12) (hg : ∀ x ∈ ls, Good x) (ax : Int) : sqTo (resL ls ax) (resL ls ax).length = SA ls ax := by
  unfold sqTo
  rw [List.take_length]
  unfold resL
  rw [List.foldl_map]
  exact sq_all hn hg ax
theorem residualsW (ba : Nat) (lA uA pA : Option Addr) (lc uc pc : Nat) (ls : L) (ax : Int) (w : World) (hL : Sine.Laid w) (hA : Adj w ba lA uA pA lc uc pc ls (usedL ls) (unkL ls)) (ht : w.cell? ⟨ba, 4, none⟩ = some (.int .i64 (treesM ls))) (hn : ls.length ≤ 12) (hg : ∀ x ∈ ls, Good x) (h0 : 0 ≤ ax) (h2 : ax ≤ 2) :
    Calls Tryd.prog 82 #[.pointer (some ⟨ba, 0, none⟩), .int .i64 ax] w (Lst (resL ls ax) w) := by
  have HA := Aside0.mk hA
  have HL := Aside0.mk hL
  have HG := Aside0.mk hg
  have HT := Aside0.mk ht
  have HB := Aside0.mk (Below.refl w.heap.size w)
  have hul := usedL_len ls
  have HRG := Aside0.mk (usedL_range ls)
  have HRE : Aside0 (∀ k : Int, k ∈ usedL ls → resM (leg ls k) ax (coL ls ax) (treesM ls) = nT ls ax k) := ⟨fun k hk => res_all hn hg ax hk⟩
  have HLN : Aside0 (∀ k, (resTo ls ax k).length ≤ k) := ⟨resTo_len ls ax⟩
  have HST : Aside0 (∀ k, k < (usedL ls).length → resTo ls ax (k + 1) = resTo ls ax k ++ [nT ls ax (rd (usedL ls) (k : Int))]) := ⟨resTo_step ls ax⟩
  have HEND := Aside0.mk (resTo_all ls ax)
  have HCL : Aside0 ((coL ls ax).length = 8) := ⟨coL_len ls ax⟩
  have c2 := hA.c2
  clear hA hL hg ht
  go_enter Tryd.func82, Tryd.ntmps82
  go_wp2_with (first
    | (go_at_call 98; (with_reducible refine (coordinatesW ba lA uA pA lc uc pc ls ax _ ?s1 ?s2 hn HG.out h0 h2).mono ?_); (case s1 => exact HL.out.keep HB.out); (case s2 => exact HA.out.keep HB.out); rintro e w3 ⟨v, rfl, hv3, hw3⟩; replace HB := Aside0.mk (below_step HB.out hw3); have HV := Aside0.mk hv3; replace c2 := Sine.keepc c2 HB.out; clear hv3 hw3; obtain ⟨cA, cC, ec⟩ := Kd.R_slice HV.out; subst ec))
  replace HA := Aside0.mk (HA.out.keep HB.out)
  replace HT := Aside0.mk (Sine.keepc HT.out HB.out)
  replace HL := Aside0.mk (HL.out.keep HB.out)
  have HB0 := HB
  clear HB
  have HB := Aside0.mk (Below.refl w3.heap.size w3)
  go_loopw [6, 17] (fun v6 v17 W => ∃ (k : Nat), k ≤ (usedL ls).length ∧ v17 = .int .i64 k ∧ Aside0 (Kd.R (Kd.int .i64) 3 W w3.heap.size (fun _ => True) v6 (resTo ls ax k)) ∧ Aside0 (Below w3.heap.size w3 W)) (fun _ v17 _ => (usedL ls).length - (intOf v17).toNat)
  case atStart => exact ⟨0, Nat.zero_le _, rfl, ⟨Kd.R_nil _ _ _ _ _⟩, ⟨by (repeat (first | exact HB.out | exact Below.refl _ _ | apply below_alloc | apply pw_below_drewN | apply below_drew1)); done⟩⟩
  case round =>
    obtain ⟨k, hk, rfl, HO, HB2⟩ := hrel
    clear HB c2
    have HB := HB2
    clear HB2
    obtain ⟨vA, vC, ev⟩ := Kd.R_slice HO.out
    subst ev
    have hlen := HLN.out k
    by_cases hlt : k < (usedL ls).length
    · have k0 : (0 : Int) ≤ (k : Int) := by omega
      have k1 : (k : Int) < ((usedL ls).length : Int) := by omega
      have hmem : rd (usedL ls) (k : Int) ∈ usedL ls := by rw [rd_get _ k hlt]; exact List.getElem_mem hlt
      obtain ⟨ad, e1, h1⟩ := Kd.at_int (Kd.C_below HA.out.u HB.out) (k : Int) k0 k1
      rw [Int.toNat_natCast] at h1
      have hs := HRG.out _ hmem
      have HX := Aside0.mk (HST.out k hlt)
      have HE := Aside0.mk (HRE.out _ hmem)
      clear hmem
      obtain ⟨s, hs2⟩ := Int.eq_ofNat_of_zero_le hs.1
      rw [hs2] at h1 hs HX HE
      clear hs2
      have s0 : (0 : Int) ≤ (s : Int) := hs.1
      have s1 : (s : Int) < (ls.length : Int) := hs.2
      have HGX : Aside0 (Good (leg ls (s : Int))) := ⟨HG.out _ (leg_mem (by omega))⟩
      have hc1 := HA.out.c1
      have hc4 := HT.out
      obtain ⟨al, e2, g0, g1, g2, g3, g4⟩ := at_T45 HA.out.l (s : Int) s0 s1
      have ek : rd_T45 ls (s : Int) = leg ls s := rfl
      rw [Int.toNat_natCast] at g0 g1 g2 g3 g4
      rw [ek] at g0 g1 g2 g3 g4
      clear ek hs
      generalize leg ls (s : Int) = x at *
      have HQ : Aside0 (∀ W, Below w3.heap.size w3 W → Calls Tryd.prog 99 #[.agg #[.int .i64 x.f0, .int .i64 x.f1, .int .i64 x.f2, .int .i64 x.f3, .int .i64 x.f4], .int .i64 ax, .slice cA (coL ls ax).length cC, .int .i64 (treesM ls)] W fun e w' => e = .returned (.int .i64 (nT ls ax (s : Int))) ∧ Below W.heap.size W w') := ⟨fun W hb => by
        have hq := residualW cA cC (coL ls ax) x ax (treesM ls) W (HL.out.keep hb) (Kd.C_below (Kd.R_reads' HV.out).2.2 hb) HCL.out HGX.out h0 h2
        rw [HE.out] at hq; exact hq⟩
      generalize nT ls ax (s : Int) = nv at *
      subst e1
      go_wp2_with fail
      subst e2
      --@region
      refine start_ (n := 18) (S := (fun w' => w'.cell? ⟨ba, 1, none⟩ = some (.slice (some al) ls.length lc) ∧ w'.cell? ⟨ba, 4, none⟩ = some (.int .i64 (treesM ls)) ∧ w'.cell? (al.add (s * 5)) = some (.int .i64 x.f0) ∧ w'.cell? { block := (al.add (s * 5)).block, off := (al.add (s * 5)).off + 1 } = some (.int .i64 x.f1) ∧ w'.cell? { block := (al.add (s * 5)).block, off := (al.add (s * 5)).off + 2 } = some (.int .i64 x.f2) ∧ w'.cell? { block := (al.add (s * 5)).block, off := (al.add (s * 5)).off + 3 } = some (.int .i64 x.f3) ∧ w'.cell? { block := (al.add (s * 5)).block, off := (al.add (s * 5)).off + 4 } = some (.int .i64 x.f4))) (ds := []) #[false, false, false, false, false, false, false, false, false, false, false, false, false, false, false, false, false, false] qz5 rfl rfl qz11 (fun hHeld => ?_)
      refine pY 0 (some 21) (bz 18 1) ?_
      refine pY 1 (some 22) (bz 18 3) ?_
      refine pY 2 (some 23) (bz 18 7) ?_
      refine pY 3 (some 24) (bz 18 15) ?_
      refine tZ8 4 (some 25) (bz 18 31) ?_
      refine pY 5 (some 26) (bz 18 63) ?_
      refine pY 6 (some 27) (bz 18 127) ?_
      refine tZ8 7 (some 28) (bz 18 255) ?_
      refine pY 8 (some 29) (bz 18 511) ?_
      refine pY 9 (some 30) (bz 18 1023) ?_
      refine pY 10 (some 31) (bz 18 2047) ?_
      refine pY 11 (some 32) (bz 18 4095) ?_
      refine pY 12 (some 33) (bz 18 8191) ?_
      refine tZ8 13 (some 34) (bz 18 16383) ?_
      refine one_ (i := 14) (N := some 35) #[true, true, true, true, true, true, true, true, true, true, true, true, true, true, true, false, false, false] rfl rfl qz5 (by decide) (fun K hK => ?_)
      refine goes_ Tryd.func99 qz5 rfl #[.agg #[.int .i64 x.f0, .int .i64 x.f1, .int .i64 x.f2, .int .i64 x.f3, .int .i64 x.f4], .int .i64 ax, .slice cA (coL ls ax).length cC, .int .i64 (treesM ls)] (by rfl) rfl rfl qz32 ?_
      (with_reducible refine (HQ.out _ ?s1).mono ?_); (case s1 => ((repeat (first | exact Below.refl _ _ | apply pw_below_drewN | apply below_drew1 | exact HB.out | refine below_step ?_ qz51)); done)); rintro e w5 ⟨rfl, hw5⟩
      have hb5 := below_step (show Below wr.heap.size wr _ from by (repeat (first | exact Below.refl _ _ | apply pw_below_drewN | apply below_drew1 | exact HB.out | refine below_step ?_ qz51)); done) hw5
      have HB5 := Aside0.mk (below_step HB.out hb5)
      have HO5 := Aside0.mk (Kd.R_below HO.out hb5)
      refine ⟨_, rfl, ?_⟩
      refine hK.out _ _ qz11 (fun hHeld => ?_)
      clear hK K
      refine norm_ (a' := ?_) ?_ ?_
      rotate_left
      · show Act.put _ (some 35) _ = _
        simp only [Act.put, List.setIfInBounds_toArray, List.set_cons_zero, List.set_cons_succ, i64_w, i32_w]
        rfl
      refine one_ (i := 15) (N := some 36) #[true, true, true, true, true, true, true, true, true, true, true, true, true, true, true, true, false, false] rfl rfl qz5 (by decide) (fun K hK => ?_)
      refine value_ (w1 := ?_) (v := ?_) (by rfl) rfl ?_ ?_
      rotate_left 2
      · go_simp
        constructor
        · rfl
        · rfl
      refine hK.out _ _ qz11 (fun hHeld => ?_)
      clear hK K
      refine norm_ (a' := ?_) ?_ ?_
      rotate_left
      · show Act.put _ (some 36) _ = _
        simp only [Act.put, List.setIfInBounds_toArray, List.set_cons_zero, List.set_cons_succ, i64_w, i32_w]
        rfl
      refine one_ (i := 16) (N := some 37) #[true, true, true, true, true, true, true, true, true, true, true, true, true, true, true, true, true, false] rfl rfl qz5 (by decide) (fun K hK => ?_)
      refine Kd.R_append_step (Kd.int .i64) (w0 := w3) w3.heap.size (by rfl) (.tmp 21) (.tmp 36) 63 3 (.int .i64 0) 8 rfl Tryd.underlying63 info3 rfl (by decide) (by omega) (.slice vA (resTo ls ax k).length vC) (resTo ls ax k) nv [.int .i64 nv] (fun _ => True) (fun _ => False) rfl rfl ?aP (fun _ hk => hk.elim) ?aF ?aO ?aB ?aS ?aL ?_
      (case aP => exact rfl)
      (case aF => intro b hb; trivial)
      (case aO => exact HO5.out)
      (case aB => exact HB5.out)
      (case aS => exact below_size HB5.out)
      (case aL => omega)
      intro v7_ w7_ ho hb hg hat
      have HP2 := Aside0.mk ho
      have HP3 := Aside0.mk hb
      refine hK.out _ _ qz11 (fun hHeld => ?_)
      clear hK K
      refine norm_ (a' := ?_) ?_ ?_
      rotate_left
      · show Act.put _ (some 37) _ = _
        simp only [Act.put, List.setIfInBounds_toArray, List.set_cons_zero, List.set_cons_succ, i64_w, i32_w]
        rfl
      refine pY 17 (some 6) (bz 18 262143) ?_
      refine done_ qz5 ?_
      --@end
      go_wp2
      exact ⟨⟨k + 1, hlt, by go_num, by rw [HX.out]; exact HP2, HP3⟩, by simp [intOf]; omega⟩
    · obtain rfl : k = (usedL ls).length := by omega
      go_wp2
      exact bodyPost_ret (v := .slice vA (resTo ls ax (usedL ls).length).length vC) (by simp [results, Tryd.results82, go_sem]) rfl ⟨_, rfl, by rw [HEND.out]; exact Kd.R_lower HO.out (below_size HB0.out), below_step HB0.out HB.out⟩
theorem squaresW (ba : Nat) (lA uA pA : Option Addr) (lc uc pc : Nat) (ls : L) (ax : Int) (w : World) (hL : Sine.Laid w) (hA : Adj w ba lA uA pA lc uc pc ls (usedL ls) (unkL ls)) (ht : w.cell? ⟨ba, 4, none⟩ = some (.int .i64 (treesM ls))) (hn : ls.length ≤ 12) (hg : ∀ x ∈ ls, Good x) (h0 : 0 ≤ ax) (h2 : ax ≤ 2) :
    Calls Tryd.prog 59 #[.pointer (some ⟨ba, 0, none⟩), .int .i64 ax] w (fun e w' => e = .returned (.int .i64 (SA ls ax)) ∧ Below w.heap.size w w') := by
  have HB := Aside0.mk (Below.refl w.heap.size w)
  have HRR := Aside0.mk (residualsW ba lA uA pA lc uc pc ls ax w hL hA ht hn hg h0 h2)
  have HST : Aside0 (∀ k, k < (resL ls ax).length → sqTo (resL ls ax) (k + 1) = wrap64 (sqTo (resL ls ax) k + wrap64 (rd (resL ls ax) (k : Int) * rd (resL ls ax) (k : Int)))) := ⟨sqTo_step _⟩
  have HEND := Aside0.mk (sqTo_all hn hg ax)
  have HLN : Aside0 ((resL ls ax).length ≤ 12) := ⟨by unfold resL; rw [List.length_map]; have := usedL_len ls; omega⟩
  clear hL hA ht hg
  go_enter Tryd.func59, Tryd.ntmps59
  go_wp2_with (first
    | (go_at_call 82; (with_reducible refine HRR.out.mono ?_); rintro e w3 ⟨v, rfl, hv3, hw3⟩; replace HB := Aside0.mk (below_step HB.out hw3); have HV := Aside0.mk hv3; clear hv3 hw3; obtain ⟨cA, cC, ec⟩ := Kd.R_slice HV.out; subst ec))
  generalize resL ls ax = l at *
  have hl12 := HLN.out
  go_loopw [5, 12] (fun v5 v12 W => ∃ (k : Nat), k ≤ l.length ∧ v12 = .int .i64 k ∧ v5 = .int .i64 (sqTo l k) ∧ Aside0 (Below w3.heap.size w3 W)) (fun _ v12 _ => l.length - (intOf v12).toNat)
  case atStart => exact ⟨0, Nat.zero_le _, rfl, rfl, ⟨by (repeat (first | exact HB.out | exact Below.refl _ _ | apply below_alloc | apply pw_below_drewN | apply below_drew1)); done⟩⟩
  case round =>
    obtain ⟨k, hk, rfl, rfl, HB3⟩ := hrel
    by_cases hlt : k < l.length
    · have k0 : (0 : Int) ≤ (k : Int) := by omega
      have k1 : (k : Int) < (l.length : Int) := by omega
      obtain ⟨ad, e1, h1⟩ := Kd.at_int (Kd.C_below (Kd.R_reads' HV.out).2.2 HB3.out) (k : Int) k0 k1
      rw [Int.toNat_natCast] at h1
      subst e1
      have hst := HST.out k hlt
      go_wp2
      exact ⟨⟨k + 1, hlt, by go_num, by rw [hst], HB3⟩, by simp [intOf]; omega⟩
    · obtain rfl : k = l.length := by omega
      have hend := HEND.out
      go_wp2
      exact bodyPost_ret (v := .int .i64 (sqTo l l.length)) (by simp [results, Tryd.results59, go_sem]) rfl ⟨by rw [hend], below_step HB.out HB3.out⟩
end Go.Proofs.YtpojnobgijoddaaDoor.Net
namespace Go.Proofs.YtpojnobgijoddaaDoor.Net
open Go.RowKit YtpojnobgijoddaaDoorW.PrintWords Plain A Frac
def redN (n d : Int) : Int := n.tdiv (Int.gcd n d)
def redD (n d : Int) : Int := d.tdiv (Int.gcd n d)
theorem red_red {n d : Int} (hd : 0 < d) : Red (redN n d) (redD n d) n d := Red.of_div hd
theorem tdiv_small (n : Int) (g : Nat) {B : Int} (h1 : -B ≤ n) (h2 : n ≤ B) : -B ≤ n.tdiv (g : Int) ∧ n.tdiv (g : Int) ≤ B := by
  have h : (n.tdiv (g : Int)).natAbs ≤ n.natAbs := by rw [Int.natAbs_tdiv]; exact Nat.div_le_self _ _
  omega
theorem wtdiv (n : Int) (g : Nat) (h1 : -9000000000000000000 ≤ n) (h2 : n ≤ 9000000000000000000) : wrap64 (n.tdiv (g : Int)) = n.tdiv (g : Int) := by
  have := tdiv_small n g h1 h2
  unfold wrap64; omega
theorem gcd_small {n d : Int} (hd : 0 < d) (hd2 : d ≤ 9000000000000000000) : 0 < Int.gcd n d ∧ (Int.gcd n d : Int) ≤ 9000000000000000000 := by
  have h1 := Int.gcd_pos_of_ne_zero_right n (show d ≠ 0 by omega)
  have h2 := Nat.le_of_dvd (show 0 < d.natAbs by omega) (Nat.gcd_dvd_right n.natAbs d.natAbs)
  have h3 : Int.gcd n d = Nat.gcd n.natAbs d.natAbs := rfl
  omega
theorem gcd_ev (n d : Int) (hd : 0 < d) (hd2 : d ≤ 9000000000000000000) : Ev (fun k => impl_gcd.f k n d) (Int.gcd n d : Int) := by
  have hs := gcd_small (n := n) hd hd2
  obtain ⟨z, hz, _, K, hK⟩ := gcd_loop (g := impl_gcd.l0) (fin := fun a => if a < wrap64 (-a) then wrap64 (-a) else a) (fun k a => by
    unfold impl_gcd.l0; rw [if_pos rfl]; unfold impl_absolute.f; rfl) (fun k a b hb => by
    conv => lhs; unfold impl_gcd.l0
    rw [if_neg hb]) (d.natAbs + 1) n d (by omega)
  refine ⟨K, fun k hk => ?_⟩
  show impl_gcd.l0 k n d = _
  have h := hK k hk
  simp only at h
  rw [h]
  congr 1
  have hw : wrap64 (-z) = -z := by unfold wrap64; omega
  rw [hw]
  split <;> omega
theorem reduced_ev (n d : Int) (hd : 0 < d) (hd2 : d ≤ 9000000000000000000) (h1 : -9000000000000000000 ≤ n) (h2 : n ≤ 9000000000000000000) : Ev (fun k => impl_reduced.f k n d) (redN n d, redD n d) := by
  have hs := gcd_small (n := n) hd hd2
  obtain ⟨K, hK⟩ := gcd_ev n d hd hd2
  refine ⟨K, fun k hk => ?_⟩
  show impl_reduced.f k n d = _
  unfold impl_reduced.f
  have h := hK k hk
  simp only at h
  rw [h]
  show (if ((Int.gcd n d : Nat) : Int) = 0 then _ else _) = _
  rw [if_neg (by omega), wtdiv n _ h1 h2, wtdiv d _ (by omega) (by omega)]
  rfl
theorem l9_loop (n d : Int) : ∀ (m : Nat) (a b : Int), b.natAbs < m → 0 ≤ a → 0 ≤ b → 0 < Int.gcd a b → Ev (fun k => spec_l9Reduce.l0 k n d a b) (wrap64 (n.tdiv (Int.gcd a b)), wrap64 (d.tdiv (Int.gcd a b)))
  | 0, a, b, h, _, _, _ => by omega
  | m + 1, a, b, h, ha, hb, hg => by
    by_cases h0 : b = 0
    · subst h0
      rw [Int.gcd_zero_right] at hg ⊢
      refine ⟨1, fun k hk => ?_⟩
      obtain ⟨k, rfl⟩ : ∃ m, k = m + 1 := ⟨k - 1, by omega⟩
      show spec_l9Reduce.l0 (k + 1) n d a 0 = _
      unfold spec_l9Reduce.l0
      rw [if_pos rfl, if_neg (by omega), show ((a.natAbs : Nat) : Int) = a by omega]
    · obtain ⟨K, hK⟩ := l9_loop n d m b (Int.tmod a b) (by have := tmod_lt a b h0; omega) hb (Int.tmod_nonneg b ha) (by rw [gcd_step a b h0]; exact hg)
      refine ⟨K + 1, fun k hk => ?_⟩
      obtain ⟨k, rfl⟩ : ∃ m, k = m + 1 := ⟨k - 1, by omega⟩
      show spec_l9Reduce.l0 (k + 1) n d a b = _
      conv => lhs; unfold spec_l9Reduce.l0
      rw [if_neg h0]
      have h := hK k (by omega)
      simp only at h
      rw [h, gcd_step a b h0]
theorem l9Reduce_ev (n d : Int) (hd : 0 < d) (hd2 : d ≤ 9000000000000000000) (h1 : -9000000000000000000 ≤ n) (h2 : n ≤ 9000000000000000000) : Ev (fun k => spec_l9Reduce.f k n d) (redN n d, redD n d) := by
  have ha : spec_l1Most.f n (wrap64 (-n)) = some (n.natAbs : Int) := by
    have hw : wrap64 (-n) = -n := by unfold wrap64; omega
    rw [hw]
    unfold spec_l1Most.f
    split <;> (congr 1; omega)
  have hg : Int.gcd (n.natAbs : Int) d = Int.gcd n d := by unfold Int.gcd; rw [Int.natAbs_natCast]
  have hs := gcd_small (n := n) hd hd2
  obtain ⟨K, hK⟩ := l9_loop n d (d.natAbs + 1) (n.natAbs : Int) d (by omega) (by omega) (by omega) (by rw [hg]; exact hs.1)
  refine ⟨K, fun k hk => ?_⟩
  show spec_l9Reduce.f k n d = _
  unfold spec_l9Reduce.f
  rw [ha]
  show spec_l9Reduce.l0 k n d (n.natAbs : Int) d = _
  have h := hK k hk
  simp only at h
  rw [h, hg, wtdiv n _ h1 h2, wtdiv d _ (by omega) (by omega)]
  rfl
end Go.Proofs.YtpojnobgijoddaaDoor.Net
namespace Go.Proofs.YtpojnobgijoddaaDoor.Net
open Go Go.RowKit YtpojnobgijoddaaDoorW.PrintWords YtpojnobgijoddaaDoorW.PrintLast YtpojnobgijoddaaDoorW.PrintMore A Plain
def stTo (ls : L) : Nat → Int
  | 0 => 0
  | a + 1 => wrap64 (stTo ls a + SA ls (a : Int))
theorem stTo_three {ls : L} (hn : ls.length ≤ 12) (hg : ∀ x ∈ ls, Good x) : stTo ls 3 = SA ls 0 + SA ls 1 + SA ls 2 := by
  have h0 := SA_bound hn hg 0
  have h1 := SA_bound hn hg 1
  have h2 := SA_bound hn hg 2
  show wrap64 (wrap64 (wrap64 (0 + SA ls ((0 : Nat) : Int)) + SA ls ((1 : Nat) : Int)) + SA ls ((2 : Nat) : Int)) = _
  rw [show (((0 : Nat) : Int)) = 0 from rfl, show (((1 : Nat) : Int)) = 1 from rfl, show (((2 : Nat) : Int)) = 2 from rfl, w64 (x := 0 + SA ls 0) (by omega) (by omega), w64 (x := 0 + SA ls 0 + SA ls 1) (by omega) (by omega), w64 (by omega) (by omega)]
  omega
def StrainPost (ls : L) (w : World) (e : Ending) (w' : World) : Prop := e = .returned (.agg #[.int .i64 (sNum ls), .int .i64 (sDen ls)]) ∧ Below w.heap.size w w'
theorem strainW (A0 : Option Addr) (c0 : Nat) (ls : L) (w : World) (hL : Sine.Laid w) (hr0 : Kd.C k45 w A0 ls.length ls) (hc0 : ls.length ≤ c0) (hn : ls.length ≤ 12) (hg : ∀ x ∈ ls, Good x) :
    Calls Tryd.prog 33 #[.slice A0 ls.length c0] w (StrainPost ls w) := by
  have HR := Aside0.mk hr0
  have HL := Aside0.mk hL
  have HG := Aside0.mk hg
  have HB := Aside0.mk (Below.refl w.heap.size w)
  have HRD : Aside0 (∀ W, Calls Tryd.prog 60 #[.int .i64 (stTo ls 3), .int .i64 (IntKind.i64.wrap (treesM ls * treesM ls))] W fun e w' => e = .returned (.tuple #[.int .i64 (sNum ls), .int .i64 (sDen ls)]) ∧ Below W.heap.size W w') := ⟨fun W => by
    have ht1 := trees_pos hn HG.out
    have ht2 := trees_le hn HG.out
    have h0 := SA_bound hn HG.out 0
    have h1 := SA_bound hn HG.out 1
    have h2 := SA_bound hn HG.out 2
    have hsq : treesM ls * treesM ls ≤ 6561 * 6561 := Int.mul_le_mul ht2 ht2 (by omega) (by omega)
    have hsp : 0 < treesM ls * treesM ls := Int.mul_pos (by omega) (by omega)
    rw [i64_w, Plain.w64 (by omega) (by omega), stTo_three hn HG.out]
    obtain ⟨K, hK⟩ := reduced_ev (SA ls 0 + SA ls 1 + SA ls 2) (treesM ls * treesM ls) hsp (by omega) (by omega) (by omega)
    have hq := impl_reduced.calls K _ _ _ _ W (hK K (Nat.le_refl _))
    obtain ⟨e1, e2⟩ := strain_impl hn HG.out (red_red (n := SA ls 0 + SA ls 1 + SA ls 2) hsp)
    rw [e1, e2] at hq
    exact hq⟩
  have HST : Aside0 (∀ a : Nat, stTo ls (a + 1) = wrap64 (stTo ls a + SA ls (a : Int))) := ⟨fun _ => rfl⟩
  clear hr0 hL hg
  go_enter Tryd.func33, Tryd.ntmps33
  go_wp2_with (go_at_call 58; (with_reducible refine (adjustW A0 c0 ls _ ?s1 ?s2 hc0 hn HG.out).mono ?_); (case s1 => exact HL.out.keep qz6); (case s2 => exact Kd.C_below HR.out qz6); rintro e w2 ⟨ba, uA, pA, uc, pc, rfl, hadj, ht, hba, hw⟩; have HJ := Aside0.mk hadj; have g0 : w2.cell? ⟨w.heap.size, 0, none⟩ = some (.int .i64 0) := Sine.keepc qz17 hw; have g1 : w2.cell? ⟨w.heap.size, 1, none⟩ = some (.int .i64 0) := Sine.keepc qz17 hw; have z0 : w2.frozen? ⟨w.heap.size, 0, none⟩ = false := keepz (v := .int .i64 0) qz17 qz17 hw; have z1 : w2.frozen? ⟨w.heap.size, 1, none⟩ = false := keepz (v := .int .i64 0) qz17 qz17 hw; replace HB := Aside0.mk (below_step (show Below w.heap.size w _ from by (repeat (first | exact HB.out | exact Below.refl _ _ | apply below_alloc | apply pw_below_drewN | apply below_drew1)); done) hw); clear hadj hw hba)
  have HZ : Aside0 (∀ W, Below w2.heap.size w2 W → W.cell? ⟨w.heap.size, 0, none⟩ = some (.int .i64 0) ∧ W.cell? ⟨w.heap.size, 1, none⟩ = some (.int .i64 0) ∧ W.frozen? ⟨w.heap.size, 0, none⟩ = false ∧ W.frozen? ⟨w.heap.size, 1, none⟩ = false) := ⟨fun W hW => ⟨Sine.keepc g0 hW, Sine.keepc g1 hW, keepz g0 z0 hW, keepz g1 z1 hW⟩⟩
  clear g0 g1 z0 z1
  go_loopw [4, 5] (fun v4 v5 W => ∃ a : Nat, a ≤ 3 ∧ v5 = .int .i64 a ∧ v4 = .int .i64 (stTo ls a) ∧ Aside0 (Below w2.heap.size w2 W)) (fun _ v5 _ => 3 - (intOf v5).toNat)
  case atStart => exact ⟨0, by omega, rfl, rfl, ⟨Below.refl _ _⟩⟩
  case round =>
    obtain ⟨a, ha, rfl, rfl, HW⟩ := hrel
    by_cases hlt : a < 3
    · have a0 : (0 : Int) ≤ (a : Int) := by omega
      have a2 : (a : Int) ≤ 2 := by omega
      have HE := Aside0.mk (HST.out a)
      go_wp2_with (go_at_call 59; (with_reducible refine (squaresW ba A0 uA pA c0 uc pc ls (a : Int) _ ?s1 ?s2 ?s3 hn HG.out a0 a2).mono ?_); (case s1 => exact HL.out.keep (below_step HB.out HW.out)); (case s2 => exact HJ.out.keep HW.out); (case s3 => exact Sine.keepc ht HW.out); rintro e w3 ⟨rfl, hw3⟩; replace HW := Aside0.mk (below_step HW.out hw3); clear hw3)
      exact ⟨⟨a + 1, hlt, by go_num, by rw [HE.out], HW⟩, by simp [intOf]; omega⟩
    · obtain rfl : a = 3 := by omega
      have ht3 := Sine.keepc ht HW.out
      go_wp2
      go_region_held3 (fun w' => w'.cell? ⟨ba, 4, none⟩ = some (.int .i64 (treesM ls)))
        (first | exact ht3 | exact Sine.keepc ht3 qz51 | (refine Sine.keepc (w := wr) ht3 ?_ <;> ((repeat (first | exact Below.refl _ _ | apply pw_below_drewN | apply below_drew1 | exact HB.out | refine below_step ?_ qz51)); done)))
        (first
          | (go_at_call 60; (with_reducible refine (HRD.out _).mono ?_); rintro e w4 ⟨rfl, hw4⟩
             have hB4 : Below wr.heap.size wr w4 := by (repeat (first | exact Below.refl _ _ | apply pw_below_drewN | apply below_drew1 | exact HB.out | refine below_step ?_ qz51)); done
             have HW4 := Aside0.mk (below_step HW.out hB4)
             clear hw4))
      obtain ⟨g0, g1, z0, z1⟩ := HZ.out _ HW4.out
      go_wp2
      have HB5 := Aside0.mk (below_step HB.out HW4.out)
      exact bodyPost_ret (v := .agg #[.int .i64 (sNum ls), .int .i64 (sDen ls)]) (by simp [results, Tryd.results33, go_sem, g0, g1]) rfl ⟨rfl, by repeat (first | exact HB5.out | (refine below_set ?_ (by omega)))⟩
end Go.Proofs.YtpojnobgijoddaaDoor.Net
namespace Go.Proofs.YtpojnobgijoddaaDoor.Net
open Go.RowKit YtpojnobgijoddaaDoorW.PrintWords YtpojnobgijoddaaDoorW.PrintLast YtpojnobgijoddaaDoorW.PrintMore A Plain
def Gate (ls : L) (b : Bool) (w : World) (e : Ending) (w' : World) : Prop := ∃ g T cA cC, e = .returned (.tuple #[.pointer (some ⟨g, 0, none⟩), .bool b]) ∧ St ls.length T g (Pq (RR ls)) (Xq ls (RR ls)) (Bq (RR ls)) (.slice cA (closeL ls).length cC) w' ∧ Kd.R (Kd.int .i64) 3 w' w.heap.size (fun k => k ≠ g ∧ k ≠ T) (.slice cA (closeL ls).length cC) (closeL ls) ∧ Below w.heap.size w w'
theorem placedLeg (A : Option Addr) (c : Nat) (ls : L) (i : Int) (w : World) (hL : Sine.Laid w) (hr0 : Kd.C k45 w A ls.length ls) (hc : ls.length ≤ c) (hv : legsB ls = true) (h0 : 0 ≤ i) (h1 : i < ls.length) :
    Calls Tryd.prog 43 #[.slice A ls.length c, .int .i64 i] w (Gate ls (Pq (RR ls) (leg ls i).f0.toNat) w) := by
  have hv' := legsB_iff.mp hv
  have hn := hv'.2
  obtain ⟨K, hK⟩ := areLegs_ev ls (by omega)
  have HA := Aside0.mk (hK K (Nat.le_refl _))
  rw [hv] at HA
  have HW : Aside0 (impl_within.f i 0 ((ls.length : Int) - 1) = some true) := ⟨by rw [within_eq, decide_eq_true (by omega)]⟩
  obtain ⟨k, rfl⟩ := Int.eq_ofNat_of_zero_le h0
  have hg := leg_good hv'.1 k (by omega)
  obtain ⟨a, ha⟩ := Int.eq_ofNat_of_zero_le hg.1.1
  have ha8 : (a : Int) < 8 := by have := hg.1.2; omega
  rw [ha, Int.toNat_natCast]
  obtain ⟨_, e2, h2, _⟩ := at_T45 hr0 (k : Int) h0 h1
  cases e2
  rw [Int.toNat_natCast, show rd_T45 ls (k : Int) = leg ls k from rfl, ha] at h2
  have H2 := Aside0.mk h2
  have HG := Aside0.mk hv'.1
  have HR := Aside0.mk hr0
  have HL := Aside0.mk hL
  have HB := Aside0.mk (Below.refl w.heap.size w)
  clear hK hr0 hL hv hv' hg ha h2
  go_enter Tryd.func43, Tryd.ntmps43
  go_wp2_with (first
    | (go_at_call 32; (with_reducible refine (impl_areLegs.calls K _ _ ls true _ ?s1 ?s2 HA.out).mono ?_); (case s1 => exact Kd.C_below HR.out qz6); (case s2 => exact hc); rintro e w' ⟨rfl, hw⟩; replace HB := Aside0.mk (below_step (show Below w.heap.size w _ from by (repeat (first | exact HB.out | exact Below.refl _ _ | apply below_alloc | apply pw_below_drewN | apply below_drew1)); done) hw); clear hw)
    | (go_at_call 64; (with_reducible refine (impl_within.calls _ _ _ _ _ HW.out).mono ?_); rintro e w' ⟨rfl, ⟨nd, rfl⟩⟩; replace HB := Aside0.mk (pw_below_drewN HB.out nd))
    | ((go_at_call 49; (with_reducible refine (place _ c ls _ ?s1 ?s2 hc hn HG.out (RR ls) rfl).mono ?_); (case s1 => exact HL.out.keep qz6); (case s2 => exact Kd.C_below HR.out qz6); rintro e w' ⟨g, T, cl, rfl, hst, ho, hw⟩; have HO : Aside0 (Kd.R (Kd.int .i64) 3 w' w.heap.size (fun k => k ≠ g ∧ k ≠ T) cl (closeL ls)) := ⟨Kd.R_lower ho (below_size (show Below w.heap.size w _ from by (repeat (first | exact HB.out | exact Below.refl _ _ | apply below_alloc | apply pw_below_drewN | apply below_drew1)); done))⟩; replace HB := Aside0.mk (below_step (show Below w.heap.size w _ from by (repeat (first | exact HB.out | exact Below.refl _ _ | apply below_alloc | apply pw_below_drewN | apply below_drew1)); done) hw); have HS := Aside0.mk hst; clear hst ho hw; obtain ⟨cA, cC, ecl⟩ := Kd.R_slice HO.out; subst ecl); have h2 := Sine.keepc H2.out HB.out; have pa := HS.out.pb a (by omega)))
  go_quiet (fail)
  go_wp2
  go_ret2
  exact ⟨g, T, cA, cC, rfl, HS.out.keep (pw_below_drewN (Below.refl _ _) _), Kd.R_drewN HO.out _, pw_below_drewN HB.out _⟩
end Go.Proofs.YtpojnobgijoddaaDoor.Net
namespace Go.Proofs.YtpojnobgijoddaaDoor.Net
open Go.RowKit YtpojnobgijoddaaDoorW.PrintWords YtpojnobgijoddaaDoorW.PrintLast YtpojnobgijoddaaDoorW.PrintMore A Plain
open Tree (verts legs W)
open Grow (Q sweep grow)
open Conn (Conn)
def less (ls : L) (i : Nat) : L := ls.take i ++ ls.drop (i + 1)
theorem less_len (ls : L) (i : Nat) (h : i < ls.length) : (less ls i).length + 1 = ls.length := by
  unfold less
  rw [List.length_append, List.length_take, List.length_drop]
  omega
theorem less_good {ls : L} (hg : ∀ x ∈ ls, Good x) (i : Nat) : ∀ x ∈ less ls i, Good x := fun x hx => by
  unfold less at hx
  rcases List.mem_append.mp hx with h | h
  · exact hg x (List.mem_of_mem_take h)
  · exact hg x (List.mem_of_mem_drop h)
theorem less_leg (ls : L) (i : Nat) (h : i < ls.length) (j : Nat) : leg (less ls i) (j : Int) = if j < i then leg ls (j : Int) else leg ls ((j + 1 : Nat) : Int) := by
  unfold leg rd_T45 less
  rw [Int.toNat_natCast, Int.toNat_natCast, List.getD_eq_getElem?_getD, List.getD_eq_getElem?_getD, List.getD_eq_getElem?_getD, List.getElem?_append, List.length_take, Nat.min_eq_left (by omega)]
  by_cases c : j < i
  · rw [if_pos c, if_pos c, List.getElem?_take_of_lt c]
  · rw [if_neg c, if_neg c, List.getElem?_drop, show i + 1 + (j - i) = j + 1 by omega]
theorem less_rel (ls : L) (i : Nat) (h : i < ls.length) (a b : Int) : Grow.Rel (ends (less ls i)) (less ls i).length a b ↔ Bfs.RelU (ends ls) (fun j => decide (j ≠ (i : Int))) ls.length a b := by
  have hl := less_len ls i h
  have he : ∀ j : Nat, ends (less ls i) (j : Int) = if j < i then ends ls (j : Int) else ends ls ((j + 1 : Nat) : Int) := fun j => by
    show ((leg (less ls i) (j : Int)).f0, (leg (less ls i) (j : Int)).f1) = _
    rw [less_leg ls i h j]
    split <;> rfl
  constructor
  · rintro ⟨j, h0, h1, h2⟩
    obtain ⟨j, rfl⟩ := Int.eq_ofNat_of_zero_le h0
    rw [he] at h2
    by_cases c : j < i
    · rw [if_pos c] at h2
      exact ⟨j, h0, by omega, decide_eq_true (by omega), h2⟩
    · rw [if_neg c] at h2
      exact ⟨((j + 1 : Nat) : Int), by omega, by omega, decide_eq_true (by omega), h2⟩
  · rintro ⟨j, h0, h1, hu, h2⟩
    obtain ⟨j, rfl⟩ := Int.eq_ofNat_of_zero_le h0
    have hne := of_decide_eq_true hu
    by_cases c : j < i
    · exact ⟨j, h0, by omega, by rw [he, if_pos c]; exact h2⟩
    · exact ⟨((j - 1 : Nat) : Int), by omega, by omega, by rw [he, if_neg (by omega), show j - 1 + 1 = j by omega]; exact h2⟩
def useB (i : Int) (j : Int) : Bool := decide (j ≠ i)
def bridgeB (ls : L) (i : Int) : Bool := !decide ((ends ls i).2 ∈ verts (ends ls i).1 (Bfs.run (ends ls) (useB i) (ends ls i).1 ls.length 9 0 []))
theorem bridge_eq {ls : L} (hg : ∀ x ∈ ls, Good x) (i : Nat) (hi : i < ls.length) (hp : (ends ls i).1 ∈ verts 0 (RR ls)) :
    (if (!decide ((ends ls i).1 ∈ plL (RR (less ls i)))) = true then true else !decide ((ends ls i).2 ∈ plL (RR (less ls i)))) = bridgeB ls i := by
  have hr := ends_range hg i (by omega) (by omega)
  have hf := Bfs.found_iff (ends ls) (useB i) (ends ls i).1 ⟨hr.1, hr.2.1⟩ (Good.range hg) (ends ls i).2
  have ok := RR_ok hg
  have ok' := RR_ok (less_good hg i)
  have hv := fun s => (mem_plL (RR (less ls i)) s).trans (Grow.verts_iff (ends (less ls i)) ok'.1 ok'.2 s)
  have hR : Conn (Grow.Rel (ends ls) ls.length) 0 (ends ls i).1 := (Grow.verts_iff (ends ls) ok.1 ok.2 _).mp hp
  have hQ : ∀ s, Conn (Grow.Rel (ends (less ls i)) (less ls i).length) 0 s ↔ Conn (Bfs.RelU (ends ls) (useB i) ls.length) 0 s := fun s =>
    ⟨fun h => h.map (fun a b r => Conn.Conn.one ((less_rel ls i hi a b).mp r)), fun h => h.map (fun a b r => Conn.Conn.one ((less_rel ls i hi a b).mpr r))⟩
  have hs : ∀ a b, Bfs.RelU (ends ls) (useB i) ls.length a b → Bfs.RelU (ends ls) (useB i) ls.length b a := fun a b ⟨j, h0, h1, hu, h2⟩ => ⟨j, h0, h1, hu, h2.symm⟩
  have hround := Conn.round (R := Grow.Rel (ends ls) ls.length) hs (a := (ends ls i).1) (b := (ends ls i).2) (o := 0) (fun x y ⟨j, h0, h1, h2⟩ => by
    by_cases c : j = (i : Int)
    · subst c
      right
      rcases h2 with h2 | h2
      · left; rw [h2]; exact ⟨rfl, rfl⟩
      · right; rw [h2]; exact ⟨rfl, rfl⟩
    · exact Or.inl ⟨j, h0, h1, decide_eq_true c, h2⟩) hR
  unfold bridgeB
  have e1 : ((ends ls i).1 ∈ plL (RR (less ls i)) ∧ (ends ls i).2 ∈ plL (RR (less ls i))) ↔ (ends ls i).2 ∈ verts (ends ls i).1 (Bfs.run (ends ls) (useB i) (ends ls i).1 ls.length 9 0 []) := by
    rw [hv, hv, hQ, hQ, hf]
    exact hround.symm
  by_cases c1 : (ends ls i).1 ∈ plL (RR (less ls i))
  · by_cases c2 : (ends ls i).2 ∈ plL (RR (less ls i))
    · rw [decide_eq_true c1, decide_eq_true c2, decide_eq_true (e1.mp ⟨c1, c2⟩)]; rfl
    · rw [decide_eq_true c1, decide_eq_false c2, decide_eq_false (fun h => c2 (e1.mpr h).2)]; rfl
  · rw [decide_eq_false c1, decide_eq_false (fun h => c1 (e1.mpr h).1)]; rfl
end Go.Proofs.YtpojnobgijoddaaDoor.Net
namespace Go.Proofs.YtpojnobgijoddaaDoor.Net
open Go Go.RowKit YtpojnobgijoddaaDoorW.PrintWords A Plain
structure Off (g : Nat) (w w' : World) : Prop where
  os : w'.os = w.os
  tape : w'.tape = w.tape
  output : w'.output = w.output
  size : w.heap.size ≤ w'.heap.size
  block : ∀ k, k ≠ g → k < w.heap.size → w'.heap[k]? = w.heap[k]?
theorem Off.refl (g : Nat) (w : World) : Off g w w := ⟨rfl, rfl, rfl, Nat.le_refl _, fun _ _ _ => rfl⟩
theorem Off.trans {g : Nat} {a b c : World} (h : Off g a b) (k : Off g b c) : Off g a c :=
  ⟨k.os.trans h.os, k.tape.trans h.tape, k.output.trans h.output, Nat.le_trans h.size k.size, fun i hi hs => (k.block i hi (Nat.lt_of_lt_of_le hs h.size)).trans (h.block i hi hs)⟩
theorem Off.of {g : Nat} {w w' : World} (h : Below w.heap.size w w') : Off g w w' := ⟨h.os, h.tape, h.output, h.size, fun k _ hs => h.block k hs⟩
theorem Off.set {g i : Nat} {a w : World} (h : Off g a w) (u : Value) : Off g a (w.setCell ⟨g, i, none⟩ u) := by
  have hb := (Below.refl 0 w).setCell (p := ⟨g, i, none⟩) (Nat.zero_le _) u
  exact h.trans ⟨hb.os, hb.tape, hb.output, hb.size, fun k hk _ => Below.heap_setCell w _ u k hk⟩
theorem Off.below {g : Nat} {w w' : World} (h : Off g w w') (hg : g ≤ w.heap.size) : Below g w w' := ⟨h.os, h.tape, h.output, h.size, fun k hk => h.block k (by omega) (by omega)⟩
theorem Off.cell {g : Nat} {w w' : World} {p : Addr} {v : Value} (h : Off g w w') (hc : w.cell? p = some v) (hp : p.block ≠ g) : w'.cell? p = some v :=
  (World.cell?_of_block (w := w) (h.block p.block hp (World.block_lt_of_cell? w _ hc))).trans hc
theorem Off.step {g : Nat} {a w w' : World} (h : Off g a w) (hb : Below w.heap.size w w') : Off g a w' := h.trans (Off.of hb)
theorem Off.sets {g : Nat} {a : World} : ∀ (vs : List Value) (o : Nat) (w : World), Off g a w → Off g a (w.setCells g o vs)
  | [], _, _, h => h
  | v :: r, o, w, h => Off.sets r (o + 1) _ (h.set v)
end Go.Proofs.YtpojnobgijoddaaDoor.Net
namespace Go.Proofs.YtpojnobgijoddaaDoor.Net
open Go Go.RowKit YtpojnobgijoddaaDoorW.PrintWords YtpojnobgijoddaaDoorW.PrintLast YtpojnobgijoddaaDoorW.PrintMore A Plain
def legC (x : S45) : List Value := [.int .i64 x.f0, .int .i64 x.f1, .int .i64 x.f2, .int .i64 x.f3, .int .i64 x.f4]
def flat (ls : L) : List Value := ls.flatMap legC
theorem flat_cons (x : S45) (ls : L) : flat (x :: ls) = legC x ++ flat ls := rfl
theorem flat_len : ∀ ls : L, (flat ls).length = ls.length * 5
  | [] => rfl
  | x :: ls => by rw [flat_cons, List.length_append, flat_len ls, List.length_cons]; show 5 + _ = _; omega
theorem flat_get : ∀ (ls : L) (j i : Nat), i < 5 → (flat ls)[j * 5 + i]? = ls[j]?.bind (fun x => (legC x)[i]?)
  | [], j, i, h => by show ([] : List Value)[_]? = _; simp
  | x :: ls, 0, i, h => by
    rw [flat_cons, List.getElem?_append_left (by show _ < 5; omega), Nat.zero_mul, Nat.zero_add]
    rfl
  | x :: ls, j + 1, i, h => by
    rw [flat_cons, List.getElem?_append_right (by show 5 ≤ _; omega)]
    show (flat ls)[(j + 1) * 5 + i - 5]? = _
    rw [show (j + 1) * 5 + i - 5 = j * 5 + i by omega, flat_get ls j i h, List.getElem?_cons_succ]
theorem flat_mem {ls : L} {u : Value} (h : u ∈ flat ls) : u.oneCell' = true := by
  obtain ⟨x, _, hx⟩ := List.mem_flatMap.mp h
  simp only [legC, List.mem_cons, List.not_mem_nil, or_false] at hx
  rcases hx with rfl | rfl | rfl | rfl | rfl <;> rfl
def LegsAt (w : World) (g : Nat) (ls : L) : Prop := ∀ t u, (flat ls)[t]? = some u → w.cell? ⟨g, t, none⟩ = some u
theorem LegsAt.of {w : World} {base g n cap : Nat} {ok : Nat → Prop} {ls : L} (h : Kd.R k45 45 w base ok (.slice (some ⟨g, 0, none⟩) n cap) ls) : LegsAt w g ls ∧ ∀ t, t < ls.length * 5 → w.frozen? ⟨g, t, none⟩ = false := by
  have hn : n = ls.length := (Kd.R_reads' h).1
  have hE : ∀ j i : Nat, j < ls.length → i < 5 → w.cell? ⟨g, j * 5 + i, none⟩ = (flat ls)[j * 5 + i]? ∧ w.frozen? ⟨g, j * 5 + i, none⟩ = false := fun j i hj hi => by
    obtain ⟨ce, hcl, hM, hcc, hfr⟩ := Kd.R_elem h z45 (j : Int) (by omega) (by omega)
    obtain rfl := k45_openM hM
    rw [Int.toNat_natCast] at hcc hfr
    refine ⟨?_, hfr i⟩
    rw [flat_get ls j i hi, List.getElem?_eq_getElem hj]
    have e : ls.getD j z45 = ls[j] := by rw [List.getD_eq_getElem?_getD, List.getElem?_eq_getElem hj]; rfl
    rw [e] at hcc
    have h5 : i < (legC ls[j]).length := hi
    rw [Option.bind_some, List.getElem?_eq_getElem h5]
    exact hcc i _ (List.getElem?_eq_getElem h5)
  have hs : ∀ t : Nat, t / 5 * 5 + t % 5 = t := fun t => by omega
  refine ⟨fun t u hu => ?_, fun t ht => ?_⟩
  · have ht : t < ls.length * 5 := by
      have := (List.getElem?_eq_some_iff.mp hu).1
      rwa [flat_len] at this
    have := (hE (t / 5) (t % 5) (by omega) (by omega)).1
    rw [hs] at this
    rw [this]; exact hu
  · have := (hE (t / 5) (t % 5) (by omega) (by omega)).2
    rwa [hs] at this
theorem LegsAt.reads {w : World} {g : Nat} {ls : L} (h : LegsAt w g ls) (hl : ls.length ≤ 1000) : Kd.C k45 w (some ⟨g, 0, none⟩) ls.length ls := by
  refine ⟨rfl, by omega, fun _ => ⟨⟨g, 0, none⟩, rfl, fun j p hj => ⟨legC p, rfl, k45_mk w p, fun i u hu => ?_⟩⟩⟩
  have h5 : i < 5 := (List.getElem?_eq_some_iff.mp hu).1
  rw [Addr.add_lit, Nat.zero_add]
  refine h (j * 5 + i) u ?_
  rw [flat_get ls j i h5, hj]
  exact hu
theorem LegsAt.less {w : World} {g i : Nat} {ls : L} (h : LegsAt w g ls) (hi : i < ls.length) {zs : List Value} {d : World} (hd : ∀ t, d.cell? ⟨g, t, none⟩ = w.cell? ⟨g, t, none⟩) (hs : ∀ t, t < ls.length * 5 → (w.cell? ⟨g, t, none⟩).isSome = true) : LegsAt ((d.setCells g (i * 5) (flat (ls.drop (i + 1)))).setCells g ((ls.length - 1) * 5) zs) g (Net.less ls i) := by
  have hfl : (flat (ls.drop (i + 1))).length = (ls.length - (i + 1)) * 5 := by rw [flat_len, List.length_drop]
  intro t u hu
  have hlen := less_len ls i hi
  have ht : t < (Net.less ls i).length * 5 := by
    have := (List.getElem?_eq_some_iff.mp hu).1
    rwa [flat_len] at this
  have hdm : t / 5 * 5 + t % 5 = t := by omega
  rw [World.cell?_setCells_out g zs _ _ _ (fun _ _ => Or.inl (by show t < _; omega))]
  rw [← hdm, flat_get _ _ _ (by omega)] at hu
  by_cases c : t / 5 < i
  · rw [World.cell?_setCells_out g _ _ _ _ (fun _ _ => Or.inl (by show t < _; omega)), hd]
    refine h t u ?_
    rw [← hdm, flat_get _ _ _ (by omega), ← hu]
    congr 1
    unfold Net.less
    rw [List.getElem?_append_left (by rw [List.length_take]; omega), List.getElem?_take, if_pos c]
  · have hin := World.cell?_setCells_in g (flat (ls.drop (i + 1))) (i * 5) d (fun j hj => by rw [hd]; exact hs _ (by rw [hfl] at hj; omega)) (t - i * 5) (by rw [hfl]; omega)
    rw [show i * 5 + (t - i * 5) = t by omega] at hin
    rw [hin, ← List.getElem?_eq_getElem, show t - i * 5 = (t / 5 - i) * 5 + t % 5 by omega, flat_get _ _ _ (by omega), ← hu]
    congr 1
    unfold Net.less
    rw [List.getElem?_append_right (by rw [List.length_take]; omega), List.length_take, Nat.min_eq_left (by omega)]
end Go.Proofs.YtpojnobgijoddaaDoor.Net
namespace Go.Proofs.YtpojnobgijoddaaDoor.Net
open Go.RowKit YtpojnobgijoddaaDoorW.PrintWords YtpojnobgijoddaaDoorW.PrintLast YtpojnobgijoddaaDoorW.PrintMore A Plain
theorem mem_plcL {ls : L} (hg : ∀ x ∈ ls, Good x) (i : Int) : i ∈ plcL ls (RR ls) ls.length ↔ (0 ≤ i ∧ i < (ls.length : Int)) ∧ (leg ls i).f0 ∈ plL (RR ls) := by
  unfold plcL
  rw [mem_selTo]
  constructor
  · rintro ⟨k, rfl, hk, h⟩
    rw [Pq_eq, Int.toNat_of_nonneg (leg_good hg k hk).1.1] at h
    exact ⟨⟨by omega, by omega⟩, of_decide_eq_true h⟩
  · rintro ⟨⟨h0, h1⟩, h2⟩
    obtain ⟨k, rfl⟩ := Int.eq_ofNat_of_zero_le h0
    have hk : k < ls.length := by omega
    exact ⟨k, rfl, hk, by rw [Pq_eq, Int.toNat_of_nonneg (leg_good hg k hk).1.1]; exact decide_eq_true h2⟩
end Go.Proofs.YtpojnobgijoddaaDoor.Net
namespace Go.Proofs.YtpojnobgijoddaaDoor.Net
open Go Go.RowKit YtpojnobgijoddaaDoorW.PrintWords YtpojnobgijoddaaDoorW.PrintLast YtpojnobgijoddaaDoorW.PrintMore A Plain
theorem eqNil (la : Addr) (n c : Nat) (w : World) : (binOp .eql 26 (.slice (some la) n c) (.slice none 0 0)).run Tryd.prog w = .ok (.bool false) w := by
  have h : ∀ d : Nat, (Op.equalIn (d + 1) 26 (.slice (some la) n c) (.slice none 0 0)).run Tryd.prog w = .ok false w := fun d => by simp [Op.equalIn, run_underlying Tryd.underlying26]
  simp [binOp, Op.equal, Op.maxDepth, h]
attribute [local go_sem] eqNil
theorem cloneW (la : Addr) (c : Nat) (ls : L) (w : World) (hr0 : Kd.C k45 w (some la) ls.length ls) (hc : ls.length ≤ c) (hn : ls.length ≤ 12) :
    Calls Tryd.prog 51 #[.slice (some la) ls.length c] w fun e w' => ∃ v, e = .returned v ∧ Kd.R k45 45 w' w.heap.size (fun b => w.heap.size ≤ b) v ls ∧ Below w.heap.size w w' := by
  have HR0 := Aside0.mk hr0
  have HB := Aside0.mk (Below.refl w.heap.size w)
  clear hr0
  go_enter Tryd.func51, Tryd.ntmps51
  go_wp2_with (first
    | ((with_reducible refine gate_dst (N := 5) rfl ?_); refine Kd.R_lit k45 _ 45 ?hg (N := 5) ?hd (xs := ([] : List (S45))) (inner := []) (ok := fun b => w.heap.size ≤ b) (okp := fun b => w.heap.size ≤ b) ?hr ?hp (fun _ hk => hk) (Nat.le_refl _) (Below.refl _ _) (Nat.le_refl _) (by simp) ?_; (case hd => rfl); (case hg => rfl); (case hr => first | (go_simp; done) | (go_simp; rfl)); (case hp => exact (Reps.none _ _)); intro v1 w1 ho1 hb hg_ hnew_; clear hg_ hnew_; have HO := Aside0.mk ho1; replace HB := Aside0.mk (below_step HB.out hb); clear hb ho1)
    | ((with_reducible refine gate_builtin (b := .append) (xs := #[.tmp 5, .tmp 6]) rfl ?_); at_builtin; refine Kd.R_append_rows k45 (w0 := w) w.heap.size rfl (.tmp 5) (.tmp 6) 26 45 (.agg #[(.int .i64 0), (.int .i64 0), (.int .i64 0), (.int .i64 0), (.int .i64 0)]) 40 rfl Tryd.underlying26 info45 rfl (by decide) (by omega) v1 [] ls _ _ _ (fun b => w.heap.size ≤ b) (fun _ => False) rfl rfl ?aO ?aR (fun _ _ h => h) (fun _ h => h.elim) ?aF ?aB ?aS ?aL ?_; (case aR => exact (Kd.C_below HR0.out HB.out)); (case aB => exact HB.out); (case aF => intro b hb; have := below_size HB.out; omega); (case aO => exact HO.out); (case aS => exact (below_size HB.out)); (case aL => simp; omega); intro v2 w2 ho hb hg hat; have HP1 := Aside0.mk ho; have HP2 := Aside0.mk hb; clear ho hb hg hat))
  go_ret
  exact ⟨_, rfl, HP1.out, HP2.out⟩
end Go.Proofs.YtpojnobgijoddaaDoor.Net
namespace Go.Proofs.YtpojnobgijoddaaDoor.Net
open Go Go.RowKit YtpojnobgijoddaaDoorW.PrintWords YtpojnobgijoddaaDoorW.PrintLast YtpojnobgijoddaaDoorW.PrintMore A Plain
def DelLPost (g cap : Nat) (ls : L) (w : World) (e : Ending) (w' : World) : Prop := e = .returned (.slice (some ⟨g, 0, none⟩) ls.length cap) ∧ Kd.C k45 w' (some ⟨g, 0, none⟩) ls.length ls ∧ Off g w w'
theorem run_clear_leg (w : World) (ty : TypeId) (b o c : Nat) (hc : ∀ j, j < 5 → (w.cell? ⟨b, o + j, none⟩).isSome = true) (hf : ∀ j, j < 5 → w.frozen? ⟨b, o + j, none⟩ = false) :
    (Builtin.clear_ #[26] ty #[.slice (some ⟨b, o, none⟩) 1 c]).run Tryd.prog w = .ok (.tuple #[]) (w.setCells b o [.int .i64 0, .int .i64 0, .int .i64 0, .int .i64 0, .int .i64 0]) := by
  obtain ⟨ii, hii, hz, _, _⟩ := info_parts info45
  have hst := run_storeCells_cells (P := Tryd.prog) b o [.int .i64 0, .int .i64 0, .int .i64 0, .int .i64 0, .int .i64 0] 0 w (by simpa using hc) (by simpa using hf) (by intro v hv'; simp at hv'; rw [hv']; rfl)
  simp only [Nat.add_zero] at hst
  have hzc : (Builtin.zeroCells (Value.agg #[.int .i64 0, .int .i64 0, .int .i64 0, .int .i64 0, .int .i64 0]).cells 1).toList = [.int .i64 0, .int .i64 0, .int .i64 0, .int .i64 0, .int .i64 0] := by simp [Builtin.zeroCells, Value.cells]; rfl
  simp [Builtin.clear_, run_underlying Tryd.underlying26, zeroValue, typeInfo, hii, hz, hzc, hst]
theorem deleteLW (g base cap i : Nat) (ok : Nat → Prop) (ls : L) (w : World) (hr : Kd.R k45 45 w base ok (.slice (some ⟨g, 0, none⟩) ls.length cap) ls) (hi : i < ls.length) (hn : ls.length ≤ 12) :
    Calls Tryd.prog 67 #[.slice (some ⟨g, 0, none⟩) ls.length cap, .int .i64 (i : Int), .int .i64 ((i : Int) + 1)] w (DelLPost g cap (less ls i) w) := by
  have hcap : ls.length ≤ cap := (Kd.R_reads' hr).2.1
  obtain ⟨hcell, hfroz⟩ := LegsAt.of hr
  have hlen := less_len ls i hi
  obtain ⟨ii, hii, hz0, hz1, hz2⟩ := info_parts info45
  obtain ⟨news, hnews⟩ : ∃ news, news = flat (ls.drop (i + 1)) := ⟨_, rfl⟩
  have hnl : news.length = (ls.length - (i + 1)) * 5 := by rw [hnews, flat_len, List.length_drop]
  have hget : ∀ t u, news[t]? = some u → w.cell? ⟨g, (i + 1) * 5 + t, none⟩ = some u := fun t u hu => by
    have ht : t < (ls.length - (i + 1)) * 5 := by
      have := (List.getElem?_eq_some_iff.mp hu).1
      rwa [hnl] at this
    refine hcell _ u ?_
    have hdm : t / 5 * 5 + t % 5 = t := by omega
    rw [hnews, ← hdm, flat_get _ _ _ (by omega), List.getElem?_drop] at hu
    rw [show (i + 1) * 5 + t = (i + 1 + t / 5) * 5 + t % 5 by omega, flat_get _ _ _ (by omega)]
    exact hu
  obtain ⟨A, hA, hsrc⟩ : ∃ A : Addr, (if cap = i + 1 then some (⟨g, 0, none⟩ : Addr) else some ⟨g, (i + 1) * 5, none⟩) = some A ∧ Hid (∀ t u, news[t]? = some u → w.drew.cell? (A.add t) = some u) := by
    by_cases h : cap = i + 1
    · refine ⟨⟨g, 0, none⟩, by simp [h], fun t u hu => ?_⟩
      have h0 : news.length = 0 := by rw [hnl]; omega
      rw [List.length_eq_zero_iff.1 h0] at hu
      simp at hu
    · refine ⟨⟨g, (i + 1) * 5, none⟩, by simp [h], fun t u hu => ?_⟩
      rw [Addr.add_lit]
      exact hget t u hu
  have hsome : ∀ t, t < ls.length * 5 → (w.cell? ⟨g, t, none⟩).isSome = true := fun t ht => by
    rw [hcell t _ (List.getElem?_eq_getElem (by rw [flat_len]; exact ht))]; rfl
  have s1 : Hid (news.length = (ls.length - (i + 1)) * 5) := hnl
  have s2 : Hid (∀ u ∈ news, u.oneCell' = true) := fun u hu => flat_mem (by rw [hnews] at hu; exact hu)
  have s3 : Hid (∀ t, t < news.length → (w.drew.cell? ⟨g, 0 + i * 5 + t, none⟩).isSome = true ∧ w.drew.frozen? ⟨g, 0 + i * 5 + t, none⟩ = false) := by
    intro t ht
    rw [hnl] at ht
    rw [Nat.zero_add]
    exact ⟨hsome _ (by omega), hfroz _ (by omega)⟩
  obtain ⟨W1, hW1⟩ : ∃ W1, W1 = w.drew.setCells g (0 + i * 5) news := ⟨_, rfl⟩
  have hc1 : ∀ t, t < 5 → (W1.cell? ⟨g, (ls.length - 1) * 5 + t, none⟩).isSome = true := fun t ht => by
    rw [hW1]
    by_cases c : (ls.length - 1) * 5 + t < 0 + i * 5 + news.length
    · have hin := World.cell?_setCells_in g news (0 + i * 5) w.drew (fun j hj => (s3 j hj).1) ((ls.length - 1) * 5 + t - i * 5) (by omega)
      rw [show 0 + i * 5 + ((ls.length - 1) * 5 + t - i * 5) = (ls.length - 1) * 5 + t by omega] at hin
      rw [hin]; rfl
    · rw [World.cell?_setCells_out g _ _ _ _ (fun _ _ => Or.inr (by show 0 + i * 5 + news.length ≤ (ls.length - 1) * 5 + t; omega))]
      exact hsome _ (by omega)
  have hf1 : ∀ t, t < 5 → W1.frozen? ⟨g, (ls.length - 1) * 5 + t, none⟩ = false := fun t ht => by
    rw [hW1, World.frozen?_setCells]
    exact hfroz _ (by omega)
  have e1 : i + (ls.length - (i + 1)) = ls.length - 1 := by omega
  have e2 : ls.length - (ls.length - 1) = 1 := by omega
  have hcl : ∀ ty, (Builtin.clear_ #[26] ty #[.slice (some ⟨g, (i + (ls.length - (i + 1))) * 5, none⟩) (ls.length - (i + (ls.length - (i + 1)))) (cap - (i + (ls.length - (i + 1))))]).run Tryd.prog W1 = .ok (.tuple #[]) (W1.setCells g ((ls.length - 1) * 5) [.int .i64 0, .int .i64 0, .int .i64 0, .int .i64 0, .int .i64 0]) :=
    fun ty => by rw [e1, e2]; exact run_clear_leg W1 ty g _ _ hc1 hf1
  have HE1 := Aside0.mk e1
  clear e1 e2
  have hpost : DelLPost g cap (less ls i) w (.returned (.slice (some ⟨g, 0, none⟩) (less ls i).length cap)) (W1.setCells g ((ls.length - 1) * 5) [.int .i64 0, .int .i64 0, .int .i64 0, .int .i64 0, .int .i64 0]) := by
    refine ⟨rfl, LegsAt.reads ?_ (by omega), Off.sets _ _ _ ?_⟩
    · have h := LegsAt.less (zs := List.replicate 5 (.int .i64 0)) (d := w.drew) hcell hi (fun _ => rfl) hsome
      rw [hW1, hnews, Nat.zero_add]
      exact h
    · rw [hW1]
      exact Off.sets _ _ _ (Off.of (below_drew1 (Below.refl _ _)))
  have hfin : DelLPost g cap (less ls i) w (.returned (.slice (some ⟨g, 0, none⟩) (i + (ls.length - (i + 1))) cap)) (W1.setCells g ((ls.length - 1) * 5) [.int .i64 0, .int .i64 0, .int .i64 0, .int .i64 0, .int .i64 0]) := by
    rw [show i + (ls.length - (i + 1)) = (less ls i).length by omega]; exact hpost
  have HP := Aside0.mk hfin
  have hW : Hid (W1 = w.drew.setCells g (0 + i * 5) news) := hW1
  have hic : i ≤ cap := by omega
  have hjc : i + 1 ≤ cap := by omega
  have HLN := Aside0.mk hlen
  clear hfin hlen hW1 hpost hc1 hf1 hget hnews hnl hcell hfroz hsome hr
  have hp0 : (0 : Int) ≤ (i : Int) + 1 := by omega
  have hp1 : (i : Int) + 1 ≤ (ls.length : Int) := by omega
  have hne : ((i : Int) == (i : Int) + 1) = false := by rw [beq_eq_false_iff_ne]; omega
  go_enter Tryd.func67, Tryd.ntmps67
  go_wp2
  go_region_law (refine step_append_room rfl (.tmp 22) (.tmp 25) 26 rfl 45 ii 5 Tryd.underlying26 hii hz1 g 0 i cap (by simp [Act.eval, Act.put]) A (ls.length - (i + 1)) (cap - (i + 1)) news (by simp [Act.eval, Act.put]) s1.out hsrc.out s2.out (by omega) s3.out ?_; rw [← hW.out])
  all_goals go_wp2
  all_goals exact bodyPost_ret (v := .slice (some ⟨g, 0, none⟩) (i + (ls.length - (i + 1))) cap) (by simp [results, Tryd.results67, go_sem]) rfl HP.out
def LeavePost (ls : L) (w : World) (e : Ending) (w' : World) : Prop := ∃ g cap, e = .returned (.slice (some ⟨g, 0, none⟩) ls.length cap) ∧ ls.length ≤ cap ∧ Kd.C k45 w' (some ⟨g, 0, none⟩) ls.length ls ∧ Below w.heap.size w w'
theorem leavingW (A : Option Addr) (c : Nat) (ls : L) (k : Nat) (w : World) (hr0 : Kd.C k45 w A ls.length ls) (hc : ls.length ≤ c) (hn : ls.length ≤ 12) (hk : k < ls.length) :
    Calls Tryd.prog 45 #[.slice A ls.length c, .int .i64 (k : Int)] w (LeavePost (less ls k) w) := by
  obtain ⟨la, e2, _⟩ := at_T45 hr0 (k : Int) (by omega) (by omega)
  cases e2
  have HR := Aside0.mk hr0
  have k0 : (0 : Int) ≤ (k : Int) := by omega
  have k1 : (k : Int) < (ls.length : Int) := by omega
  have k2 : (k : Int) ≤ 12 := by omega
  clear hr0
  go_enter Tryd.func45, Tryd.ntmps45
  go_wp2_with (first
    | (go_at_call 51; (with_reducible refine (cloneW la c ls w HR.out hc hn).mono ?_); rintro e w1 ⟨v, rfl, hv, hw⟩; obtain ⟨g, cap, rfl, hg1, hg2, _⟩ := Kd.R_form hv (by omega); have hcap := (Kd.R_reads' hv).2.1; have HV := Aside0.mk hv; have HB := Aside0.mk hw; clear hv hw)
    | (go_at_call 67; (with_reducible refine (deleteLW g w.heap.size cap k (fun b => w.heap.size ≤ b) ls _ HV.out hk hn).mono ?_); rintro e w2 ⟨rfl, hcc, hoff⟩; have HC := Aside0.mk hcc; have HO := Aside0.mk hoff; clear hcc hoff))
  have hl := less_len ls k hk
  exact bodyPost_ret (v := .slice (some ⟨g, 0, none⟩) (less ls k).length cap) (by simp [results, Tryd.results45, go_sem]) rfl ⟨g, cap, rfl, by omega, HC.out, HB.out.trans ((HO.out.below (Nat.le_of_lt hg2)).mono hg1)⟩
end Go.Proofs.YtpojnobgijoddaaDoor.Net
namespace Go.Proofs.YtpojnobgijoddaaDoor.Net
open Go Go.Maps Go.WideElems Go.ChangeShapes Go.RowKit YtpojnobgijoddaaDoorW.PrintWords YtpojnobgijoddaaDoorW.PrintLast YtpojnobgijoddaaDoorW.PrintMore A Plain
open Tree (verts legs W)
open Grow (Q)
theorem keyed3 : Maps.Keyed Tryd.prog 3 := Maps.int_keyed Tryd.underlying3
theorem zero3 (w : World) : (zeroValue 3).run Tryd.prog w = .ok (.int .i64 0) w := by kernel_rfl
def MapAt (w : World) (b : Nat) (n : Nat) (F : Int → Option Int) : Prop := ∃ D : DataW Unit, w.ownsMap Tryd.prog 3 (plainElem Tryd.prog 3) b n D ∧ ∀ x : Int, 0 ≤ x → x < 100 → Maps.has D (.int .i64 x) = (F x).isSome ∧ D.atKey (.int .i64 x) (.lit (.int .i64 0)) = .lit (.int .i64 ((F x).getD 0))
theorem wf_small {x : Int} (h0 : -100 ≤ x) (h1 : x < 1000) : (Lit.int .i64 x).wf = true := by
  simp only [Lit.wf, IntKind.min, IntKind.max, IntKind.signed, IntKind.bits, Bool.and_eq_true, decide_eq_true_eq, if_true]
  omega
theorem MapAt.kept {w w' : World} {b n : Nat} {F : Int → Option Int} {row : Option Nat} (h : MapAt w b n F) (hg : w.grownBy w' row) (hne : some b ≠ row) : MapAt w' b n F := by
  obtain ⟨D, h1, h2⟩ := h
  exact ⟨D, h1.kept hg hne, h2⟩
theorem MapAt.lt {w : World} {b n : Nat} {F : Int → Option Int} (h : MapAt w b n F) : b < w.heap.size := by
  obtain ⟨D, h1, h2⟩ := h
  exact h1.lt
theorem MapAt.below {w w' : World} {b n : Nat} {F : Int → Option Int} (h : MapAt w b n F) (hb : Below w.heap.size w w') : MapAt w' b n F := by
  obtain ⟨D, h1, h2⟩ := h
  have hlt := h1.lt
  obtain ⟨es, clock, hh, F', hs, hD⟩ := h1
  exact ⟨D, ⟨es, clock, (hb.block b hlt).trans hh, F', hs, hD⟩, h2⟩
theorem MapAt.look {w : World} {b n : Nat} {F : Int → Option Int} (h : MapAt w b n F) (x : Int) (h0 : 0 ≤ x) (h1 : x < 100) :
    (Instr.lookup 106 (.map (some b)) (.int .i64 x) true).run Tryd.prog w = .ok (.tuple #[.int .i64 ((F x).getD 0), .bool (F x).isSome]) w ∧
    (Instr.lookup 106 (.map (some b)) (.int .i64 x) false).run Tryd.prog w = .ok (.int .i64 ((F x).getD 0)) w := by
  obtain ⟨D, hown, hF⟩ := h
  obtain ⟨hh, hat⟩ := hF x h0 h1
  have hkey := keyOf_int_mk Tryd.underlying3 (wf_small (x := x) (by omega) (by omega))
  have hz0 : (Lit.int .i64 0).wf = true := by decide
  obtain ⟨v, ps, hrun, hv⟩ := hown.look_ok keyed3 Tryd.underlying106 (zero3 w) (plainElem_int Tryd.underlying3 hz0) hkey
  obtain ⟨c, rfl, hc, _⟩ := plainElem_int_inv Tryd.underlying3 hv
  obtain ⟨c2, hrun2, hc2, _⟩ := hown.lookup_int keyed3 Tryd.underlying106 Tryd.underlying3 (zero3 w) hkey
  rw [hat] at hc2 hc
  have e1 : (F x).getD 0 = c := by simpa using congrArg Prod.fst hc
  have e2 : (F x).getD 0 = c2 := by simpa using hc2
  rw [hrun, hrun2, hh, ← e1, ← e2]
  exact ⟨rfl, rfl⟩
theorem MapAt.store {w : World} {b n : Nat} {F : Int → Option Int} (h : MapAt w b n F) (hn : n < 1000) (x v : Int) (h0 : 0 ≤ x) (h1 : x < 100) (hv : -100 ≤ v) (hv1 : v < 1000) :
    ∃ w', (Instr.mapUpdate 106 (.map (some b)) (.int .i64 x) (.int .i64 v)).run Tryd.prog w = .ok () w' ∧ MapAt w' b (n + 1) (fun y => if y = x then some v else F y) ∧ w.grownBy w' (some b) := by
  obtain ⟨D, hown, hF⟩ := h
  have hkey := keyOf_int_mk Tryd.underlying3 (wf_small (x := x) (by omega) (by omega))
  obtain ⟨w', hrun, hown', hg⟩ := hown.update keyed3 Tryd.underlying106 (by unfold maxLen; omega) hkey (plainElem_int Tryd.underlying3 (wf_small hv hv1))
  refine ⟨w', hrun, ⟨_, hown', fun y y0 y1 => ?_⟩, hg⟩
  have hD := hown.isMap
  have hk : ∀ z : Int, WideAt.IsKeyLit (.int .i64 z) := fun z => trivial
  obtain ⟨f1, f2⟩ := hF y y0 y1
  dsimp only
  by_cases e : y = x
  · subst e
    rw [if_pos rfl, Maps.has_put_same hD (hk y), Maps.atKey_put_same hD (hk y)]
    exact ⟨rfl, rfl⟩
  · have hne : (Lit.int .i64 y : Lit) ≠ .int .i64 x := fun h => e (by injection h)
    rw [if_neg e, Maps.has_put_other hne, Maps.atKey_put_other hne]
    exact ⟨f1, f2⟩
theorem MapAt.new (w : World) (r : Int) (h0 : 0 ≤ r) (h1 : r < 100) : ∃ w', (Instr.mapUpdate 106 (.map (some w.heap.size)) (.int .i64 r) (.int .i64 (-1))).run Tryd.prog (w.alloc (.map #[] 0)) = .ok () w' ∧ MapAt w' w.heap.size 1 (fun y => if y = r then some (-1) else none) ∧ Below w.heap.size w w' ∧ w.heap.size + 1 ≤ w'.heap.size := by
  have h : MapAt (w.alloc (.map #[] 0)) w.heap.size 0 (fun _ => none) := ⟨_, World.ownsMap_made w _ _ _, fun x _ _ => ⟨rfl, rfl⟩⟩
  obtain ⟨w', hrun, hm, hg⟩ := h.store (by omega) r (-1) h0 h1 (by omega) (by omega)
  have hsz : (w.alloc (Obj.map #[] 0)).heap.size = w.heap.size + 1 := by simp
  refine ⟨w', hrun, hm, ?_, by have := hg.size; omega⟩
  exact (below_alloc (Below.refl w.heap.size w) (Obj.map #[] 0)).grown hg (by omega) (fun k e => by injection e with e; omega)
theorem R_lits (xs : List Int) (W : World) (base : Nat) (ok : Nat → Prop) (hb : base ≤ W.heap.size) (hok : ok W.heap.size) (hl : xs.length ≤ 1000) :
    Kd.R (Kd.int .i64) 3 (W.alloc (Obj.cells (xs.map (Value.int .i64)).toArray 3)) base ok (.slice (some ⟨W.heap.size, 0, none⟩) xs.length xs.length) xs := by
  refine ⟨fun k hk => ?_, xs.map (Value.int .i64), ?_, Kd.reps_scalar xs⟩
  · have : W.heap.size = k := by simpa [Value.ownBlock] using hk
    subst this
    exact hok
  · have h2 := World.ownsRow_lit (base := base) (e := 3) (size := 1) W (xs.map (Value.int .i64)).toArray xs.length hb (by simp [maxLen]; omega) (by simp)
    show World.ownsRow _ _ _ 1 _ _ _
    simpa using h2
theorem R_blocks {w W : World} {base : Nat} {ok : Nat → Prop} {v : Value} {xs : List Int} (h : Kd.R (Kd.int .i64) 3 w base ok v xs) (hs : w.heap.size ≤ W.heap.size) (hb : ∀ b, ok b → b < w.heap.size → W.heap[b]? = w.heap[b]?) : Kd.R (Kd.int .i64) 3 W base ok v xs :=
  Kd.R_step h (fun k ho hl => hb k ho (by omega))
theorem R_own_ok {w : World} {base : Nat} {ok ok' : Nat → Prop} {v : Value} {xs : List Int} (h : Kd.R (Kd.int .i64) 3 w base ok v xs) (ho : ∀ b, v.ownBlock = some b → some b = v.ownBlock ∧ True → ok' b) : Kd.R (Kd.int .i64) 3 w base ok' v xs := by
  obtain ⟨h0, inner, hown, hr⟩ := h
  exact ⟨fun k hk => ho k hk ⟨hk.symm, trivial⟩, inner, hown, hr.imp_ (fun _ _ hp => hp)⟩
def bef (r : Int) (q : Q) (x : Int) : Option Int := if x = r then some (-1) else (q.find? (fun t => t.2.2 == x)).map (·.1)
theorem bef_cons {r i u s : Int} {q : Q} (hs : s ≠ r) (x : Int) : bef r ((i, u, s) :: q) x = if x = s then some i else bef r q x := by
  unfold bef
  by_cases h : x = r
  · rw [if_pos h, if_neg (fun e => hs (e.symm.trans h)), if_pos h]
  · rw [if_neg h, if_neg h, List.find?_cons]
    by_cases e : x = s
    · subst e; simp
    · have e' : (s == x) = false := by simpa using fun h => e h.symm
      simp only [e', if_neg e]
theorem bef_some {r : Int} {q : Q} (x : Int) : (bef r q x).isSome = decide (x ∈ verts r q) := by
  unfold bef
  by_cases h : x = r
  · subst h; rw [if_pos rfl]; simp [verts]
  · rw [if_neg h]
    induction q with
    | nil => simp [verts, h]
    | cons t q ih =>
      rw [List.find?_cons]
      by_cases e : t.2.2 = x
      · have e' : (t.2.2 == x) = true := by simpa using e
        simp only [e', Option.map_some, Option.isSome_some]
        exact (decide_eq_true (by simp [verts, e])).symm
      · have e' : (t.2.2 == x) = false := by simpa using e
        simp only [e']
        rw [ih, decide_eq_decide]
        simp only [verts, List.map_cons, List.mem_cons]
        constructor
        · rintro (h1 | h1)
          · exact Or.inl h1
          · exact Or.inr (Or.inr h1)
        · rintro (h1 | h1 | h1)
          · exact Or.inl h1
          · exact absurd h1.symm e
          · exact Or.inr h1
theorem okRange {e : Int → Int × Int} {use : Int → Bool} {r : Int} {n : Nat} {q : Q} (h : Bfs.Ok e use r n q) (h0 : 0 ≤ r ∧ r < 8) (hr : ∀ i : Int, 0 ≤ i → i < n → 0 ≤ (e i).1 ∧ (e i).1 < 8 ∧ 0 ≤ (e i).2 ∧ (e i).2 < 8) : ∀ s ∈ verts r q, 0 ≤ s ∧ s < 8 := by
  intro s hs
  simp only [verts, List.mem_cons, List.mem_map] at hs
  rcases hs with rfl | ⟨x, hx, rfl⟩
  · exact h0
  · obtain ⟨he, ⟨h0, h1⟩, _⟩ := h.ends x hx
    have := hr _ h0 h1
    rcases he with he | he <;> rw [he] at this <;> simp only at this <;> omega
def trail (e : Int → Int × Int) : Int → List Int → List Int
  | a, [] => [a]
  | a, i :: l => a :: trail e ((e i).1 + (e i).2 - a) l
theorem rdp_at (l : List Int) (i : Nat) (h : i < l.length) : Go.Proofs.YtpojnobgijoddaaDoorW.PrintWords.rd l (i : Int) = l[i] := by
  unfold Go.Proofs.YtpojnobgijoddaaDoorW.PrintWords.rd
  rw [Int.toNat_natCast, List.getD_eq_getElem?_getD, List.getElem?_eq_getElem h]
  rfl
theorem rev_loop (l : List Int) (hn : l.length ≤ 1000) : ∀ (d i : Nat) (x : List Int), x.length = l.length → (∀ m : Nat, m < l.length → x[m]? = if m < i ∨ l.length - i ≤ m then l[l.length - 1 - m]? else l[m]?) → l.length ≤ 2 * i + d → i ≤ l.length →
    Ev (fun k => slices_Reverse_int_int.l0 k x (i : Int) ((l.length : Int) - 1 - (i : Int))) l.reverse := by
  intro d
  induction d with
  | zero =>
    intro i x hx hm hd hi
    have : x = l.reverse := by
      apply List.ext_getElem?
      intro m
      by_cases h : m < l.length
      · rw [hm m h, if_pos (by omega), List.getElem?_reverse h]
      · rw [List.getElem?_eq_none (by omega), List.getElem?_eq_none (by simp; omega)]
    rw [← this]
    refine Ev.step (f := fun _ => some x) (fun k => ?_) (Ev.now _)
    simp only [slices_Reverse_int_int.l0]
    rw [if_neg (by omega)]
  | succ d ih =>
    intro i x hx hm hd hi
    by_cases c : (i : Int) < (l.length : Int) - 1 - (i : Int)
    · have e1 : wrap64 ((i : Int) + 1) = ((i + 1 : Nat) : Int) := by rw [w64 (by omega) (by omega)]; omega
      have e2 : wrap64 ((l.length : Int) - 1 - (i : Int) - 1) = (l.length : Int) - 1 - ((i + 1 : Nat) : Int) := by rw [w64 (by omega) (by omega)]; omega
      have ej : ((l.length : Int) - 1 - (i : Int)).toNat = l.length - 1 - i := by omega
      refine Ev.step (fun k => ?_) (ih (i + 1) ((x.set i (rd x ((l.length : Int) - 1 - (i : Int)))).set (l.length - 1 - i) (rd x (i : Int))) (by simp [hx]) ?_ (by omega) (by omega))
      · simp only [slices_Reverse_int_int.l0]
        rw [if_pos c, if_pos (by omega), if_pos (by omega), if_pos (by omega), if_pos (by omega), e1, e2, ej, Int.toNat_natCast]
      · have r1 : rd x (i : Int) = l[i]'(by omega) := by
          have := hm i (by omega)
          rw [if_neg (by omega), List.getElem?_eq_getElem (by omega : i < x.length), List.getElem?_eq_getElem (by omega : i < l.length)] at this
          rw [rdp_at x i (by omega)]
          exact Option.some.inj this
        have r2 : rd x ((l.length : Int) - 1 - (i : Int)) = l[l.length - 1 - i]'(by omega) := by
          have := hm (l.length - 1 - i) (by omega)
          rw [if_neg (by omega), List.getElem?_eq_getElem (by omega : l.length - 1 - i < x.length), List.getElem?_eq_getElem (by omega : l.length - 1 - i < l.length)] at this
          rw [show (l.length : Int) - 1 - (i : Int) = ((l.length - 1 - i : Nat) : Int) by omega, rdp_at x _ (by omega)]
          exact Option.some.inj this
        intro m hml
        rw [r1, r2, List.getElem?_set, List.getElem?_set]
        by_cases m1 : l.length - 1 - i = m
        · rw [if_pos m1, if_pos (by simp; omega), if_pos (by omega), ← m1, show l.length - 1 - (l.length - 1 - i) = i by omega, List.getElem?_eq_getElem (by omega : i < l.length)]
        · rw [if_neg m1]
          by_cases m2 : i = m
          · rw [if_pos m2, if_pos (by omega), if_pos (by omega), ← m2, List.getElem?_eq_getElem (by omega : l.length - 1 - i < l.length)]
          · rw [if_neg m2, hm m hml]
            by_cases m3 : m < i ∨ l.length - i ≤ m
            · rw [if_pos m3, if_pos (by omega)]
            · rw [if_neg m3, if_neg (by omega)]
    · have : x = l.reverse := by
        apply List.ext_getElem?
        intro m
        by_cases h : m < l.length
        · rw [hm m h, List.getElem?_reverse h]
          by_cases m3 : m < i ∨ l.length - i ≤ m
          · rw [if_pos m3]
          · rw [if_neg m3, show l.length - 1 - m = m by omega]
        · rw [List.getElem?_eq_none (by omega), List.getElem?_eq_none (by simp; omega)]
      rw [← this]
      refine Ev.step (f := fun _ => some x) (fun k => ?_) (Ev.now _)
      simp only [slices_Reverse_int_int.l0]
      rw [if_neg c]
theorem rev_ev (l : List Int) (hn : l.length ≤ 1000) : Ev (fun k => slices_Reverse_int_int.f k l) l.reverse := by
  have h := rev_loop l hn l.length 0 l rfl (fun m hm => by rw [if_neg (by omega)]) (by omega) (by omega)
  refine Ev.congr (fun k => ?_) h
  unfold slices_Reverse_int_int.f
  rw [w64 (by omega) (by omega)]
  simp
theorem back_step {e : Int → Int × Int} {use : Int → Bool} {r : Int} {n : Nat} {q : Q} (h : Bfs.Ok e use r n q) {cur : Int} (hc : cur ∈ verts r q) (hr : cur ≠ r) :
    ∃ i u, bef r q cur = some i ∧ Bfs.back q cur = i :: Bfs.back q u ∧ u ∈ verts r q ∧ (e i).1 + (e i).2 - cur = u ∧ 0 ≤ i ∧ i < n := by
  obtain ⟨t, hx⟩ := h
  induction t with
  | nil => simp [verts] at hc; exact absurd hc hr
  | cons t hu hs hi ih =>
    rename_i q i u s
    obtain ⟨he, hin, _⟩ := hx (i, u, s) List.mem_cons_self
    have hsr : s ≠ r := fun e => hs (by rw [e]; simp [verts])
    have mono : ∀ {y}, y ∈ verts r q → y ∈ verts r ((i, u, s) :: q) := fun h => by
      simp only [verts, List.map_cons, List.mem_cons] at h ⊢
      rcases h with h | h
      · exact Or.inl h
      · exact Or.inr (Or.inr h)
    by_cases hcs : cur = s
    · subst hcs
      refine ⟨i, u, by rw [bef_cons hsr, if_pos rfl], ?_, mono hu, ?_, hin.1, hin.2⟩
      · have hus : u ≠ cur := fun e => hs (e ▸ hu)
        simp only [Bfs.back, if_pos, if_neg hus]
      · rcases he with he | he <;> rw [he] <;> simp only <;> omega
    · have hc' : cur ∈ verts r q := by
        simp only [verts, List.map_cons, List.mem_cons] at hc ⊢
        rcases hc with h | h | h
        · exact Or.inl h
        · exact absurd h hcs
        · exact Or.inr h
      obtain ⟨j, v, h1, h2, h3, h4, h5⟩ := ih hc' (fun x hm => hx x (List.mem_cons_of_mem _ hm))
      have hvs : v ≠ s := fun e => hs (e ▸ h3)
      refine ⟨j, v, by rw [bef_cons hsr, if_neg hcs, h1], ?_, mono h3, h4, h5⟩
      simp only [Bfs.back, if_neg hcs, if_neg hvs]
      exact h2
theorem back_root {e : Int → Int × Int} {use : Int → Bool} {r : Int} {n : Nat} {q : Q} (h : Bfs.Ok e use r n q) : Bfs.back q r = [] := by
  rw [Bfs.back_eq r h.tr (by simp [verts]), Tree.W_self]
theorem back_len {e : Int → Int × Int} {use : Int → Bool} {r : Int} {n : Nat} {q : Q} (h : Bfs.Ok e use r n q) {cur : Int} (hc : cur ∈ verts r q) : (Bfs.back q cur).length ≤ q.length := by
  rw [Bfs.back_eq r h.tr hc]; exact Tree.W_len q cur r
theorem trail_cons (e : Int → Int × Int) (a : Int) (l : List Int) : trail e a l = a :: (trail e a l).tail := by cases l <;> rfl
theorem trail_len (e : Int → Int × Int) : ∀ (l : List Int) (a : Int), (trail e a l).length = l.length + 1
  | [], a => rfl
  | i :: l, a => by simp [trail, trail_len e l]
def BackInv (e : Int → Int × Int) (r dst : Int) (R : Q) (cur : Int) (st lst : List Int) : Prop := cur ∈ verts r R ∧ lst ++ Bfs.back R cur = Bfs.back R dst ∧ st ++ (trail e cur (Bfs.back R cur)).tail = trail e dst (Bfs.back R dst)
theorem BackInv.start {e : Int → Int × Int} {r dst : Int} {R : Q} (h : dst ∈ verts r R) : BackInv e r dst R dst [dst] [] := ⟨h, rfl, by rw [List.singleton_append, ← trail_cons]⟩
theorem BackInv.next {e : Int → Int × Int} {r dst : Int} {R : Q} {cur i u : Int} {st lst : List Int} (h : BackInv e r dst R cur st lst) (hb : Bfs.back R cur = i :: Bfs.back R u) (hu : u ∈ verts r R) (he : (e i).1 + (e i).2 - cur = u) : BackInv e r dst R u (st ++ [u]) (lst ++ [i]) := by
  obtain ⟨h1, h2, h3⟩ := h
  refine ⟨hu, by rw [← h2, hb]; simp, ?_⟩
  rw [← h3, hb]
  simp only [trail, he, List.tail_cons]
  rw [List.append_assoc, List.singleton_append, ← trail_cons]
theorem BackInv.len {e : Int → Int × Int} {r dst : Int} {R : Q} {cur : Int} {st lst : List Int} (h : BackInv e r dst R cur st lst) {n : Nat} {use : Int → Bool} (ok : Bfs.Ok e use r n R) (hd : dst ∈ verts r R) : lst.length ≤ R.length ∧ st.length ≤ R.length + 1 := by
  obtain ⟨h1, h2, h3⟩ := h
  have a := congrArg List.length h2
  have b := congrArg List.length h3
  have c := back_len ok hd
  rw [List.length_append] at a b
  rw [trail_len] at b
  omega
def PathYes (e : Int → Int × Int) (r dst : Int) (R : Q) (w : World) (en : Ending) (w' : World) : Prop := ∃ v1 v2, en = .returned (.tuple #[v1, v2, .bool true]) ∧ Kd.R (Kd.int .i64) 3 w' w.heap.size (fun b => some b ≠ v2.ownBlock) v1 (trail e dst (Bfs.back R dst)).reverse ∧ Kd.R (Kd.int .i64) 3 w' w.heap.size (fun b => some b ≠ v1.ownBlock) v2 (Bfs.back R dst).reverse ∧ Below w.heap.size w w'
def PathPost (e : Int → Int × Int) (r dst : Int) (R : Q) (w : World) (en : Ending) (w' : World) : Prop := if dst ∈ verts r R then PathYes e r dst R w en w' else en = .returned (.tuple #[.slice none 0 0, .slice none 0 0, .bool false]) ∧ Below w.heap.size w w'
def OutInv (ls : L) (use : Int → Bool) (r : Int) (R : Q) (k : Nat) (q : Q) : Prop := Bfs.Ok (ends ls) use r ls.length q ∧ k ≤ q.length + 1 ∧ ∃ f, Bfs.run (ends ls) use r ls.length f k q = R ∧ 8 < f + k
def InInv (ls : L) (use : Int → Bool) (r : Int) (a : Int) (q : Q) (i : Nat) (p : Q) : Prop := Bfs.Ok (ends ls) use r ls.length p ∧ Bfs.Ext q p ∧ Bfs.scan (ends ls) use r a (ls.length - i) i p = Bfs.scan (ends ls) use r a ls.length 0 q
theorem InInv.next {ls : L} {use : Int → Bool} {r a : Int} {q p : Q} {i : Nat} (h : InInv ls use r a q i p) (hi : i < ls.length) (ha : a ∈ verts r q) : InInv ls use r a q (i + 1) (Bfs.look (ends ls) use r a p i) := by
  obtain ⟨h1, h2, h3⟩ := h
  refine ⟨h1.look (ends ls) use r (h2.verts r ha) (by omega) (by omega), h2.trans (Bfs.look_ext (ends ls) use r a p i), ?_⟩
  rw [← h3, show ls.length - i = (ls.length - (i + 1)) + 1 by omega]
  rfl
theorem InInv.skip {ls : L} {use : Int → Bool} {r a : Int} {q p : Q} {i : Nat} (h : InInv ls use r a q i p) (hi : i < ls.length) (hs : ((ends ls i).1 ≠ a ∧ (ends ls i).2 ≠ a) ∨ use i = false) : InInv ls use r a q (i + 1) p := by
  obtain ⟨h1, h2, h3⟩ := h
  refine ⟨h1, h2, ?_⟩
  rw [← h3, show ls.length - i = (ls.length - (i + 1)) + 1 by omega]
  have e : Bfs.look (ends ls) use r a p i = p := by unfold Bfs.look; rw [if_pos hs]
  show _ = Bfs.scan (ends ls) use r a _ ((i : Int) + 1) (Bfs.look (ends ls) use r a p i)
  rw [e]
  rfl
theorem OutInv.next {ls : L} {use : Int → Bool} {r a : Int} {q p R : Q} {k : Nat} (h : OutInv ls use r R k q) (hp : InInv ls use r a q ls.length p) (hk : k < (Bfs.queue r q).length) (ha : a = (Bfs.queue r q).getD k 0) (h7 : q.length ≤ 7) : OutInv ls use r R (k + 1) p := by
  obtain ⟨h1, h2, f, h3, h4⟩ := h
  obtain ⟨p1, ⟨t, ht⟩, p3⟩ := hp
  have hql := Bfs.queue_len r q
  rw [Nat.sub_self] at p3
  obtain ⟨f, rfl⟩ : ∃ m, f = m + 1 := ⟨f - 1, by omega⟩
  refine ⟨p1, by rw [ht, List.length_append]; omega, f, ?_, by omega⟩
  rw [Bfs.run, if_pos hk, ← ha] at h3
  have p3' : p = Bfs.scan (ends ls) use r a ls.length 0 q := p3
  rw [p3']
  exact h3
theorem OutInv.stop {ls : L} {use : Int → Bool} {r : Int} {q R : Q} {k : Nat} (h : OutInv ls use r R k q) (hk : ¬ k < (Bfs.queue r q).length) : R = q := by
  obtain ⟨h1, h2, f, h3, h4⟩ := h
  cases f with
  | zero => exact h3.symm
  | succ f => rw [Bfs.run, if_neg hk] at h3; exact h3.symm
end Go.Proofs.YtpojnobgijoddaaDoor.Net
