/- A row of ints of its own: its cells. -/
import Derived.Test.YtpojnobgijoddaaDoorKFnExactBestFixU6
set_option maxHeartbeats 4000000
set_option maxRecDepth 100000
set_option linter.unusedSimpArgs false
set_option linter.unusedVariables false
namespace Go.Proofs.YtpojnobgijoddaaDoor.Net
open Go Go.RowKit YtpojnobgijoddaaDoorW.PrintWords YtpojnobgijoddaaDoorW.PrintLast YtpojnobgijoddaaDoorW.PrintMore A Plain
def resTo (ls : L) (ax : Int) (k : Nat) : List Int := ((usedL ls).take k).map (nT ls ax)
def resL (ls : L) (ax : Int) : List Int := (usedL ls).map (nT ls ax)
theorem resTo_len (ls : L) (ax : Int) (k : Nat) : (resTo ls ax k).length ≤ k := by
  unfold resTo; rw [List.length_map, List.length_take]; omega
theorem resTo_step (ls : L) (ax : Int) (k : Nat) (h : k < (usedL ls).length) : resTo ls ax (k + 1) = resTo ls ax k ++ [nT ls ax (rd (usedL ls) (k : Int))] := by
  unfold resTo
  rw [List.take_add_one, List.map_append, rd_get _ k h, List.getElem?_eq_getElem h]
  rfl
theorem resTo_all (ls : L) (ax : Int) : resL ls ax = resTo ls ax (usedL ls).length := by
  unfold resTo resL; rw [List.take_length]
theorem res_all {ls : L} (hn : ls.length ≤ 12) (hg : ∀ x ∈ ls, Good x) (ax : Int) {k : Int} (hk : k ∈ usedL ls) : resM (leg ls k) ax (coL ls ax) (treesM ls) = nT ls ax k := rest_eq hn hg ax hk
theorem SA_bound {ls : L} (hn : ls.length ≤ 12) (hg : ∀ x ∈ ls, Good x) (ax : Int) : 0 ≤ SA ls ax ∧ SA ls ax ≤ 129140163000000 :=
  ⟨tot_nonneg (f := fun k => nT ls ax k * nT ls ax k) (l := usedL ls) (fun k _ => sq_nonneg _), sq_bound hn hg ax⟩
def sqTo (l : List Int) (k : Nat) : Int := (l.take k).foldl (fun s x => wrap64 (s + wrap64 (x * x))) 0
theorem sqTo_step (l : List Int) (k : Nat) (h : k < l.length) : sqTo l (k + 1) = wrap64 (sqTo l k + wrap64 (rd l (k : Int) * rd l (k : Int))) := by
  unfold sqTo
  rw [List.take_add_one, List.getElem?_eq_getElem h, rd_get _ k h, List.foldl_append]
  rfl
theorem sqTo_all {ls : L} (hn : ls.length ≤ 12) (hg : ∀ x ∈ ls, Good x) (ax : Int) : sqTo (resL ls ax) (resL ls ax).length = SA ls ax := by
  unfold sqTo
  rw [List.take_length]
  unfold resL
  rw [List.foldl_map]
  exact sq_all hn hg ax
theorem residualsW (ba : Nat) (lA uA pA : Option Addr) (lc uc pc : Nat) (ls : L) (ax : Int) (w : World) (hL : Sine.Laid w) (hA : Adj w ba lA uA pA lc uc pc ls (usedL ls) (unkL ls)) (ht : w.cell? ⟨ba, 4, none⟩ = some (.int .i64 (treesM ls))) (hn : ls.length ≤ 12) (hg : ∀ x ∈ ls, Good x) (h0 : 0 ≤ ax) (h2 : ax ≤ 2) :
    Calls Tryd.prog 82 #[.pointer (some ⟨ba, 0, none⟩), .int .i64 ax] w (Lst (resL ls ax) w) := by
  have HA := Aside0.mk hA
  have HL := Aside0.mk hL
  have HG := Aside0.mk hg
  have HT := Aside0.mk ht
  have HB := Aside0.mk (Below.refl w.heap.size w)
  have hul := usedL_len ls
  have HRG := Aside0.mk (usedL_range ls)
  have HRE : Aside0 (∀ k : Int, k ∈ usedL ls → resM (leg ls k) ax (coL ls ax) (treesM ls) = nT ls ax k) := ⟨fun k hk => res_all hn hg ax hk⟩
  have HLN : Aside0 (∀ k, (resTo ls ax k).length ≤ k) := ⟨resTo_len ls ax⟩
  have HST : Aside0 (∀ k, k < (usedL ls).length → resTo ls ax (k + 1) = resTo ls ax k ++ [nT ls ax (rd (usedL ls) (k : Int))]) := ⟨resTo_step ls ax⟩
  have HEND := Aside0.mk (resTo_all ls ax)
  have HCL : Aside0 ((coL ls ax).length = 8) := ⟨coL_len ls ax⟩
  have c2 := hA.c2
  clear hA hL hg ht
  go_enter Tryd.func82, Tryd.ntmps82
  go_wp2_with (first
    | (go_at_call 98; (with_reducible refine (coordinatesW ba lA uA pA lc uc pc ls ax _ ?s1 ?s2 hn HG.out h0 h2).mono ?_); (case s1 => exact HL.out.keep HB.out); (case s2 => exact HA.out.keep HB.out); rintro e w3 ⟨v, rfl, hv3, hw3⟩; replace HB := Aside0.mk (below_step HB.out hw3); have HV := Aside0.mk hv3; replace c2 := Sine.keepc c2 HB.out; clear hv3 hw3; obtain ⟨cA, cC, ec⟩ := Kd.R_slice HV.out; subst ec))
  replace HA := Aside0.mk (HA.out.keep HB.out)
  replace HT := Aside0.mk (Sine.keepc HT.out HB.out)
  replace HL := Aside0.mk (HL.out.keep HB.out)
  have HB0 := HB
  clear HB
  have HB := Aside0.mk (Below.refl w3.heap.size w3)
  go_loopw [6, 17] (fun v6 v17 W => ∃ (k : Nat), k ≤ (usedL ls).length ∧ v17 = .int .i64 k ∧ Aside0 (Kd.R (Kd.int .i64) 3 W w3.heap.size (fun _ => True) v6 (resTo ls ax k)) ∧ Aside0 (Below w3.heap.size w3 W)) (fun _ v17 _ => (usedL ls).length - (intOf v17).toNat)
  case atStart => exact ⟨0, Nat.zero_le _, rfl, ⟨Kd.R_nil _ _ _ _ _⟩, ⟨by (repeat (first | exact HB.out | exact Below.refl _ _ | apply below_alloc | apply pw_below_drewN | apply below_drew1)); done⟩⟩
  case round =>
    obtain ⟨k, hk, rfl, HO, HB2⟩ := hrel
    clear HB c2
    have HB := HB2
    clear HB2
    obtain ⟨vA, vC, ev⟩ := Kd.R_slice HO.out
    subst ev
    have hlen := HLN.out k
    by_cases hlt : k < (usedL ls).length
    · have k0 : (0 : Int) ≤ (k : Int) := by omega
      have k1 : (k : Int) < ((usedL ls).length : Int) := by omega
      have hmem : rd (usedL ls) (k : Int) ∈ usedL ls := by rw [rd_get _ k hlt]; exact List.getElem_mem hlt
      obtain ⟨ad, e1, h1⟩ := Kd.at_int (Kd.C_below HA.out.u HB.out) (k : Int) k0 k1
      rw [Int.toNat_natCast] at h1
      have hs := HRG.out _ hmem
      have HX := Aside0.mk (HST.out k hlt)
      have HE := Aside0.mk (HRE.out _ hmem)
      clear hmem
      obtain ⟨s, hs2⟩ := Int.eq_ofNat_of_zero_le hs.1
      rw [hs2] at h1 hs HX HE
      clear hs2
      have s0 : (0 : Int) ≤ (s : Int) := hs.1
      have s1 : (s : Int) < (ls.length : Int) := hs.2
      have HGX : Aside0 (Good (leg ls (s : Int))) := ⟨HG.out _ (leg_mem (by omega))⟩
      have hc1 := HA.out.c1
      have hc4 := HT.out
      obtain ⟨al, e2, g0, g1, g2, g3, g4⟩ := at_T45 HA.out.l (s : Int) s0 s1
      have ek : rd_T45 ls (s : Int) = leg ls s := rfl
      rw [Int.toNat_natCast] at g0 g1 g2 g3 g4
      rw [ek] at g0 g1 g2 g3 g4
      clear ek hs
      generalize leg ls (s : Int) = x at *
      have HQ : Aside0 (∀ W, Below w3.heap.size w3 W → Calls Tryd.prog 99 #[.agg #[.int .i64 x.f0, .int .i64 x.f1, .int .i64 x.f2, .int .i64 x.f3, .int .i64 x.f4], .int .i64 ax, .slice cA (coL ls ax).length cC, .int .i64 (treesM ls)] W fun e w' => e = .returned (.int .i64 (nT ls ax (s : Int))) ∧ Below W.heap.size W w') := ⟨fun W hb => by
        have hq := residualW cA cC (coL ls ax) x ax (treesM ls) W (HL.out.keep hb) (Kd.C_below (Kd.R_reads' HV.out).2.2 hb) HCL.out HGX.out h0 h2
        rw [HE.out] at hq; exact hq⟩
      generalize nT ls ax (s : Int) = nv at *
      subst e1
      go_wp2_with fail
      subst e2
      --@region
      refine start_ (n := 18) (S := (fun w' => w'.cell? ⟨ba, 1, none⟩ = some (.slice (some al) ls.length lc) ∧ w'.cell? ⟨ba, 4, none⟩ = some (.int .i64 (treesM ls)) ∧ w'.cell? (al.add (s * 5)) = some (.int .i64 x.f0) ∧ w'.cell? { block := (al.add (s * 5)).block, off := (al.add (s * 5)).off + 1 } = some (.int .i64 x.f1) ∧ w'.cell? { block := (al.add (s * 5)).block, off := (al.add (s * 5)).off + 2 } = some (.int .i64 x.f2) ∧ w'.cell? { block := (al.add (s * 5)).block, off := (al.add (s * 5)).off + 3 } = some (.int .i64 x.f3) ∧ w'.cell? { block := (al.add (s * 5)).block, off := (al.add (s * 5)).off + 4 } = some (.int .i64 x.f4))) (ds := []) #[false, false, false, false, false, false, false, false, false, false, false, false, false, false, false, false, false, false] qz5 rfl rfl qz11 (fun hHeld => ?_)
      refine pY 0 (some 21) (bz 18 1) ?_
      refine pY 1 (some 22) (bz 18 3) ?_
      refine pY 2 (some 23) (bz 18 7) ?_
      refine pY 3 (some 24) (bz 18 15) ?_
      refine tZ7 4 (some 25) (bz 18 31) ?_
      refine pY 5 (some 26) (bz 18 63) ?_
      refine pY 6 (some 27) (bz 18 127) ?_
      refine tZ7 7 (some 28) (bz 18 255) ?_
      refine pY 8 (some 29) (bz 18 511) ?_
      refine pY 9 (some 30) (bz 18 1023) ?_
      refine pY 10 (some 31) (bz 18 2047) ?_
      refine pY 11 (some 32) (bz 18 4095) ?_
      refine pY 12 (some 33) (bz 18 8191) ?_
      refine tZ7 13 (some 34) (bz 18 16383) ?_
      refine one_ (i := 14) (N := some 35) #[true, true, true, true, true, true, true, true, true, true, true, true, true, true, true, false, false, false] rfl rfl qz5 (by decide) (fun K hK => ?_)
      refine goes_ Tryd.func99 qz5 rfl #[.agg #[.int .i64 x.f0, .int .i64 x.f1, .int .i64 x.f2, .int .i64 x.f3, .int .i64 x.f4], .int .i64 ax, .slice cA (coL ls ax).length cC, .int .i64 (treesM ls)] (by rfl) rfl rfl qz32 ?_
      (with_reducible refine (HQ.out _ ?s1).mono ?_); (case s1 => ((repeat (first | exact Below.refl _ _ | apply pw_below_drewN | apply below_drew1 | exact HB.out | refine below_step ?_ qz16)); done)); rintro e w5 ⟨rfl, hw5⟩
      have hb5 := below_step (show Below wr.heap.size wr _ from by (repeat (first | exact Below.refl _ _ | apply pw_below_drewN | apply below_drew1 | exact HB.out | refine below_step ?_ qz16)); done) hw5
      have HB5 := Aside0.mk (below_step HB.out hb5)
      have HO5 := Aside0.mk (Kd.R_below HO.out hb5)
      refine ⟨_, rfl, ?_⟩
      refine hK.out _ _ qz11 (fun hHeld => ?_)
      clear hK K
      refine norm_ (a' := ?_) ?_ ?_
      rotate_left
      · show Act.put _ (some 35) _ = _
        simp only [Act.put, List.setIfInBounds_toArray, List.set_cons_zero, List.set_cons_succ, i64_w, i32_w]
        rfl
      refine one_ (i := 15) (N := some 36) #[true, true, true, true, true, true, true, true, true, true, true, true, true, true, true, true, false, false] rfl rfl qz5 (by decide) (fun K hK => ?_)
      refine value_ (w1 := ?_) (v := ?_) (by rfl) rfl ?_ ?_
      rotate_left 2
      · go_simp
        constructor
        · rfl
        · rfl
      refine hK.out _ _ qz11 (fun hHeld => ?_)
      clear hK K
      refine norm_ (a' := ?_) ?_ ?_
      rotate_left
      · show Act.put _ (some 36) _ = _
        simp only [Act.put, List.setIfInBounds_toArray, List.set_cons_zero, List.set_cons_succ, i64_w, i32_w]
        rfl
      refine one_ (i := 16) (N := some 37) #[true, true, true, true, true, true, true, true, true, true, true, true, true, true, true, true, true, false] rfl rfl qz5 (by decide) (fun K hK => ?_)
      refine Kd.R_append_step (Kd.int .i64) (w0 := w3) w3.heap.size (by rfl) (.tmp 21) (.tmp 36) 63 3 (.int .i64 0) 8 rfl Tryd.underlying63 info3 rfl (by decide) (by omega) (.slice vA (resTo ls ax k).length vC) (resTo ls ax k) nv [.int .i64 nv] (fun _ => True) (fun _ => False) rfl rfl ?aP (fun _ hk => hk.elim) ?aF ?aO ?aB ?aS ?aL ?_
      (case aP => exact rfl)
      (case aF => intro b hb; trivial)
      (case aO => exact HO5.out)
      (case aB => exact HB5.out)
      (case aS => exact below_size HB5.out)
      (case aL => omega)
      intro v7_ w7_ ho hb hg hat
      have HP2 := Aside0.mk ho
      have HP3 := Aside0.mk hb
      refine hK.out _ _ qz11 (fun hHeld => ?_)
      clear hK K
      refine norm_ (a' := ?_) ?_ ?_
      rotate_left
      · show Act.put _ (some 37) _ = _
        simp only [Act.put, List.setIfInBounds_toArray, List.set_cons_zero, List.set_cons_succ, i64_w, i32_w]
        rfl
      refine pY 17 (some 6) (bz 18 262143) ?_
      refine done_ qz5 ?_
      --@end
      go_wp2
      exact ⟨⟨k + 1, hlt, by go_num, by rw [HX.out]; exact HP2, HP3⟩, by simp [intOf]; omega⟩
    · obtain rfl : k = (usedL ls).length := by omega
      go_wp2
      exact bodyPost_ret (v := .slice vA (resTo ls ax (usedL ls).length).length vC) (by simp [results, Tryd.results82, go_sem]) rfl ⟨_, rfl, by rw [HEND.out]; exact Kd.R_lower HO.out (below_size HB0.out), below_step HB0.out HB.out⟩
theorem squaresW (ba : Nat) (lA uA pA : Option Addr) (lc uc pc : Nat) (ls : L) (ax : Int) (w : World) (hL : Sine.Laid w) (hA : Adj w ba lA uA pA lc uc pc ls (usedL ls) (unkL ls)) (ht : w.cell? ⟨ba, 4, none⟩ = some (.int .i64 (treesM ls))) (hn : ls.length ≤ 12) (hg : ∀ x ∈ ls, Good x) (h0 : 0 ≤ ax) (h2 : ax ≤ 2) :
    Calls Tryd.prog 59 #[.pointer (some ⟨ba, 0, none⟩), .int .i64 ax] w (fun e w' => e = .returned (.int .i64 (SA ls ax)) ∧ Below w.heap.size w w') := by
  have HB := Aside0.mk (Below.refl w.heap.size w)
  have HRR := Aside0.mk (residualsW ba lA uA pA lc uc pc ls ax w hL hA ht hn hg h0 h2)
  have HST : Aside0 (∀ k, k < (resL ls ax).length → sqTo (resL ls ax) (k + 1) = wrap64 (sqTo (resL ls ax) k + wrap64 (rd (resL ls ax) (k : Int) * rd (resL ls ax) (k : Int)))) := ⟨sqTo_step _⟩
  have HEND := Aside0.mk (sqTo_all hn hg ax)
  have HLN : Aside0 ((resL ls ax).length ≤ 12) := ⟨by unfold resL; rw [List.length_map]; have := usedL_len ls; omega⟩
  clear hL hA ht hg
  go_enter Tryd.func59, Tryd.ntmps59
  go_wp2_with (first
    | (go_at_call 82; (with_reducible refine HRR.out.mono ?_); rintro e w3 ⟨v, rfl, hv3, hw3⟩; replace HB := Aside0.mk (below_step HB.out hw3); have HV := Aside0.mk hv3; clear hv3 hw3; obtain ⟨cA, cC, ec⟩ := Kd.R_slice HV.out; subst ec))
  generalize resL ls ax = l at *
  have hl12 := HLN.out
  go_loopw [5, 12] (fun v5 v12 W => ∃ (k : Nat), k ≤ l.length ∧ v12 = .int .i64 k ∧ v5 = .int .i64 (sqTo l k) ∧ Aside0 (Below w3.heap.size w3 W)) (fun _ v12 _ => l.length - (intOf v12).toNat)
  case atStart => exact ⟨0, Nat.zero_le _, rfl, rfl, ⟨by (repeat (first | exact HB.out | exact Below.refl _ _ | apply below_alloc | apply pw_below_drewN | apply below_drew1)); done⟩⟩
  case round =>
    obtain ⟨k, hk, rfl, rfl, HB3⟩ := hrel
    by_cases hlt : k < l.length
    · have k0 : (0 : Int) ≤ (k : Int) := by omega
      have k1 : (k : Int) < (l.length : Int) := by omega
      obtain ⟨ad, e1, h1⟩ := Kd.at_int (Kd.C_below (Kd.R_reads' HV.out).2.2 HB3.out) (k : Int) k0 k1
      rw [Int.toNat_natCast] at h1
      subst e1
      have hst := HST.out k hlt
      go_wp2
      exact ⟨⟨k + 1, hlt, by go_num, by rw [hst], HB3⟩, by simp [intOf]; omega⟩
    · obtain rfl : k = l.length := by omega
      have hend := HEND.out
      go_wp2
      exact bodyPost_ret (v := .int .i64 (sqTo l l.length)) (by simp [results, Tryd.results59, go_sem]) rfl ⟨by rw [hend], below_step HB.out HB3.out⟩
end Go.Proofs.YtpojnobgijoddaaDoor.Net
namespace Go.Proofs.YtpojnobgijoddaaDoor.Net
open Go.RowKit YtpojnobgijoddaaDoorW.PrintWords Plain A Frac
def redN (n d : Int) : Int := n.tdiv (Int.gcd n d)
def redD (n d : Int) : Int := d.tdiv (Int.gcd n d)
theorem red_red {n d : Int} (hd : 0 < d) : Red (redN n d) (redD n d) n d := Red.of_div hd
theorem tdiv_small (n : Int) (g : Nat) {B : Int} (h1 : -B ≤ n) (h2 : n ≤ B) : -B ≤ n.tdiv (g : Int) ∧ n.tdiv (g : Int) ≤ B := by
  have h : (n.tdiv (g : Int)).natAbs ≤ n.natAbs := by rw [Int.natAbs_tdiv]; exact Nat.div_le_self _ _
  omega
theorem wtdiv (n : Int) (g : Nat) (h1 : -9000000000000000000 ≤ n) (h2 : n ≤ 9000000000000000000) : wrap64 (n.tdiv (g : Int)) = n.tdiv (g : Int) := by
  have := tdiv_small n g h1 h2
  unfold wrap64; omega
theorem gcd_small {n d : Int} (hd : 0 < d) (hd2 : d ≤ 9000000000000000000) : 0 < Int.gcd n d ∧ (Int.gcd n d : Int) ≤ 9000000000000000000 := by
  have h1 := Int.gcd_pos_of_ne_zero_right n (show d ≠ 0 by omega)
  have h2 := Nat.le_of_dvd (show 0 < d.natAbs by omega) (Nat.gcd_dvd_right n.natAbs d.natAbs)
  have h3 : Int.gcd n d = Nat.gcd n.natAbs d.natAbs := rfl
  omega
theorem gcd_ev (n d : Int) (hd : 0 < d) (hd2 : d ≤ 9000000000000000000) : Ev (fun k => impl_gcd.f k n d) (Int.gcd n d : Int) := by
  have hs := gcd_small (n := n) hd hd2
  obtain ⟨z, hz, _, K, hK⟩ := gcd_loop (g := impl_gcd.l0) (fin := fun a => if a < wrap64 (-a) then wrap64 (-a) else a) (fun k a => by
    unfold impl_gcd.l0; rw [if_pos rfl]; unfold impl_absolute.f; rfl) (fun k a b hb => by
    conv => lhs; unfold impl_gcd.l0
    rw [if_neg hb]) (d.natAbs + 1) n d (by omega)
  refine ⟨K, fun k hk => ?_⟩
  show impl_gcd.l0 k n d = _
  have h := hK k hk
  simp only at h
  rw [h]
  congr 1
  have hw : wrap64 (-z) = -z := by unfold wrap64; omega
  rw [hw]
  split <;> omega
theorem reduced_ev (n d : Int) (hd : 0 < d) (hd2 : d ≤ 9000000000000000000) (h1 : -9000000000000000000 ≤ n) (h2 : n ≤ 9000000000000000000) : Ev (fun k => impl_reduced.f k n d) (redN n d, redD n d) := by
  have hs := gcd_small (n := n) hd hd2
  obtain ⟨K, hK⟩ := gcd_ev n d hd hd2
  refine ⟨K, fun k hk => ?_⟩
  show impl_reduced.f k n d = _
  unfold impl_reduced.f
  have h := hK k hk
  simp only at h
  rw [h]
  show (if ((Int.gcd n d : Nat) : Int) = 0 then _ else _) = _
  rw [if_neg (by omega), wtdiv n _ h1 h2, wtdiv d _ (by omega) (by omega)]
  rfl
theorem l9_loop (n d : Int) : ∀ (m : Nat) (a b : Int), b.natAbs < m → 0 ≤ a → 0 ≤ b → 0 < Int.gcd a b → Ev (fun k => spec_l9Reduce.l0 k n d a b) (wrap64 (n.tdiv (Int.gcd a b)), wrap64 (d.tdiv (Int.gcd a b)))
  | 0, a, b, h, _, _, _ => by omega
  | m + 1, a, b, h, ha, hb, hg => by
    by_cases h0 : b = 0
    · subst h0
      rw [Int.gcd_zero_right] at hg ⊢
      refine ⟨1, fun k hk => ?_⟩
      obtain ⟨k, rfl⟩ : ∃ m, k = m + 1 := ⟨k - 1, by omega⟩
      show spec_l9Reduce.l0 (k + 1) n d a 0 = _
      unfold spec_l9Reduce.l0
      rw [if_pos rfl, if_neg (by omega), show ((a.natAbs : Nat) : Int) = a by omega]
    · obtain ⟨K, hK⟩ := l9_loop n d m b (Int.tmod a b) (by have := tmod_lt a b h0; omega) hb (Int.tmod_nonneg b ha) (by rw [gcd_step a b h0]; exact hg)
      refine ⟨K + 1, fun k hk => ?_⟩
      obtain ⟨k, rfl⟩ : ∃ m, k = m + 1 := ⟨k - 1, by omega⟩
      show spec_l9Reduce.l0 (k + 1) n d a b = _
      conv => lhs; unfold spec_l9Reduce.l0
      rw [if_neg h0]
      have h := hK k (by omega)
      simp only at h
      rw [h, gcd_step a b h0]
theorem l9Reduce_ev (n d : Int) (hd : 0 < d) (hd2 : d ≤ 9000000000000000000) (h1 : -9000000000000000000 ≤ n) (h2 : n ≤ 9000000000000000000) : Ev (fun k => spec_l9Reduce.f k n d) (redN n d, redD n d) := by
  have ha : spec_l1Most.f n (wrap64 (-n)) = some (n.natAbs : Int) := by
    have hw : wrap64 (-n) = -n := by unfold wrap64; omega
    rw [hw]
    unfold spec_l1Most.f
    split <;> (congr 1; omega)
  have hg : Int.gcd (n.natAbs : Int) d = Int.gcd n d := by unfold Int.gcd; rw [Int.natAbs_natCast]
  have hs := gcd_small (n := n) hd hd2
  obtain ⟨K, hK⟩ := l9_loop n d (d.natAbs + 1) (n.natAbs : Int) d (by omega) (by omega) (by omega) (by rw [hg]; exact hs.1)
  refine ⟨K, fun k hk => ?_⟩
  show spec_l9Reduce.f k n d = _
  unfold spec_l9Reduce.f
  rw [ha]
  show spec_l9Reduce.l0 k n d (n.natAbs : Int) d = _
  have h := hK k hk
  simp only at h
  rw [h, hg, wtdiv n _ h1 h2, wtdiv d _ (by omega) (by omega)]
  rfl
end Go.Proofs.YtpojnobgijoddaaDoor.Net
namespace Go.Proofs.YtpojnobgijoddaaDoor.Net
open Go Go.RowKit YtpojnobgijoddaaDoorW.PrintWords YtpojnobgijoddaaDoorW.PrintLast YtpojnobgijoddaaDoorW.PrintMore A Plain
def stTo (ls : L) : Nat → Int
  | 0 => 0
  | a + 1 => wrap64 (stTo ls a + SA ls (a : Int))
theorem stTo_three {ls : L} (hn : ls.length ≤ 12) (hg : ∀ x ∈ ls, Good x) : stTo ls 3 = SA ls 0 + SA ls 1 + SA ls 2 := by
  have h0 := SA_bound hn hg 0
  have h1 := SA_bound hn hg 1
  have h2 := SA_bound hn hg 2
  show wrap64 (wrap64 (wrap64 (0 + SA ls ((0 : Nat) : Int)) + SA ls ((1 : Nat) : Int)) + SA ls ((2 : Nat) : Int)) = _
  rw [show (((0 : Nat) : Int)) = 0 from rfl, show (((1 : Nat) : Int)) = 1 from rfl, show (((2 : Nat) : Int)) = 2 from rfl, w64 (x := 0 + SA ls 0) (by omega) (by omega), w64 (x := 0 + SA ls 0 + SA ls 1) (by omega) (by omega), w64 (by omega) (by omega)]
  omega
def StrainPost (ls : L) (w : World) (e : Ending) (w' : World) : Prop := e = .returned (.agg #[.int .i64 (sNum ls), .int .i64 (sDen ls)]) ∧ Below w.heap.size w w'
theorem strainW (A0 : Option Addr) (c0 : Nat) (ls : L) (w : World) (hL : Sine.Laid w) (hr0 : Kd.C k45 w A0 ls.length ls) (hc0 : ls.length ≤ c0) (hn : ls.length ≤ 12) (hg : ∀ x ∈ ls, Good x) :
    Calls Tryd.prog 33 #[.slice A0 ls.length c0] w (StrainPost ls w) := by
  have HR := Aside0.mk hr0
  have HL := Aside0.mk hL
  have HG := Aside0.mk hg
  have HB := Aside0.mk (Below.refl w.heap.size w)
  have HRD : Aside0 (∀ W, Calls Tryd.prog 60 #[.int .i64 (stTo ls 3), .int .i64 (IntKind.i64.wrap (treesM ls * treesM ls))] W fun e w' => e = .returned (.tuple #[.int .i64 (sNum ls), .int .i64 (sDen ls)]) ∧ Below W.heap.size W w') := ⟨fun W => by
    have ht1 := trees_pos hn HG.out
    have ht2 := trees_le hn HG.out
    have h0 := SA_bound hn HG.out 0
    have h1 := SA_bound hn HG.out 1
    have h2 := SA_bound hn HG.out 2
    have hsq : treesM ls * treesM ls ≤ 6561 * 6561 := Int.mul_le_mul ht2 ht2 (by omega) (by omega)
    have hsp : 0 < treesM ls * treesM ls := Int.mul_pos (by omega) (by omega)
    rw [i64_w, Plain.w64 (by omega) (by omega), stTo_three hn HG.out]
    obtain ⟨K, hK⟩ := reduced_ev (SA ls 0 + SA ls 1 + SA ls 2) (treesM ls * treesM ls) hsp (by omega) (by omega) (by omega)
    have hq := impl_reduced.calls K _ _ _ _ W (hK K (Nat.le_refl _))
    obtain ⟨e1, e2⟩ := strain_impl hn HG.out (red_red (n := SA ls 0 + SA ls 1 + SA ls 2) hsp)
    rw [e1, e2] at hq
    exact hq⟩
  have HST : Aside0 (∀ a : Nat, stTo ls (a + 1) = wrap64 (stTo ls a + SA ls (a : Int))) := ⟨fun _ => rfl⟩
  clear hr0 hL hg
  go_enter Tryd.func33, Tryd.ntmps33
  go_wp2_with (go_at_call 58; (with_reducible refine (adjustW A0 c0 ls _ ?s1 ?s2 hc0 hn HG.out).mono ?_); (case s1 => exact HL.out.keep qz6); (case s2 => exact Kd.C_below HR.out qz6); rintro e w2 ⟨ba, uA, pA, uc, pc, rfl, hadj, ht, hba, hw⟩; have HJ := Aside0.mk hadj; have g0 : w2.cell? ⟨w.heap.size, 0, none⟩ = some (.int .i64 0) := Sine.keepc qz17 hw; have g1 : w2.cell? ⟨w.heap.size, 1, none⟩ = some (.int .i64 0) := Sine.keepc qz17 hw; have z0 : w2.frozen? ⟨w.heap.size, 0, none⟩ = false := keepz (v := .int .i64 0) qz17 qz17 hw; have z1 : w2.frozen? ⟨w.heap.size, 1, none⟩ = false := keepz (v := .int .i64 0) qz17 qz17 hw; replace HB := Aside0.mk (below_step (show Below w.heap.size w _ from by (repeat (first | exact HB.out | exact Below.refl _ _ | apply below_alloc | apply pw_below_drewN | apply below_drew1)); done) hw); clear hadj hw hba)
  have HZ : Aside0 (∀ W, Below w2.heap.size w2 W → W.cell? ⟨w.heap.size, 0, none⟩ = some (.int .i64 0) ∧ W.cell? ⟨w.heap.size, 1, none⟩ = some (.int .i64 0) ∧ W.frozen? ⟨w.heap.size, 0, none⟩ = false ∧ W.frozen? ⟨w.heap.size, 1, none⟩ = false) := ⟨fun W hW => ⟨Sine.keepc g0 hW, Sine.keepc g1 hW, keepz g0 z0 hW, keepz g1 z1 hW⟩⟩
  clear g0 g1 z0 z1
  go_loopw [4, 5] (fun v4 v5 W => ∃ a : Nat, a ≤ 3 ∧ v5 = .int .i64 a ∧ v4 = .int .i64 (stTo ls a) ∧ Aside0 (Below w2.heap.size w2 W)) (fun _ v5 _ => 3 - (intOf v5).toNat)
  case atStart => exact ⟨0, by omega, rfl, rfl, ⟨Below.refl _ _⟩⟩
  case round =>
    obtain ⟨a, ha, rfl, rfl, HW⟩ := hrel
    by_cases hlt : a < 3
    · have a0 : (0 : Int) ≤ (a : Int) := by omega
      have a2 : (a : Int) ≤ 2 := by omega
      have HE := Aside0.mk (HST.out a)
      go_wp2_with (go_at_call 59; (with_reducible refine (squaresW ba A0 uA pA c0 uc pc ls (a : Int) _ ?s1 ?s2 ?s3 hn HG.out a0 a2).mono ?_); (case s1 => exact HL.out.keep (below_step HB.out HW.out)); (case s2 => exact HJ.out.keep HW.out); (case s3 => exact Sine.keepc ht HW.out); rintro e w3 ⟨rfl, hw3⟩; replace HW := Aside0.mk (below_step HW.out hw3); clear hw3)
      exact ⟨⟨a + 1, hlt, by go_num, by rw [HE.out], HW⟩, by simp [intOf]; omega⟩
    · obtain rfl : a = 3 := by omega
      have ht3 := Sine.keepc ht HW.out
      go_wp2
      go_region_held3 (fun w' => w'.cell? ⟨ba, 4, none⟩ = some (.int .i64 (treesM ls)))
        (first | exact ht3 | exact Sine.keepc ht3 qz16 | (refine Sine.keepc (w := wr) ht3 ?_ <;> ((repeat (first | exact Below.refl _ _ | apply pw_below_drewN | apply below_drew1 | exact HB.out | refine below_step ?_ qz16)); done)))
        (first
          | (go_at_call 60; (with_reducible refine (HRD.out _).mono ?_); rintro e w4 ⟨rfl, hw4⟩
             have hB4 : Below wr.heap.size wr w4 := by (repeat (first | exact Below.refl _ _ | apply pw_below_drewN | apply below_drew1 | exact HB.out | refine below_step ?_ qz16)); done
             have HW4 := Aside0.mk (below_step HW.out hB4)
             clear hw4))
      obtain ⟨g0, g1, z0, z1⟩ := HZ.out _ HW4.out
      go_wp2
      have HB5 := Aside0.mk (below_step HB.out HW4.out)
      exact bodyPost_ret (v := .agg #[.int .i64 (sNum ls), .int .i64 (sDen ls)]) (by simp [results, Tryd.results33, go_sem, g0, g1]) rfl ⟨rfl, by repeat (first | exact HB5.out | (refine below_set ?_ (by omega)))⟩
end Go.Proofs.YtpojnobgijoddaaDoor.Net
namespace Go.Proofs.YtpojnobgijoddaaDoor.Net
open Go.RowKit YtpojnobgijoddaaDoorW.PrintWords YtpojnobgijoddaaDoorW.PrintLast YtpojnobgijoddaaDoorW.PrintMore A Plain
def Gate (ls : L) (b : Bool) (w : World) (e : Ending) (w' : World) : Prop := ∃ g T cA cC, e = .returned (.tuple #[.pointer (some ⟨g, 0, none⟩), .bool b]) ∧ St ls.length T g (Pq (RR ls)) (Xq ls (RR ls)) (Bq (RR ls)) (.slice cA (closeL ls).length cC) w' ∧ Kd.R (Kd.int .i64) 3 w' w.heap.size (fun k => k ≠ g ∧ k ≠ T) (.slice cA (closeL ls).length cC) (closeL ls) ∧ Below w.heap.size w w'
theorem placedLeg (A : Option Addr) (c : Nat) (ls : L) (i : Int) (w : World) (hL : Sine.Laid w) (hr0 : Kd.C k45 w A ls.length ls) (hc : ls.length ≤ c) (hv : legsB ls = true) (h0 : 0 ≤ i) (h1 : i < ls.length) :
    Calls Tryd.prog 43 #[.slice A ls.length c, .int .i64 i] w (Gate ls (Pq (RR ls) (leg ls i).f0.toNat) w) := by
  have hv' := legsB_iff.mp hv
  have hn := hv'.2
  obtain ⟨K, hK⟩ := areLegs_ev ls (by omega)
  have HA := Aside0.mk (hK K (Nat.le_refl _))
  rw [hv] at HA
  have HW : Aside0 (impl_within.f i 0 ((ls.length : Int) - 1) = some true) := ⟨by rw [within_eq, decide_eq_true (by omega)]⟩
  obtain ⟨k, rfl⟩ := Int.eq_ofNat_of_zero_le h0
  have hg := leg_good hv'.1 k (by omega)
  obtain ⟨a, ha⟩ := Int.eq_ofNat_of_zero_le hg.1.1
  have ha8 : (a : Int) < 8 := by have := hg.1.2; omega
  rw [ha, Int.toNat_natCast]
  obtain ⟨_, e2, h2, _⟩ := at_T45 hr0 (k : Int) h0 h1
  cases e2
  rw [Int.toNat_natCast, show rd_T45 ls (k : Int) = leg ls k from rfl, ha] at h2
  have H2 := Aside0.mk h2
  have HG := Aside0.mk hv'.1
  have HR := Aside0.mk hr0
  have HL := Aside0.mk hL
  have HB := Aside0.mk (Below.refl w.heap.size w)
  clear hK hr0 hL hv hv' hg ha h2
  go_enter Tryd.func43, Tryd.ntmps43
  go_wp2_with (first
    | (go_at_call 32; (with_reducible refine (impl_areLegs.calls K _ _ ls true _ ?s1 ?s2 HA.out).mono ?_); (case s1 => exact Kd.C_below HR.out qz6); (case s2 => exact hc); rintro e w' ⟨rfl, hw⟩; replace HB := Aside0.mk (below_step (show Below w.heap.size w _ from by (repeat (first | exact HB.out | exact Below.refl _ _ | apply below_alloc | apply pw_below_drewN | apply below_drew1)); done) hw); clear hw)
    | (go_at_call 64; (with_reducible refine (impl_within.calls _ _ _ _ _ HW.out).mono ?_); rintro e w' ⟨rfl, ⟨nd, rfl⟩⟩; replace HB := Aside0.mk (pw_below_drewN HB.out nd))
    | ((go_at_call 49; (with_reducible refine (place _ c ls _ ?s1 ?s2 hc hn HG.out (RR ls) rfl).mono ?_); (case s1 => exact HL.out.keep qz6); (case s2 => exact Kd.C_below HR.out qz6); rintro e w' ⟨g, T, cl, rfl, hst, ho, hw⟩; have HO : Aside0 (Kd.R (Kd.int .i64) 3 w' w.heap.size (fun k => k ≠ g ∧ k ≠ T) cl (closeL ls)) := ⟨Kd.R_lower ho (below_size (show Below w.heap.size w _ from by (repeat (first | exact HB.out | exact Below.refl _ _ | apply below_alloc | apply pw_below_drewN | apply below_drew1)); done))⟩; replace HB := Aside0.mk (below_step (show Below w.heap.size w _ from by (repeat (first | exact HB.out | exact Below.refl _ _ | apply below_alloc | apply pw_below_drewN | apply below_drew1)); done) hw); have HS := Aside0.mk hst; clear hst ho hw; obtain ⟨cA, cC, ecl⟩ := Kd.R_slice HO.out; subst ecl); have h2 := Sine.keepc H2.out HB.out; have pa := HS.out.pb a (by omega)))
  go_quiet (fail)
  go_wp2
  go_ret2
  exact ⟨g, T, cA, cC, rfl, HS.out.keep (pw_below_drewN (Below.refl _ _) _), Kd.R_drewN HO.out _, pw_below_drewN HB.out _⟩
def fixX (x : S45) (fix : Int) : S45 :=
  if fix = 1 then ⟨x.f0, x.f1, x.f2, Int.tmod (wrap64 (x.f3 + 180)) 360, x.f4⟩ else if fix = 2 then ⟨x.f0, x.f1, x.f2, x.f3, wrap64 (-x.f4)⟩ else if fix = 3 then ⟨x.f0, x.f1, wrap64 (x.f2 + 100), x.f3, x.f4⟩ else ⟨x.f0, x.f1, wrap64 (x.f2 - 100), x.f3, x.f4⟩
theorem fix_eq (ls : L) (i : Nat) (fix : Int) (hi : i < ls.length) (hb : ls.length ≤ 2000000) : spec_l10Fix.f ls (i : Int) fix = some (ls.set i (fixX (leg ls i) fix)) := by
  unfold spec_l10Fix.f
  rw [Option.bind_some, if_pos (by simp; omega), Option.bind_some, List.nil_append, if_pos (by omega), if_pos (by omega), Int.toNat_natCast]
  unfold fixX leg
  by_cases h1 : fix = 1
  · rw [if_pos h1, if_pos h1]
  · rw [if_neg h1, if_neg h1]
    by_cases h2 : fix = 2
    · rw [if_pos h2, if_pos h2]
    · rw [if_neg h2, if_neg h2]
      by_cases h3 : fix = 3
      · rw [if_pos h3, if_pos h3]
      · rw [if_neg h3, if_neg h3]
theorem legsB_set {ls : L} (hv : legsB ls = true) (i : Nat) (hi : i < ls.length) (x : S45) : legsB (ls.set i x) = decide (Good x) := by
  have hv' := legsB_iff.mp hv
  unfold legsB
  rw [decide_eq_decide, List.length_set]
  constructor
  · rintro ⟨h, _⟩
    exact h x (List.mem_iff_getElem.mpr ⟨i, by rw [List.length_set]; exact hi, by rw [List.getElem_set_self]⟩)
  · intro h
    refine ⟨fun y hy => ?_, hv'.2⟩
    rcases List.mem_or_eq_of_mem_set hy with hy | hy
    · exact hv'.1 y hy
    · rw [hy]; exact h
def fixM (ls : L) (i fix : Int) : L × Bool :=
  if legsB ls = true ∧ (0 ≤ i ∧ i < (ls.length : Int)) ∧ (leg ls i).f0 ∈ plL (RR ls) ∧ (1 ≤ fix ∧ fix ≤ 4) ∧ Good (fixX (leg ls i) fix) then (ls.set i.toNat (fixX (leg ls i) fix), true) else ([], false)
theorem mem_plcL {ls : L} (hg : ∀ x ∈ ls, Good x) (i : Int) : i ∈ plcL ls (RR ls) ls.length ↔ (0 ≤ i ∧ i < (ls.length : Int)) ∧ (leg ls i).f0 ∈ plL (RR ls) := by
  unfold plcL
  rw [mem_selTo]
  constructor
  · rintro ⟨k, rfl, hk, h⟩
    rw [Pq_eq, Int.toNat_of_nonneg (leg_good hg k hk).1.1] at h
    exact ⟨⟨by omega, by omega⟩, of_decide_eq_true h⟩
  · rintro ⟨⟨h0, h1⟩, h2⟩
    obtain ⟨k, rfl⟩ := Int.eq_ofNat_of_zero_le h0
    have hk : k < ls.length := by omega
    exact ⟨k, rfl, hk, by rw [Pq_eq, Int.toNat_of_nonneg (leg_good hg k hk).1.1]; exact decide_eq_true h2⟩
theorem can_ev (ls : L) (i fix : Int) (hb : ls.length ≤ 2000000) : Ev (fun k => spec_l10Can.f k ls i fix) (fixM ls i fix).2 := by
  unfold spec_l10Can.f fixM
  have hpl : Ev (fun k => spec_l10Placed.f k ls i) (legsB ls && decide (i ∈ plcL ls (RR ls) ls.length)) := by
    unfold spec_l10Placed.f
    refine Ev.bind (l4Legs_ev ls (by omega)) ?_
    cases h : legsB ls
    · exact Ev.neg (by decide) (Ev.now _)
    · have h' := legsB_iff.mp h
      have hl := selTo_len (fun k => Pq (RR ls) (leg ls k).f0.toNat) ls.length
      exact Ev.pos rfl (Ev.bind (l9Legs_ev h'.2 h'.1) (Ev.bind (has_ev _ _ (by unfold plcL; omega)) (Ev.now _)))
  refine Ev.bind hpl ?_
  by_cases h : legsB ls = true ∧ i ∈ plcL ls (RR ls) ls.length
  · have hv := legsB_iff.mp h.1
    have hm := (mem_plcL hv.1 i).mp h.2
    refine Ev.pos (by rw [h.1, decide_eq_true h.2]; rfl) (Ev.bindc (show spec_l1In.f fix 1 4 = some (decide (1 ≤ fix ∧ fix ≤ 4)) from within_eq fix 1 4) ?_)
    by_cases hf : 1 ≤ fix ∧ fix ≤ 4
    · refine Ev.pos (decide_eq_true hf) ?_
      obtain ⟨k, rfl⟩ := Int.eq_ofNat_of_zero_le hm.1.1
      refine Ev.bindc (fix_eq ls k fix (by omega) hb) (Ev.bind (l4Legs_ev _ (by rw [List.length_set]; omega)) ?_)
      rw [legsB_set h.1 k (by omega)]
      by_cases hg : Good (fixX (leg ls k) fix)
      · rw [if_pos ⟨h.1, hm.1, hm.2, hf, hg⟩, decide_eq_true hg]
        exact Ev.now _
      · rw [if_neg (fun e => hg e.2.2.2.2), decide_eq_false hg]
        exact Ev.now _
    · rw [if_neg (fun e => hf e.2.2.2.1)]
      exact Ev.neg (by rw [decide_eq_false hf]; decide) (Ev.now _)
  · rw [if_neg (fun e => h ⟨e.1, (mem_plcL (legsB_iff.mp e.1).1 i).mpr ⟨e.2.1, e.2.2.1⟩⟩)]
    exact Ev.neg (by rw [Bool.and_eq_true, decide_eq_true_eq]; exact h) (Ev.now _)
end Go.Proofs.YtpojnobgijoddaaDoor.Net
namespace Go.Proofs.YtpojnobgijoddaaDoor.Net
open Go Go.RowKit YtpojnobgijoddaaDoorW.PrintWords YtpojnobgijoddaaDoorW.PrintLast YtpojnobgijoddaaDoorW.PrintMore A Plain
def fixedM (x : S45) (fix : Int) : S45 × Bool := if 1 ≤ fix ∧ fix ≤ 4 then (fixX x fix, decide (Good (fixX x fix))) else (⟨0, 0, 0, 0, 0⟩, false)
def FixPost (y : S45) (b : Bool) (w : World) (e : Ending) (w' : World) : Prop := e = .returned (.tuple #[.agg #[.int .i64 y.f0, .int .i64 y.f1, .int .i64 y.f2, .int .i64 y.f3, .int .i64 y.f4], .bool b]) ∧ Below w.heap.size w w'
theorem fixed1 (x : S45) (nv : Int) (hnv : nv = (Int.tmod (wrap64 (x.f3 + 180)) 360)) (w : World) :
    Calls Tryd.prog 70 #[.agg #[.int .i64 x.f0, .int .i64 x.f1, .int .i64 x.f2, .int .i64 x.f3, .int .i64 x.f4], .int .i64 1] w (FixPost ⟨x.f0, x.f1, x.f2, nv, x.f4⟩ (decide (Good ⟨x.f0, x.f1, x.f2, nv, x.f4⟩)) w) := by
  have HI := Aside0.mk (IsLeg_eq ⟨x.f0, x.f1, x.f2, nv, x.f4⟩)
  simp only at HI
  generalize decide (Good ⟨x.f0, x.f1, x.f2, nv, x.f4⟩) = bb at *
  have HBK : Aside0 (impl_back.f x.f3 = some nv) := ⟨by rw [hnv]; rfl⟩
  clear hnv
  go_enter Tryd.func70, Tryd.ntmps70
  go_wp2_with (go_at_call 89; (with_reducible refine (impl_back.calls _ _ _ HBK.out).mono ?_); rintro e w' ⟨rfl, ⟨nd, rfl⟩⟩)
  obtain ⟨W1, hW1⟩ : ∃ W1, W1 = ((((w.alloc (Obj.cells #[Value.int IntKind.i64 x.f0, Value.int IntKind.i64 x.f1, Value.int IntKind.i64 x.f2, Value.int IntKind.i64 x.f3, Value.int IntKind.i64 x.f4] 45)).alloc (Obj.cells #[Value.int IntKind.i64 0, Value.int IntKind.i64 0, Value.int IntKind.i64 0, Value.int IntKind.i64 0, Value.int IntKind.i64 0] 45)).drewN nd).setCell ⟨w.heap.size, 3, none⟩ (.int .i64 nv)) := ⟨_, rfl⟩
  have h0 : W1.cell? ⟨w.heap.size, 0, none⟩ = some (.int .i64 x.f0) := by rw [hW1]; go_simp
  have h1 : W1.cell? ⟨w.heap.size, 1, none⟩ = some (.int .i64 x.f1) := by rw [hW1]; go_simp
  have h2 : W1.cell? ⟨w.heap.size, 2, none⟩ = some (.int .i64 x.f2) := by rw [hW1]; go_simp
  have h3 : W1.cell? ⟨w.heap.size, 3, none⟩ = some (.int .i64 nv) := by rw [hW1]; go_simp
  have h4 : W1.cell? ⟨w.heap.size, 4, none⟩ = some (.int .i64 x.f4) := by rw [hW1]; go_simp
  have y0 : W1.cell? ⟨w.heap.size + 1, 0, none⟩ = some (.int .i64 0) := by rw [hW1]; go_simp
  have y1 : W1.cell? ⟨w.heap.size + 1, 1, none⟩ = some (.int .i64 0) := by rw [hW1]; go_simp
  have y2 : W1.cell? ⟨w.heap.size + 1, 2, none⟩ = some (.int .i64 0) := by rw [hW1]; go_simp
  have y3 : W1.cell? ⟨w.heap.size + 1, 3, none⟩ = some (.int .i64 0) := by rw [hW1]; go_simp
  have y4 : W1.cell? ⟨w.heap.size + 1, 4, none⟩ = some (.int .i64 0) := by rw [hW1]; go_simp
  have u0 : W1.frozen? ⟨w.heap.size + 1, 0, none⟩ = false := by rw [hW1]; go_simp
  have u1 : W1.frozen? ⟨w.heap.size + 1, 1, none⟩ = false := by rw [hW1]; go_simp
  have u2 : W1.frozen? ⟨w.heap.size + 1, 2, none⟩ = false := by rw [hW1]; go_simp
  have u3 : W1.frozen? ⟨w.heap.size + 1, 3, none⟩ = false := by rw [hW1]; go_simp
  have u4 : W1.frozen? ⟨w.heap.size + 1, 4, none⟩ = false := by rw [hW1]; go_simp
  have HB : Aside0 (Below w.heap.size w W1) := ⟨by rw [hW1]; repeat (first | exact Below.refl _ _ | apply below_alloc | apply pw_below_drewN | (refine below_set ?_ (by omega)))⟩
  rw [← hW1]
  clear hW1
  have n1 : w.heap.size + 1 ≠ w.heap.size := by omega
  go_region_held3 (fun w' => w'.cell? ⟨w.heap.size, 0, none⟩ = some (.int .i64 x.f0) ∧ w'.cell? ⟨w.heap.size, 1, none⟩ = some (.int .i64 x.f1) ∧ w'.cell? ⟨w.heap.size, 2, none⟩ = some (.int .i64 x.f2) ∧ w'.cell? ⟨w.heap.size, 3, none⟩ = some (.int .i64 nv) ∧ w'.cell? ⟨w.heap.size, 4, none⟩ = some (.int .i64 x.f4))
    ((repeat' refine And.intro ?_ ?_) <;> first
      | ((with_reducible refine far (far (far (far (far ?_ ?_) ?_) ?_) ?_) ?_) <;> first | exact blkne n1 | exact Sine.keepc (w := W1) qz16 qz4)
      | exact Sine.keepc (w := W1) qz16 qz4)
    (first
      | (go_at_call 57; (with_reducible refine (impl_IsLeg.calls _ _ _ _ _ _ _ HI.out).mono ?_); rintro e w' ⟨rfl, hw1⟩
         have HB3 : Aside0 (Below w.heap.size w w') := ⟨by (repeat (first | exact Below.refl _ _ | apply pw_below_drewN | apply below_drew1 | exact HB.out | refine below_step ?_ qz16)); done⟩
         have k0 := Sine.keepc (w := W1) y0 (show Below W1.heap.size W1 w' from by (repeat (first | exact Below.refl _ _ | apply pw_below_drewN | apply below_drew1 | exact HB.out | refine below_step ?_ qz16)); done)
         have z0 := keepz (w := W1) y0 u0 (show Below W1.heap.size W1 w' from by (repeat (first | exact Below.refl _ _ | apply pw_below_drewN | apply below_drew1 | exact HB.out | refine below_step ?_ qz16)); done)
         have k1 := Sine.keepc (w := W1) y1 (show Below W1.heap.size W1 w' from by (repeat (first | exact Below.refl _ _ | apply pw_below_drewN | apply below_drew1 | exact HB.out | refine below_step ?_ qz16)); done)
         have z1 := keepz (w := W1) y1 u1 (show Below W1.heap.size W1 w' from by (repeat (first | exact Below.refl _ _ | apply pw_below_drewN | apply below_drew1 | exact HB.out | refine below_step ?_ qz16)); done)
         have k2 := Sine.keepc (w := W1) y2 (show Below W1.heap.size W1 w' from by (repeat (first | exact Below.refl _ _ | apply pw_below_drewN | apply below_drew1 | exact HB.out | refine below_step ?_ qz16)); done)
         have z2 := keepz (w := W1) y2 u2 (show Below W1.heap.size W1 w' from by (repeat (first | exact Below.refl _ _ | apply pw_below_drewN | apply below_drew1 | exact HB.out | refine below_step ?_ qz16)); done)
         have k3 := Sine.keepc (w := W1) y3 (show Below W1.heap.size W1 w' from by (repeat (first | exact Below.refl _ _ | apply pw_below_drewN | apply below_drew1 | exact HB.out | refine below_step ?_ qz16)); done)
         have z3 := keepz (w := W1) y3 u3 (show Below W1.heap.size W1 w' from by (repeat (first | exact Below.refl _ _ | apply pw_below_drewN | apply below_drew1 | exact HB.out | refine below_step ?_ qz16)); done)
         have k4 := Sine.keepc (w := W1) y4 (show Below W1.heap.size W1 w' from by (repeat (first | exact Below.refl _ _ | apply pw_below_drewN | apply below_drew1 | exact HB.out | refine below_step ?_ qz16)); done)
         have z4 := keepz (w := W1) y4 u4 (show Below W1.heap.size W1 w' from by (repeat (first | exact Below.refl _ _ | apply pw_below_drewN | apply below_drew1 | exact HB.out | refine below_step ?_ qz16)); done)))
  go_wp2
  exact bodyPost_ret (v := .tuple #[.agg #[.int .i64 x.f0, .int .i64 x.f1, .int .i64 x.f2, .int .i64 nv, .int .i64 x.f4], .bool bb]) qz51 rfl ⟨rfl, by repeat (first | exact HB3.out | apply below_drew1 | (refine below_set ?_ (by omega)))⟩
theorem fixed2 (x : S45) (nv : Int) (hnv : nv = (wrap64 (-x.f4))) (w : World) :
    Calls Tryd.prog 70 #[.agg #[.int .i64 x.f0, .int .i64 x.f1, .int .i64 x.f2, .int .i64 x.f3, .int .i64 x.f4], .int .i64 2] w (FixPost ⟨x.f0, x.f1, x.f2, x.f3, nv⟩ (decide (Good ⟨x.f0, x.f1, x.f2, x.f3, nv⟩)) w) := by
  have HI := Aside0.mk (IsLeg_eq ⟨x.f0, x.f1, x.f2, x.f3, nv⟩)
  simp only at HI
  generalize decide (Good ⟨x.f0, x.f1, x.f2, x.f3, nv⟩) = bb at *
  go_enter Tryd.func70, Tryd.ntmps70
  go_wp2
  rw [← hnv]
  clear hnv
  obtain ⟨W1, hW1⟩ : ∃ W1, W1 = ((w.alloc (Obj.cells #[Value.int IntKind.i64 x.f0, Value.int IntKind.i64 x.f1, Value.int IntKind.i64 x.f2, Value.int IntKind.i64 x.f3, Value.int IntKind.i64 nv] 45)).alloc (Obj.cells #[Value.int IntKind.i64 0, Value.int IntKind.i64 0, Value.int IntKind.i64 0, Value.int IntKind.i64 0, Value.int IntKind.i64 0] 45)) := ⟨_, rfl⟩
  have h0 : W1.cell? ⟨w.heap.size, 0, none⟩ = some (.int .i64 x.f0) := by rw [hW1]; go_simp
  have h1 : W1.cell? ⟨w.heap.size, 1, none⟩ = some (.int .i64 x.f1) := by rw [hW1]; go_simp
  have h2 : W1.cell? ⟨w.heap.size, 2, none⟩ = some (.int .i64 x.f2) := by rw [hW1]; go_simp
  have h3 : W1.cell? ⟨w.heap.size, 3, none⟩ = some (.int .i64 x.f3) := by rw [hW1]; go_simp
  have h4 : W1.cell? ⟨w.heap.size, 4, none⟩ = some (.int .i64 nv) := by rw [hW1]; go_simp
  have y0 : W1.cell? ⟨w.heap.size + 1, 0, none⟩ = some (.int .i64 0) := by rw [hW1]; go_simp
  have y1 : W1.cell? ⟨w.heap.size + 1, 1, none⟩ = some (.int .i64 0) := by rw [hW1]; go_simp
  have y2 : W1.cell? ⟨w.heap.size + 1, 2, none⟩ = some (.int .i64 0) := by rw [hW1]; go_simp
  have y3 : W1.cell? ⟨w.heap.size + 1, 3, none⟩ = some (.int .i64 0) := by rw [hW1]; go_simp
  have y4 : W1.cell? ⟨w.heap.size + 1, 4, none⟩ = some (.int .i64 0) := by rw [hW1]; go_simp
  have u0 : W1.frozen? ⟨w.heap.size + 1, 0, none⟩ = false := by rw [hW1]; go_simp
  have u1 : W1.frozen? ⟨w.heap.size + 1, 1, none⟩ = false := by rw [hW1]; go_simp
  have u2 : W1.frozen? ⟨w.heap.size + 1, 2, none⟩ = false := by rw [hW1]; go_simp
  have u3 : W1.frozen? ⟨w.heap.size + 1, 3, none⟩ = false := by rw [hW1]; go_simp
  have u4 : W1.frozen? ⟨w.heap.size + 1, 4, none⟩ = false := by rw [hW1]; go_simp
  have HB : Aside0 (Below w.heap.size w W1) := ⟨by rw [hW1]; repeat (first | exact Below.refl _ _ | apply below_alloc | apply pw_below_drewN | (refine below_set ?_ (by omega)))⟩
  rw [← hW1]
  clear hW1
  have n1 : w.heap.size + 1 ≠ w.heap.size := by omega
  go_region_held3 (fun w' => w'.cell? ⟨w.heap.size, 0, none⟩ = some (.int .i64 x.f0) ∧ w'.cell? ⟨w.heap.size, 1, none⟩ = some (.int .i64 x.f1) ∧ w'.cell? ⟨w.heap.size, 2, none⟩ = some (.int .i64 x.f2) ∧ w'.cell? ⟨w.heap.size, 3, none⟩ = some (.int .i64 x.f3) ∧ w'.cell? ⟨w.heap.size, 4, none⟩ = some (.int .i64 nv))
    ((repeat' refine And.intro ?_ ?_) <;> first
      | ((with_reducible refine far (far (far (far (far ?_ ?_) ?_) ?_) ?_) ?_) <;> first | exact blkne n1 | exact Sine.keepc (w := W1) qz16 qz4)
      | exact Sine.keepc (w := W1) qz16 qz4)
    (first
      | (go_at_call 57; (with_reducible refine (impl_IsLeg.calls _ _ _ _ _ _ _ HI.out).mono ?_); rintro e w' ⟨rfl, hw1⟩
         have HB3 : Aside0 (Below w.heap.size w w') := ⟨by (repeat (first | exact Below.refl _ _ | apply pw_below_drewN | apply below_drew1 | exact HB.out | refine below_step ?_ qz16)); done⟩
         have k0 := Sine.keepc (w := W1) y0 (show Below W1.heap.size W1 w' from by (repeat (first | exact Below.refl _ _ | apply pw_below_drewN | apply below_drew1 | exact HB.out | refine below_step ?_ qz16)); done)
         have z0 := keepz (w := W1) y0 u0 (show Below W1.heap.size W1 w' from by (repeat (first | exact Below.refl _ _ | apply pw_below_drewN | apply below_drew1 | exact HB.out | refine below_step ?_ qz16)); done)
         have k1 := Sine.keepc (w := W1) y1 (show Below W1.heap.size W1 w' from by (repeat (first | exact Below.refl _ _ | apply pw_below_drewN | apply below_drew1 | exact HB.out | refine below_step ?_ qz16)); done)
         have z1 := keepz (w := W1) y1 u1 (show Below W1.heap.size W1 w' from by (repeat (first | exact Below.refl _ _ | apply pw_below_drewN | apply below_drew1 | exact HB.out | refine below_step ?_ qz16)); done)
         have k2 := Sine.keepc (w := W1) y2 (show Below W1.heap.size W1 w' from by (repeat (first | exact Below.refl _ _ | apply pw_below_drewN | apply below_drew1 | exact HB.out | refine below_step ?_ qz16)); done)
         have z2 := keepz (w := W1) y2 u2 (show Below W1.heap.size W1 w' from by (repeat (first | exact Below.refl _ _ | apply pw_below_drewN | apply below_drew1 | exact HB.out | refine below_step ?_ qz16)); done)
         have k3 := Sine.keepc (w := W1) y3 (show Below W1.heap.size W1 w' from by (repeat (first | exact Below.refl _ _ | apply pw_below_drewN | apply below_drew1 | exact HB.out | refine below_step ?_ qz16)); done)
         have z3 := keepz (w := W1) y3 u3 (show Below W1.heap.size W1 w' from by (repeat (first | exact Below.refl _ _ | apply pw_below_drewN | apply below_drew1 | exact HB.out | refine below_step ?_ qz16)); done)
         have k4 := Sine.keepc (w := W1) y4 (show Below W1.heap.size W1 w' from by (repeat (first | exact Below.refl _ _ | apply pw_below_drewN | apply below_drew1 | exact HB.out | refine below_step ?_ qz16)); done)
         have z4 := keepz (w := W1) y4 u4 (show Below W1.heap.size W1 w' from by (repeat (first | exact Below.refl _ _ | apply pw_below_drewN | apply below_drew1 | exact HB.out | refine below_step ?_ qz16)); done)))
  go_wp2
  exact bodyPost_ret (v := .tuple #[.agg #[.int .i64 x.f0, .int .i64 x.f1, .int .i64 x.f2, .int .i64 x.f3, .int .i64 nv], .bool bb]) qz51 rfl ⟨rfl, by repeat (first | exact HB3.out | apply below_drew1 | (refine below_set ?_ (by omega)))⟩
theorem fixed3 (x : S45) (nv : Int) (hnv : nv = (wrap64 (x.f2 + 100))) (w : World) :
    Calls Tryd.prog 70 #[.agg #[.int .i64 x.f0, .int .i64 x.f1, .int .i64 x.f2, .int .i64 x.f3, .int .i64 x.f4], .int .i64 3] w (FixPost ⟨x.f0, x.f1, nv, x.f3, x.f4⟩ (decide (Good ⟨x.f0, x.f1, nv, x.f3, x.f4⟩)) w) := by
  have HI := Aside0.mk (IsLeg_eq ⟨x.f0, x.f1, nv, x.f3, x.f4⟩)
  simp only at HI
  generalize decide (Good ⟨x.f0, x.f1, nv, x.f3, x.f4⟩) = bb at *
  go_enter Tryd.func70, Tryd.ntmps70
  go_wp2
  rw [← hnv]
  clear hnv
  obtain ⟨W1, hW1⟩ : ∃ W1, W1 = ((w.alloc (Obj.cells #[Value.int IntKind.i64 x.f0, Value.int IntKind.i64 x.f1, Value.int IntKind.i64 nv, Value.int IntKind.i64 x.f3, Value.int IntKind.i64 x.f4] 45)).alloc (Obj.cells #[Value.int IntKind.i64 0, Value.int IntKind.i64 0, Value.int IntKind.i64 0, Value.int IntKind.i64 0, Value.int IntKind.i64 0] 45)) := ⟨_, rfl⟩
  have h0 : W1.cell? ⟨w.heap.size, 0, none⟩ = some (.int .i64 x.f0) := by rw [hW1]; go_simp
  have h1 : W1.cell? ⟨w.heap.size, 1, none⟩ = some (.int .i64 x.f1) := by rw [hW1]; go_simp
  have h2 : W1.cell? ⟨w.heap.size, 2, none⟩ = some (.int .i64 nv) := by rw [hW1]; go_simp
  have h3 : W1.cell? ⟨w.heap.size, 3, none⟩ = some (.int .i64 x.f3) := by rw [hW1]; go_simp
  have h4 : W1.cell? ⟨w.heap.size, 4, none⟩ = some (.int .i64 x.f4) := by rw [hW1]; go_simp
  have y0 : W1.cell? ⟨w.heap.size + 1, 0, none⟩ = some (.int .i64 0) := by rw [hW1]; go_simp
  have y1 : W1.cell? ⟨w.heap.size + 1, 1, none⟩ = some (.int .i64 0) := by rw [hW1]; go_simp
  have y2 : W1.cell? ⟨w.heap.size + 1, 2, none⟩ = some (.int .i64 0) := by rw [hW1]; go_simp
  have y3 : W1.cell? ⟨w.heap.size + 1, 3, none⟩ = some (.int .i64 0) := by rw [hW1]; go_simp
  have y4 : W1.cell? ⟨w.heap.size + 1, 4, none⟩ = some (.int .i64 0) := by rw [hW1]; go_simp
  have u0 : W1.frozen? ⟨w.heap.size + 1, 0, none⟩ = false := by rw [hW1]; go_simp
  have u1 : W1.frozen? ⟨w.heap.size + 1, 1, none⟩ = false := by rw [hW1]; go_simp
  have u2 : W1.frozen? ⟨w.heap.size + 1, 2, none⟩ = false := by rw [hW1]; go_simp
  have u3 : W1.frozen? ⟨w.heap.size + 1, 3, none⟩ = false := by rw [hW1]; go_simp
  have u4 : W1.frozen? ⟨w.heap.size + 1, 4, none⟩ = false := by rw [hW1]; go_simp
  have HB : Aside0 (Below w.heap.size w W1) := ⟨by rw [hW1]; repeat (first | exact Below.refl _ _ | apply below_alloc | apply pw_below_drewN | (refine below_set ?_ (by omega)))⟩
  rw [← hW1]
  clear hW1
  have n1 : w.heap.size + 1 ≠ w.heap.size := by omega
  go_region_held3 (fun w' => w'.cell? ⟨w.heap.size, 0, none⟩ = some (.int .i64 x.f0) ∧ w'.cell? ⟨w.heap.size, 1, none⟩ = some (.int .i64 x.f1) ∧ w'.cell? ⟨w.heap.size, 2, none⟩ = some (.int .i64 nv) ∧ w'.cell? ⟨w.heap.size, 3, none⟩ = some (.int .i64 x.f3) ∧ w'.cell? ⟨w.heap.size, 4, none⟩ = some (.int .i64 x.f4))
    ((repeat' refine And.intro ?_ ?_) <;> first
      | ((with_reducible refine far (far (far (far (far ?_ ?_) ?_) ?_) ?_) ?_) <;> first | exact blkne n1 | exact Sine.keepc (w := W1) qz16 qz4)
      | exact Sine.keepc (w := W1) qz16 qz4)
    (first
      | (go_at_call 57; (with_reducible refine (impl_IsLeg.calls _ _ _ _ _ _ _ HI.out).mono ?_); rintro e w' ⟨rfl, hw1⟩
         have HB3 : Aside0 (Below w.heap.size w w') := ⟨by (repeat (first | exact Below.refl _ _ | apply pw_below_drewN | apply below_drew1 | exact HB.out | refine below_step ?_ qz16)); done⟩
         have k0 := Sine.keepc (w := W1) y0 (show Below W1.heap.size W1 w' from by (repeat (first | exact Below.refl _ _ | apply pw_below_drewN | apply below_drew1 | exact HB.out | refine below_step ?_ qz16)); done)
         have z0 := keepz (w := W1) y0 u0 (show Below W1.heap.size W1 w' from by (repeat (first | exact Below.refl _ _ | apply pw_below_drewN | apply below_drew1 | exact HB.out | refine below_step ?_ qz16)); done)
         have k1 := Sine.keepc (w := W1) y1 (show Below W1.heap.size W1 w' from by (repeat (first | exact Below.refl _ _ | apply pw_below_drewN | apply below_drew1 | exact HB.out | refine below_step ?_ qz16)); done)
         have z1 := keepz (w := W1) y1 u1 (show Below W1.heap.size W1 w' from by (repeat (first | exact Below.refl _ _ | apply pw_below_drewN | apply below_drew1 | exact HB.out | refine below_step ?_ qz16)); done)
         have k2 := Sine.keepc (w := W1) y2 (show Below W1.heap.size W1 w' from by (repeat (first | exact Below.refl _ _ | apply pw_below_drewN | apply below_drew1 | exact HB.out | refine below_step ?_ qz16)); done)
         have z2 := keepz (w := W1) y2 u2 (show Below W1.heap.size W1 w' from by (repeat (first | exact Below.refl _ _ | apply pw_below_drewN | apply below_drew1 | exact HB.out | refine below_step ?_ qz16)); done)
         have k3 := Sine.keepc (w := W1) y3 (show Below W1.heap.size W1 w' from by (repeat (first | exact Below.refl _ _ | apply pw_below_drewN | apply below_drew1 | exact HB.out | refine below_step ?_ qz16)); done)
         have z3 := keepz (w := W1) y3 u3 (show Below W1.heap.size W1 w' from by (repeat (first | exact Below.refl _ _ | apply pw_below_drewN | apply below_drew1 | exact HB.out | refine below_step ?_ qz16)); done)
         have k4 := Sine.keepc (w := W1) y4 (show Below W1.heap.size W1 w' from by (repeat (first | exact Below.refl _ _ | apply pw_below_drewN | apply below_drew1 | exact HB.out | refine below_step ?_ qz16)); done)
         have z4 := keepz (w := W1) y4 u4 (show Below W1.heap.size W1 w' from by (repeat (first | exact Below.refl _ _ | apply pw_below_drewN | apply below_drew1 | exact HB.out | refine below_step ?_ qz16)); done)))
  go_wp2
  exact bodyPost_ret (v := .tuple #[.agg #[.int .i64 x.f0, .int .i64 x.f1, .int .i64 nv, .int .i64 x.f3, .int .i64 x.f4], .bool bb]) qz51 rfl ⟨rfl, by repeat (first | exact HB3.out | apply below_drew1 | (refine below_set ?_ (by omega)))⟩
theorem fixed4 (x : S45) (nv : Int) (hnv : nv = (wrap64 (x.f2 - 100))) (w : World) :
    Calls Tryd.prog 70 #[.agg #[.int .i64 x.f0, .int .i64 x.f1, .int .i64 x.f2, .int .i64 x.f3, .int .i64 x.f4], .int .i64 4] w (FixPost ⟨x.f0, x.f1, nv, x.f3, x.f4⟩ (decide (Good ⟨x.f0, x.f1, nv, x.f3, x.f4⟩)) w) := by
  have HI := Aside0.mk (IsLeg_eq ⟨x.f0, x.f1, nv, x.f3, x.f4⟩)
  simp only at HI
  generalize decide (Good ⟨x.f0, x.f1, nv, x.f3, x.f4⟩) = bb at *
  go_enter Tryd.func70, Tryd.ntmps70
  go_wp2
  rw [← hnv]
  clear hnv
  obtain ⟨W1, hW1⟩ : ∃ W1, W1 = ((w.alloc (Obj.cells #[Value.int IntKind.i64 x.f0, Value.int IntKind.i64 x.f1, Value.int IntKind.i64 nv, Value.int IntKind.i64 x.f3, Value.int IntKind.i64 x.f4] 45)).alloc (Obj.cells #[Value.int IntKind.i64 0, Value.int IntKind.i64 0, Value.int IntKind.i64 0, Value.int IntKind.i64 0, Value.int IntKind.i64 0] 45)) := ⟨_, rfl⟩
  have h0 : W1.cell? ⟨w.heap.size, 0, none⟩ = some (.int .i64 x.f0) := by rw [hW1]; go_simp
  have h1 : W1.cell? ⟨w.heap.size, 1, none⟩ = some (.int .i64 x.f1) := by rw [hW1]; go_simp
  have h2 : W1.cell? ⟨w.heap.size, 2, none⟩ = some (.int .i64 nv) := by rw [hW1]; go_simp
  have h3 : W1.cell? ⟨w.heap.size, 3, none⟩ = some (.int .i64 x.f3) := by rw [hW1]; go_simp
  have h4 : W1.cell? ⟨w.heap.size, 4, none⟩ = some (.int .i64 x.f4) := by rw [hW1]; go_simp
  have y0 : W1.cell? ⟨w.heap.size + 1, 0, none⟩ = some (.int .i64 0) := by rw [hW1]; go_simp
  have y1 : W1.cell? ⟨w.heap.size + 1, 1, none⟩ = some (.int .i64 0) := by rw [hW1]; go_simp
  have y2 : W1.cell? ⟨w.heap.size + 1, 2, none⟩ = some (.int .i64 0) := by rw [hW1]; go_simp
  have y3 : W1.cell? ⟨w.heap.size + 1, 3, none⟩ = some (.int .i64 0) := by rw [hW1]; go_simp
  have y4 : W1.cell? ⟨w.heap.size + 1, 4, none⟩ = some (.int .i64 0) := by rw [hW1]; go_simp
  have u0 : W1.frozen? ⟨w.heap.size + 1, 0, none⟩ = false := by rw [hW1]; go_simp
  have u1 : W1.frozen? ⟨w.heap.size + 1, 1, none⟩ = false := by rw [hW1]; go_simp
  have u2 : W1.frozen? ⟨w.heap.size + 1, 2, none⟩ = false := by rw [hW1]; go_simp
  have u3 : W1.frozen? ⟨w.heap.size + 1, 3, none⟩ = false := by rw [hW1]; go_simp
  have u4 : W1.frozen? ⟨w.heap.size + 1, 4, none⟩ = false := by rw [hW1]; go_simp
  have HB : Aside0 (Below w.heap.size w W1) := ⟨by rw [hW1]; repeat (first | exact Below.refl _ _ | apply below_alloc | apply pw_below_drewN | (refine below_set ?_ (by omega)))⟩
  rw [← hW1]
  clear hW1
  have n1 : w.heap.size + 1 ≠ w.heap.size := by omega
  go_region_held3 (fun w' => w'.cell? ⟨w.heap.size, 0, none⟩ = some (.int .i64 x.f0) ∧ w'.cell? ⟨w.heap.size, 1, none⟩ = some (.int .i64 x.f1) ∧ w'.cell? ⟨w.heap.size, 2, none⟩ = some (.int .i64 nv) ∧ w'.cell? ⟨w.heap.size, 3, none⟩ = some (.int .i64 x.f3) ∧ w'.cell? ⟨w.heap.size, 4, none⟩ = some (.int .i64 x.f4))
    ((repeat' refine And.intro ?_ ?_) <;> first
      | ((with_reducible refine far (far (far (far (far ?_ ?_) ?_) ?_) ?_) ?_) <;> first | exact blkne n1 | exact Sine.keepc (w := W1) qz16 qz4)
      | exact Sine.keepc (w := W1) qz16 qz4)
    (first
      | (go_at_call 57; (with_reducible refine (impl_IsLeg.calls _ _ _ _ _ _ _ HI.out).mono ?_); rintro e w' ⟨rfl, hw1⟩
         have HB3 : Aside0 (Below w.heap.size w w') := ⟨by (repeat (first | exact Below.refl _ _ | apply pw_below_drewN | apply below_drew1 | exact HB.out | refine below_step ?_ qz16)); done⟩
         have k0 := Sine.keepc (w := W1) y0 (show Below W1.heap.size W1 w' from by (repeat (first | exact Below.refl _ _ | apply pw_below_drewN | apply below_drew1 | exact HB.out | refine below_step ?_ qz16)); done)
         have z0 := keepz (w := W1) y0 u0 (show Below W1.heap.size W1 w' from by (repeat (first | exact Below.refl _ _ | apply pw_below_drewN | apply below_drew1 | exact HB.out | refine below_step ?_ qz16)); done)
         have k1 := Sine.keepc (w := W1) y1 (show Below W1.heap.size W1 w' from by (repeat (first | exact Below.refl _ _ | apply pw_below_drewN | apply below_drew1 | exact HB.out | refine below_step ?_ qz16)); done)
         have z1 := keepz (w := W1) y1 u1 (show Below W1.heap.size W1 w' from by (repeat (first | exact Below.refl _ _ | apply pw_below_drewN | apply below_drew1 | exact HB.out | refine below_step ?_ qz16)); done)
         have k2 := Sine.keepc (w := W1) y2 (show Below W1.heap.size W1 w' from by (repeat (first | exact Below.refl _ _ | apply pw_below_drewN | apply below_drew1 | exact HB.out | refine below_step ?_ qz16)); done)
         have z2 := keepz (w := W1) y2 u2 (show Below W1.heap.size W1 w' from by (repeat (first | exact Below.refl _ _ | apply pw_below_drewN | apply below_drew1 | exact HB.out | refine below_step ?_ qz16)); done)
         have k3 := Sine.keepc (w := W1) y3 (show Below W1.heap.size W1 w' from by (repeat (first | exact Below.refl _ _ | apply pw_below_drewN | apply below_drew1 | exact HB.out | refine below_step ?_ qz16)); done)
         have z3 := keepz (w := W1) y3 u3 (show Below W1.heap.size W1 w' from by (repeat (first | exact Below.refl _ _ | apply pw_below_drewN | apply below_drew1 | exact HB.out | refine below_step ?_ qz16)); done)
         have k4 := Sine.keepc (w := W1) y4 (show Below W1.heap.size W1 w' from by (repeat (first | exact Below.refl _ _ | apply pw_below_drewN | apply below_drew1 | exact HB.out | refine below_step ?_ qz16)); done)
         have z4 := keepz (w := W1) y4 u4 (show Below W1.heap.size W1 w' from by (repeat (first | exact Below.refl _ _ | apply pw_below_drewN | apply below_drew1 | exact HB.out | refine below_step ?_ qz16)); done)))
  go_wp2
  exact bodyPost_ret (v := .tuple #[.agg #[.int .i64 x.f0, .int .i64 x.f1, .int .i64 nv, .int .i64 x.f3, .int .i64 x.f4], .bool bb]) qz51 rfl ⟨rfl, by repeat (first | exact HB3.out | apply below_drew1 | (refine below_set ?_ (by omega)))⟩
theorem fixed0 (x : S45) (fix : Int) (hf : ¬ (1 ≤ fix ∧ fix ≤ 4)) (w : World) :
    Calls Tryd.prog 70 #[.agg #[.int .i64 x.f0, .int .i64 x.f1, .int .i64 x.f2, .int .i64 x.f3, .int .i64 x.f4], .int .i64 fix] w (FixPost ⟨0, 0, 0, 0, 0⟩ false w) := by
  have h1 : (fix == 1) = false := by rw [beq_eq_false_iff_ne]; omega
  have h2 : (fix == 2) = false := by rw [beq_eq_false_iff_ne]; omega
  have h3 : (fix == 3) = false := by rw [beq_eq_false_iff_ne]; omega
  have h4 : (fix == 4) = false := by rw [beq_eq_false_iff_ne]; omega
  clear hf
  go_enter Tryd.func70, Tryd.ntmps70
  go_wp2
  exact bodyPost_ret (v := .tuple #[.agg #[.int .i64 0, .int .i64 0, .int .i64 0, .int .i64 0, .int .i64 0], .bool false]) (by simp [results, Tryd.results70, go_sem]) rfl ⟨rfl, by repeat (first | exact Below.refl _ _ | apply below_alloc | apply below_drew1 | (refine below_set ?_ (by omega)))⟩
theorem fixedW (x : S45) (fix : Int) (w : World) :
    Calls Tryd.prog 70 #[.agg #[.int .i64 x.f0, .int .i64 x.f1, .int .i64 x.f2, .int .i64 x.f3, .int .i64 x.f4], .int .i64 fix] w (FixPost (fixedM x fix).1 (fixedM x fix).2 w) := by
  by_cases hf : 1 ≤ fix ∧ fix ≤ 4
  · unfold fixedM
    rw [if_pos hf]
    have hc : fix = 1 ∨ fix = 2 ∨ fix = 3 ∨ fix = 4 := by omega
    rcases hc with rfl | rfl | rfl | rfl
    · exact fixed1 x _ rfl w
    · exact fixed2 x _ rfl w
    · exact fixed3 x _ rfl w
    · exact fixed4 x _ rfl w
  · unfold fixedM
    rw [if_neg hf]
    exact fixed0 x fix hf w
theorem eqNil (la : Addr) (n c : Nat) (w : World) : (binOp .eql 26 (.slice (some la) n c) (.slice none 0 0)).run Tryd.prog w = .ok (.bool false) w := by
  have h : ∀ d : Nat, (Op.equalIn (d + 1) 26 (.slice (some la) n c) (.slice none 0 0)).run Tryd.prog w = .ok false w := fun d => by simp [Op.equalIn, run_underlying Tryd.underlying26]
  simp [binOp, Op.equal, Op.maxDepth, h]
attribute [local go_sem] eqNil
theorem cloneW (la : Addr) (c : Nat) (ls : L) (w : World) (hr0 : Kd.C k45 w (some la) ls.length ls) (hc : ls.length ≤ c) (hn : ls.length ≤ 12) :
    Calls Tryd.prog 51 #[.slice (some la) ls.length c] w fun e w' => ∃ v, e = .returned v ∧ Kd.R k45 45 w' w.heap.size (fun b => w.heap.size ≤ b) v ls ∧ Below w.heap.size w w' := by
  have HR0 := Aside0.mk hr0
  have HB := Aside0.mk (Below.refl w.heap.size w)
  clear hr0
  go_enter Tryd.func51, Tryd.ntmps51
  go_wp2_with (first
    | ((with_reducible refine gate_dst (N := 5) rfl ?_); refine Kd.R_lit k45 _ 45 ?hg (N := 5) ?hd (xs := ([] : List (S45))) (inner := []) (ok := fun b => w.heap.size ≤ b) (okp := fun b => w.heap.size ≤ b) ?hr ?hp (fun _ hk => hk) (Nat.le_refl _) (Below.refl _ _) (Nat.le_refl _) (by simp) ?_; (case hd => rfl); (case hg => rfl); (case hr => first | (go_simp; done) | (go_simp; rfl)); (case hp => exact (Reps.none _ _)); intro v1 w1 ho1 hb hg_ hnew_; clear hg_ hnew_; have HO := Aside0.mk ho1; replace HB := Aside0.mk (below_step HB.out hb); clear hb ho1)
    | ((with_reducible refine gate_builtin (b := .append) (xs := #[.tmp 5, .tmp 6]) rfl ?_); at_builtin; refine Kd.R_append_rows k45 (w0 := w) w.heap.size rfl (.tmp 5) (.tmp 6) 26 45 (.agg #[(.int .i64 0), (.int .i64 0), (.int .i64 0), (.int .i64 0), (.int .i64 0)]) 40 rfl Tryd.underlying26 info45 rfl (by decide) (by omega) v1 [] ls _ _ _ (fun b => w.heap.size ≤ b) (fun _ => False) rfl rfl ?aO ?aR (fun _ _ h => h) (fun _ h => h.elim) ?aF ?aB ?aS ?aL ?_; (case aR => exact (Kd.C_below HR0.out HB.out)); (case aB => exact HB.out); (case aF => intro b hb; have := below_size HB.out; omega); (case aO => exact HO.out); (case aS => exact (below_size HB.out)); (case aL => simp; omega); intro v2 w2 ho hb hg hat; have HP1 := Aside0.mk ho; have HP2 := Aside0.mk hb; clear ho hb hg hat))
  go_ret
  exact ⟨_, rfl, HP1.out, HP2.out⟩
theorem fixLegNo (A : Option Addr) (c : Nat) (ls : L) (k : Nat) (fix : Int) (w : World) (hr0 : Kd.C k45 w A ls.length ls) (hk : k < ls.length) (hno : (fixedM (leg ls k) fix).2 = false) :
    Calls Tryd.prog 52 #[.slice A ls.length c, .int .i64 (k : Int), .int .i64 fix] w fun e w' => e = .returned (.tuple #[.slice none 0 0, .bool false]) ∧ Below w.heap.size w w' := by
  obtain ⟨la, e2, h0, h1, h2, h3, h4⟩ := at_T45 hr0 (k : Int) (by omega) (by omega)
  cases e2
  rw [Int.toNat_natCast, show rd_T45 ls (k : Int) = leg ls k from rfl] at h0 h1 h2 h3 h4
  have k0 : (0 : Int) ≤ (k : Int) := by omega
  have k1 : (k : Int) < (ls.length : Int) := by omega
  have HF := Aside0.mk (fun W => fixedW (leg ls k) fix W)
  rw [hno] at HF
  have HB := Aside0.mk (Below.refl w.heap.size w)
  clear hr0 hno
  generalize (fixedM (leg ls k) fix).1 = y at *
  generalize leg ls (k : Int) = x at *
  go_enter Tryd.func52, Tryd.ntmps52
  go_wp2_with (go_at_call 70; have hq := HF.out w; (with_reducible refine hq.mono ?_); clear hq; rintro e w1 ⟨rfl, hw⟩; replace HB := Aside0.mk hw; clear hw)
  exact bodyPost_ret (v := .tuple #[.slice none 0 0, .bool false]) (by simp [results, Tryd.results52, go_sem]) rfl ⟨rfl, by repeat (first | exact HB.out | apply below_alloc | apply below_drew1 | (refine below_set ?_ (by have := below_size HB.out; omega)))⟩
theorem fixLegYes (A : Option Addr) (c : Nat) (ls : L) (k : Nat) (fix : Int) (w : World) (hr0 : Kd.C k45 w A ls.length ls) (hc : ls.length ≤ c) (hn : ls.length ≤ 12) (hk : k < ls.length) (hyes : (fixedM (leg ls k) fix).2 = true) :
    Calls Tryd.prog 52 #[.slice A ls.length c, .int .i64 (k : Int), .int .i64 fix] w fun e w' => ∃ v, e = .returned (.tuple #[v, .bool true]) ∧ Kd.R k45 45 w' w.heap.size (fun _ => True) v (ls.set k (fixedM (leg ls k) fix).1) ∧ Below w.heap.size w w' := by
  obtain ⟨la, e2, h0, h1, h2, h3, h4⟩ := at_T45 hr0 (k : Int) (by omega) (by omega)
  cases e2
  rw [Int.toNat_natCast, show rd_T45 ls (k : Int) = leg ls k from rfl] at h0 h1 h2 h3 h4
  have k0 : (0 : Int) ≤ (k : Int) := by omega
  have k1 : (k : Int) < (ls.length : Int) := by omega
  have HF := Aside0.mk (fun W => fixedW (leg ls k) fix W)
  rw [hyes] at HF
  have HR := Aside0.mk hr0
  have HB := Aside0.mk (Below.refl w.heap.size w)
  clear hr0 hyes
  generalize (fixedM (leg ls k) fix).1 = y at *
  generalize leg ls (k : Int) = x at *
  go_enter Tryd.func52, Tryd.ntmps52
  go_wp2_with (first
    | (go_at_call 70; have hq := HF.out w; (with_reducible refine hq.mono ?_); clear hq; rintro e w1 ⟨rfl, hw⟩; replace HB := Aside0.mk hw; clear hw)
    | (go_at_call 51
       have HB2 := Aside0.mk (below_alloc HB.out (Obj.cells #[Value.int IntKind.i64 y.f0, Value.int IntKind.i64 y.f1, Value.int IntKind.i64 y.f2, Value.int IntKind.i64 y.f3, Value.int IntKind.i64 y.f4] 45))
       have c0 : (w1.alloc (Obj.cells #[Value.int IntKind.i64 y.f0, Value.int IntKind.i64 y.f1, Value.int IntKind.i64 y.f2, Value.int IntKind.i64 y.f3, Value.int IntKind.i64 y.f4] 45)).cell? ⟨w1.heap.size, 0, none⟩ = some (.int .i64 y.f0) := by go_simp
       have c1 : (w1.alloc (Obj.cells #[Value.int IntKind.i64 y.f0, Value.int IntKind.i64 y.f1, Value.int IntKind.i64 y.f2, Value.int IntKind.i64 y.f3, Value.int IntKind.i64 y.f4] 45)).cell? ⟨w1.heap.size, 1, none⟩ = some (.int .i64 y.f1) := by go_simp
       have c2 : (w1.alloc (Obj.cells #[Value.int IntKind.i64 y.f0, Value.int IntKind.i64 y.f1, Value.int IntKind.i64 y.f2, Value.int IntKind.i64 y.f3, Value.int IntKind.i64 y.f4] 45)).cell? ⟨w1.heap.size, 2, none⟩ = some (.int .i64 y.f2) := by go_simp
       have c3 : (w1.alloc (Obj.cells #[Value.int IntKind.i64 y.f0, Value.int IntKind.i64 y.f1, Value.int IntKind.i64 y.f2, Value.int IntKind.i64 y.f3, Value.int IntKind.i64 y.f4] 45)).cell? ⟨w1.heap.size, 3, none⟩ = some (.int .i64 y.f3) := by go_simp
       have c4 : (w1.alloc (Obj.cells #[Value.int IntKind.i64 y.f0, Value.int IntKind.i64 y.f1, Value.int IntKind.i64 y.f2, Value.int IntKind.i64 y.f3, Value.int IntKind.i64 y.f4] 45)).cell? ⟨w1.heap.size, 4, none⟩ = some (.int .i64 y.f4) := by go_simp
       have hsz := below_size HB2.out
       have hq := cloneW la c ls (w1.alloc (Obj.cells #[Value.int IntKind.i64 y.f0, Value.int IntKind.i64 y.f1, Value.int IntKind.i64 y.f2, Value.int IntKind.i64 y.f3, Value.int IntKind.i64 y.f4] 45)) (Kd.C_below HR.out HB2.out) hc hn
       (with_reducible refine hq.mono ?_); clear hq; rintro e w3 ⟨v, rfl, hv, hw⟩
       replace c0 := Sine.keepc c0 hw
       replace c1 := Sine.keepc c1 hw
       replace c2 := Sine.keepc c2 hw
       replace c3 := Sine.keepc c3 hw
       replace c4 := Sine.keepc c4 hw
       have HO := Aside0.mk (Kd.R_lower (Kd.R_mono hv (fun _ _ => trivial) (ok' := fun _ => True)) hsz)
       replace HB := Aside0.mk (below_step HB2.out hw)
       clear HB2 hv hw
       obtain ⟨gg, cc, eo, gb, gl, cl, HG8⟩ := Kd.R_form HO.out (by omega)
       subst eo
       obtain ⟨ce, hcl, hM, hcc, hfr⟩ := Kd.R_elem HO.out z45 (k : Int) k0 k1
       obtain rfl := k45_openM hM
       have HP := Aside0.mk (Kd.R_seg HO.out (k : Int) k0 k1 (seg := [.int .i64 y.f0, .int .i64 y.f1, .int .i64 y.f2, .int .i64 y.f3, .int .i64 y.f4]) (j := 0) hcl hcc (show 5 ≤ 5 from by decide) (x' := y) (k45_mkM _ _ _ y) (fun _ hk => hk))
       have x0 := hcc 0 _ rfl
       have x1 := hcc 1 _ rfl
       have x2 := hcc 2 _ rfl
       have x3 := hcc 3 _ rfl
       have x4 := hcc 4 _ rfl
       have f0 := hfr 0
       have f1 := hfr 1
       have f2 := hfr 2
       have f3 := hfr 3
       have f4 := hfr 4
       (try simp only [show (k45).sz = 5 from rfl, Nat.mul_one, Nat.add_zero, Int.toNat_natCast] at x0 x1 x2 x3 x4 f0 f1 f2 f3 f4)))
  exact bodyPost_ret (v := .tuple #[.slice (some ⟨gg, 0, none⟩) ls.length cc, .bool true]) (by simp [results, Tryd.results52, go_sem]) rfl ⟨_, rfl, by have h := HP.out.1; rw [Int.toNat_natCast, Nat.add_zero] at h; exact h, by repeat (first | exact HB.out | (refine below_set ?_ (by omega)))⟩
end Go.Proofs.YtpojnobgijoddaaDoor.Net
namespace Go.Proofs.YtpojnobgijoddaaDoor.Net
open Go.RowKit YtpojnobgijoddaaDoorW.PrintWords Plain A
theorem specRest_eq (x : S45) (h : Good x) (axis : Int) (h0 : 0 ≤ axis) (h2 : axis ≤ 2) (cs : List Int) (h8 : cs.length = 8) (den : Int) : spec_l9Rest.f x.f0 x.f1 x.f2 x.f3 x.f4 axis cs den = some (resM x axis cs den) := by
  unfold spec_l9Rest.f
  rw [measure_eq x h axis h0 h2, Option.bind_some]
  obtain ⟨⟨a0, a8⟩, ⟨d0, d8⟩, _⟩ := h
  rw [if_pos (by omega), if_pos (by omega), if_pos (by omega), if_pos (by omega)]
  rfl
theorem specRest {ls : L} (hn : ls.length ≤ 12) (hg : ∀ x ∈ ls, Good x) (ax : Int) (h0 : 0 ≤ ax) (h2 : ax ≤ 2) {i : Int} (hi : i ∈ usedL ls) : spec_l9Rest.f (rd_T45 ls i).f0 (rd_T45 ls i).f1 (rd_T45 ls i).f2 (rd_T45 ls i).f3 (rd_T45 ls i).f4 ax (coL ls ax) (treesM ls) = some (nT ls ax i) := by
  have hr := usedL_range ls i hi
  obtain ⟨m, rfl⟩ := Int.eq_ofNat_of_zero_le hr.1
  have hx : Good (leg ls (m : Int)) := hg _ (leg_mem (by omega))
  have h := specRest_eq (leg ls (m : Int)) hx ax h0 h2 (coL ls ax) (coL_len ls ax) (treesM ls)
  rw [res_all hn hg ax hi] at h
  exact h
theorem squares_loop {ls : L} (hn : ls.length ≤ 12) (hg : ∀ x ∈ ls, Good x) (ax : Int) (h0 : 0 ≤ ax) (h2 : ax ≤ 2) : ∀ (d j : Nat), j + d = (usedL ls).length →
    Ev (fun k => spec_l9Squares.l0 k ls ax (coL ls ax) (treesM ls) (sqTo (resL ls ax) j) (usedL ls) (j : Int)) (redN (SA ls ax) (treesM ls * treesM ls), redD (SA ls ax) (treesM ls * treesM ls)) := by
  have hul := usedL_len ls
  have hrl : (resL ls ax).length = (usedL ls).length := by unfold resL; rw [List.length_map]
  intro d
  induction d with
  | zero =>
    intro j hj
    have ht1 := trees_pos hn hg
    have ht2 := trees_le hn hg
    have hs := SA_bound hn hg ax
    have hsq : treesM ls * treesM ls ≤ 6561 * 6561 := Int.mul_le_mul ht2 ht2 (by omega) (by omega)
    have hsp : 0 < treesM ls * treesM ls := Int.mul_pos (by omega) (by omega)
    have e : sqTo (resL ls ax) j = SA ls ax := by rw [← sqTo_all hn hg ax, hrl, show j = (usedL ls).length by omega]
    rw [e]
    refine Ev.step (f := fun k => (spec_l9Reduce.f k (SA ls ax) (wrap64 (treesM ls * treesM ls))).bind fun bt => some (bt.1, bt.2)) (fun k => ?_) ?_
    · simp only [spec_l9Squares.l0]
      rw [if_neg (by omega)]
    · rw [w64 (by omega) (by omega)]
      exact Ev.bind (l9Reduce_ev (SA ls ax) (treesM ls * treesM ls) hsp (by omega) (by omega) (by omega)) (Ev.now _)
  | succ d ih =>
    intro j hj
    have hlt : j < (usedL ls).length := by omega
    have h := ih (j + 1) (by omega)
    have hm : rd (usedL ls) (j : Int) ∈ usedL ls := by rw [rd_get _ j hlt]; exact List.getElem_mem hlt
    have hr := usedL_range ls _ hm
    have hs := specRest hn hg ax h0 h2 hm
    have e : sqTo (resL ls ax) (j + 1) = wrap64 (sqTo (resL ls ax) j + wrap64 (nT ls ax (rd (usedL ls) (j : Int)) * nT ls ax (rd (usedL ls) (j : Int)))) := by
      rw [sqTo_step _ j (by omega)]
      have e2 : rd (resL ls ax) (j : Int) = nT ls ax (rd (usedL ls) (j : Int)) := by
        rw [rd_get _ j (by omega), rd_get _ j hlt]
        unfold resL
        rw [List.getElem_map]
      rw [e2]
    refine Ev.step (fun k => ?_) h
    simp only [spec_l9Squares.l0]
    rw [if_pos (by omega), if_pos (by omega), if_pos hr.1, if_pos hr.2, hs, Option.bind_some, e, w64 (x := (j : Int) + 1) (by omega) (by omega)]
    rfl
theorem l9Squares_ev {ls : L} (hv : legsB ls = true) (ax : Int) (h0 : 0 ≤ ax) (h2 : ax ≤ 2) : Ev (fun k => spec_l9Squares.f k ls ax) (redN (SA ls ax) (treesM ls * treesM ls), redD (SA ls ax) (treesM ls * treesM ls)) := by
  have h' := legsB_iff.mp hv
  have ht : spec_l9Trees.f ls = some (treesM ls) := by unfold spec_l9Trees.f; rw [if_pos hv]
  have ha : spec_l9Adjust.f ls ax = some (coL ls ax) := by unfold spec_l9Adjust.f; rw [if_pos ⟨hv, h0, h2⟩]
  exact Ev.bindc ha (Ev.bindc ht (Ev.bind (l9Legs_ev h'.2 h'.1) (squares_loop h'.2 h'.1 ax h0 h2 (usedL ls).length 0 (by omega))))
end Go.Proofs.YtpojnobgijoddaaDoor.Net
namespace Go.Proofs.YtpojnobgijoddaaDoor.Net
open Go.RowKit YtpojnobgijoddaaDoorW.PrintWords Plain A Frac
theorem common_ev (a b : Int) (ha : 0 ≤ a) (hb : 0 < b) : Ev (fun k => spec_l10Common.f k a b) (Int.gcd a b : Int) := by
  obtain ⟨z, hz, hs, K, hK⟩ := gcd_loop (g := spec_l10Common.l0) (fin := fun a => a) (fun k a => by
    unfold spec_l10Common.l0; rw [if_pos rfl]) (fun k a b hb => by
    conv => lhs; unfold spec_l10Common.l0
    rw [if_neg hb]) (b.natAbs + 1) a b (by omega)
  have h0 := hs ha (by omega)
  rw [show ((Int.gcd a b : Nat) : Int) = z by omega]
  exact ⟨K, fun k hk => hK k hk⟩
theorem strain_step {ls : L} (hv : legsB ls = true) (ax : Int) (h0 : 0 ≤ ax) (h2 : ax ≤ 2) {num den N : Int} (hR : Red num den N (treesM ls)) (hN : 0 ≤ N) (hN2 : N ≤ 59049000000) :
    ∃ num' den', Red num' den' (N + AM ls ax) (treesM ls) ∧ ∀ v, Ev (fun k => spec_l10Strain.l0 k ls num' den' (ax + 1)) v → Ev (fun k => spec_l10Strain.l0 k ls num den ax) v := by
  have h' := legsB_iff.mp hv
  have ht := trees_pos h'.2 h'.1
  have ht2 := trees_le h'.2 h'.1
  have hsp : 0 < treesM ls * treesM ls := Int.mul_pos (by omega) (by omega)
  have hq := squares_red h'.2 h'.1 (red_red (n := SA ls ax) hsp)
  have hsq := l9Squares_ev hv ax h0 h2
  generalize redN (SA ls ax) (treesM ls * treesM ls) = a at *
  generalize redD (SA ls ax) (treesM ls * treesM ls) = b at *
  have hA := AM_bound h'.2 h'.1 ax
  have hb1 := Red.le (by omega) hA.1 hq
  have hd1 := Red.le (by omega) hN hR
  have hd := hR.1
  have hb := hq.1
  have hg := gcd_small (n := den) hb (by omega)
  have hcm := common_ev den b (by omega) hb
  generalize hgg : Int.gcd den b = g at *
  have e1 : den.tdiv (g : Int) * (g : Int) = den := Int.tdiv_mul_cancel (by rw [← hgg]; exact Int.gcd_dvd_left ..)
  have e2 : b.tdiv (g : Int) * (g : Int) = b := Int.tdiv_mul_cancel (by rw [← hgg]; exact Int.gcd_dvd_right ..)
  have hsum := Red.sum hd hb (g := (g : Int)) (by omega) hR.2.2 hq.2.2 e1 e2
  have q1 := tdiv_small den g (B := 6561) (by omega) (by omega)
  have q2 := tdiv_small b g (B := 6561) (by omega) (by omega)
  have p1 : 0 ≤ den.tdiv (g : Int) := Int.tdiv_nonneg (by omega) (by omega)
  have p2 : 0 ≤ b.tdiv (g : Int) := Int.tdiv_nonneg (by omega) (by omega)
  have w1 := wtdiv den g (by omega) (by omega)
  have w2 := wtdiv b g (by omega) (by omega)
  have hdp : 0 < den.tdiv (g : Int) := by
    rcases Int.lt_or_le 0 (den.tdiv (g : Int)) with c | c
    · exact c
    · exfalso
      rw [show den.tdiv (g : Int) = 0 by omega] at e1
      omega
  generalize hu : den.tdiv (g : Int) = u at *
  generalize htt : b.tdiv (g : Int) = t at *
  have m1 : num * t ≤ 59049000000 * 6561 := Int.mul_le_mul (by omega) (by omega) (by omega) (by omega)
  have m2 : a * u ≤ 59049000000 * 6561 := Int.mul_le_mul (by omega) (by omega) (by omega) (by omega)
  have m3 : u * b ≤ 6561 * 6561 := Int.mul_le_mul (by omega) (by omega) (by omega) (by omega)
  have n1 : 0 ≤ num * t := Int.mul_nonneg (by omega) (by omega)
  have n2 : 0 ≤ a * u := Int.mul_nonneg (by omega) (by omega)
  have n3 : 0 < u * b := Int.mul_pos hdp hb
  have x1 : wrap64 (num * t) = num * t := w64 (by omega) (by omega)
  have x2 : wrap64 (a * u) = a * u := w64 (by omega) (by omega)
  have x3 : wrap64 (u * b) = u * b := w64 (by omega) (by omega)
  have x4 : wrap64 (num * t + a * u) = num * t + a * u := w64 (by omega) (by omega)
  have hred := l9Reduce_ev (num * t + a * u) (u * b) n3 (by omega) (by omega) (by omega)
  have hR2 := Red.change (T := treesM ls) (N := N + AM ls ax) n3 (red_red (n := num * t + a * u) n3) hsum
  refine ⟨_, _, hR2, fun v hv2 => ?_⟩
  have hax : wrap64 (ax + 1) = ax + 1 := w64 (by omega) (by omega)
  refine Ev.step (f := fun k => (spec_l9Squares.f k ls ax).bind fun bt250 => ((spec_l10Common.f k den bt250.2).bind fun t252 => (if t252 = 0 then (none) else ((spec_l10Common.f k den bt250.2).bind fun t253 => (if t253 = 0 then (none) else ((spec_l10Common.f k den bt250.2).bind fun t254 => (if t254 = 0 then (none) else ((spec_l9Reduce.f k (wrap64 ((wrap64 (num * (wrap64 (Int.tdiv bt250.2 t252)))) + (wrap64 (bt250.1 * (wrap64 (Int.tdiv den t253)))))) (wrap64 ((wrap64 (Int.tdiv den t254)) * bt250.2))).bind fun bt255 => (spec_l10Strain.l0 k ls bt255.1 bt255.2 (wrap64 (ax + 1))))))))))) (fun k => ?_) ?_
  · conv => lhs; unfold spec_l10Strain.l0
    rw [if_pos (by omega)]
  · refine Ev.bind hsq (Ev.bind hcm (Ev.neg (by omega) (Ev.bind hcm (Ev.neg (by omega) (Ev.bind hcm (Ev.neg (by omega) ?_))))))
    simp only [w1, w2, htt, hu, x1, x2, x3, x4, hax]
    exact Ev.bind hred hv2
theorem strain_ev {ls : L} (hv : legsB ls = true) : Ev (fun k => spec_l10Strain.f k ls) (sNum ls, sDen ls) := by
  have h' := legsB_iff.mp hv
  have ht := trees_pos h'.2 h'.1
  have a0 := AM_bound h'.2 h'.1 0
  have a1 := AM_bound h'.2 h'.1 1
  have a2 := AM_bound h'.2 h'.1 2
  obtain ⟨n1, d1, r1, s1⟩ := strain_step hv 0 (by decide) (by decide) (num := 0) (den := 1) (N := 0) ⟨by decide, by decide, by omega⟩ (by decide) (by decide)
  obtain ⟨n2, d2, r2, s2⟩ := strain_step hv 1 (by decide) (by decide) r1 (by omega) (by omega)
  obtain ⟨n3, d3, r3, s3⟩ := strain_step hv 2 (by decide) (by decide) r2 (by omega) (by omega)
  have hs := sRed h'.2 h'.1
  rw [show (0 : Int) + AM ls 0 + AM ls 1 + AM ls 2 = sN ls from by unfold sN; omega] at r3
  obtain ⟨e1, e2⟩ := Red.unique (by omega) r3 hs
  rw [← e1, ← e2]
  refine s1 _ (s2 _ (s3 _ ?_))
  refine Ev.step (f := fun _ => some (n3, d3)) (fun k => ?_) (Ev.now _)
  conv => lhs; unfold spec_l10Strain.l0
  rw [if_neg (by omega)]
theorem wdiv {a b : Int} (ha : 0 ≤ a) (hb : 0 < b) (h : a ≤ 9000000000000000000) : wrap64 (a.tdiv b) = a.tdiv b := by
  have h1 := tdiv_small a b.toNat (B := 9000000000000000000) (by omega) h
  rw [Int.toNat_of_nonneg (by omega)] at h1
  exact w64 (by omega) (by omega)
def big : Int := 9000000000000000000
theorem cmp_l0 : ∀ (n : Nat) (s a b c d : Int), (s = 1 ∨ s = -1) → 0 ≤ a → 0 < b → 0 ≤ c → 0 < d → a ≤ big → b ≤ big → c ≤ big → d ≤ big → b.natAbs < n → Ev (fun k => spec_l10Compare.l0 k a b c d s) (s * cmp a b c d) := by
  intro n
  induction n with
  | zero => intro s a b c d _ _ _ _ _ _ _ _ _ h; omega
  | succ n ih =>
    intro s a b c d hs ha hb hc hd la lb lc ld h
    have hw : wrap64 (-s) = -s := by unfold wrap64; omega
    have w1 := wdiv ha hb la
    have w2 := wdiv hc hd lc
    unfold big at *
    rcases Int.lt_trichotomy (a.tdiv b) (c.tdiv d) with e | e | e
    · rw [cmp_lt hb hd ha hc e, show s * -1 = -s by omega]
      refine Ev.step (f := fun _ => some (-s)) (fun k => ?_) (Ev.now _)
      conv => lhs; unfold spec_l10Compare.l0
      rw [if_neg (by omega), if_neg (by omega), w1, w2, if_pos e, hw]
    · have r1 := Int.tmod_nonneg b ha
      have r2 := Int.tmod_nonneg d hc
      have l1 := Int.tmod_lt_of_pos a hb
      have l2 := Int.tmod_lt_of_pos c hd
      have hst : ∀ k, spec_l10Compare.l0 (k + 1) a b c d s = if Int.tmod a b = 0 then spec_l10Compare.j1 k (Int.tmod a b) b (Int.tmod c d) d s true else spec_l10Compare.j1 k (Int.tmod a b) b (Int.tmod c d) d s (Int.tmod c d == 0) := fun k => by
        conv => lhs; unfold spec_l10Compare.l0
        rw [if_neg (by omega), if_neg (by omega), w1, w2, if_neg (by omega), if_neg (by omega)]
      have hj : ∀ k, spec_l10Compare.j1 (k + 1) (Int.tmod a b) b (Int.tmod c d) d s true = if Int.tmod a b = Int.tmod c d then some 0 else if Int.tmod a b = 0 then some (wrap64 (-s)) else some s := fun k => by
        conv => lhs; unfold spec_l10Compare.j1
        rw [if_pos rfl]
      by_cases z1 : Int.tmod a b = 0
      · refine Ev.step (f := fun k => spec_l10Compare.j1 k (Int.tmod a b) b (Int.tmod c d) d s true) (fun k => by rw [hst, if_pos z1]) ?_
        refine Ev.step (f := fun _ => some (s * cmp a b c d)) (fun k => ?_) (Ev.now _)
        rw [hj, cmp_rest e, z1]
        by_cases z2 : Int.tmod c d = 0
        · rw [z2, if_pos rfl, cmp_zero, Int.mul_zero]
        · rw [if_neg (fun f => z2 f.symm), if_pos rfl, cmp_zero_left hb (by omega), hw]
          congr 1; omega
      · by_cases z2 : Int.tmod c d = 0
        · refine Ev.step (f := fun k => spec_l10Compare.j1 k (Int.tmod a b) b (Int.tmod c d) d s true) (fun k => by rw [hst, if_neg z1, z2]; rfl) ?_
          refine Ev.step (f := fun _ => some (s * cmp a b c d)) (fun k => ?_) (Ev.now _)
          rw [hj, cmp_rest e, z2, if_neg z1, if_neg z1, cmp_zero_right hd (by omega), Int.mul_one]
        · have hrec := ih (-s) b (Int.tmod a b) d (Int.tmod c d) (by omega) (by omega) (by omega) (by omega) (by omega) (by omega) (by omega) (by omega) (by omega) (by omega)
          rw [cmp_flip, Int.neg_mul_neg, ← cmp_rest e] at hrec
          refine Ev.step (f := fun k => spec_l10Compare.j1 k (Int.tmod a b) b (Int.tmod c d) d s false) (fun k => by rw [hst, if_neg z1, show (Int.tmod c d == 0) = false from by rw [beq_eq_false_iff_ne]; exact z2]) ?_
          refine Ev.step (fun k => ?_) hrec
          conv => lhs; unfold spec_l10Compare.j1
          rw [if_neg (by decide), hw]
    · rw [cmp_gt hb hd ha hc e, Int.mul_one]
      refine Ev.step (f := fun _ => some s) (fun k => ?_) (Ev.now _)
      conv => lhs; unfold spec_l10Compare.l0
      rw [if_neg (by omega), if_neg (by omega), w1, w2, if_neg (by omega), if_pos e]
def sCmp (x y : L) : Int := cmp (sNum x) (sDen x) (sNum y) (sDen y)
theorem compare_ev {a b c d : Int} (ha : 0 ≤ a) (hb : 0 < b) (hc : 0 ≤ c) (hd : 0 < d) (la : a ≤ big) (lb : b ≤ big) (lc : c ≤ big) (ld : d ≤ big) : Ev (fun k => spec_l10Compare.f k a b c d) (cmp a b c d) := by
  have h := cmp_l0 (b.natAbs + 1) 1 a b c d (Or.inl rfl) ha hb hc hd la lb lc ld (by omega)
  rw [Int.one_mul] at h
  exact h
theorem less_eq {a b c d : Int} (ha : 0 ≤ a) (hb : 0 < b) (hc : 0 ≤ c) (hd : 0 < d) (la : a ≤ 59049000000) (lb : b ≤ 6561) (lc : c ≤ 59049000000) (ld : d ≤ 6561) : decide (wrap64 (a * d) < wrap64 (c * b)) = decide (cmp a b c d = -1) := by
  have m1 : a * d ≤ 59049000000 * 6561 := Int.mul_le_mul (by omega) (by omega) (by omega) (by omega)
  have m2 : c * b ≤ 59049000000 * 6561 := Int.mul_le_mul (by omega) (by omega) (by omega) (by omega)
  have n1 : 0 ≤ a * d := Int.mul_nonneg (by omega) (by omega)
  have n2 : 0 ≤ c * b := Int.mul_nonneg (by omega) (by omega)
  rw [w64 (by omega) (by omega), w64 (by omega) (by omega), decide_eq_decide]
  unfold cmp
  split
  · rename_i h; exact ⟨fun _ => rfl, fun _ => h⟩
  · rename_i h
    refine ⟨fun g => absurd g h, fun g => ?_⟩
    split at g <;> omega
structure BS where
  b : Int
  h : Int
  y : L
def stepB (ls : L) (k : Nat) (st : BS) (fix : Int) : BS := if Good (fixX (leg ls k) fix) ∧ sCmp (ls.set k (fixX (leg ls k) fix)) st.y = -1 then ⟨k, fix, ls.set k (fixX (leg ls k) fix)⟩ else st
def fixTo (ls : L) (k : Nat) (st : BS) : Nat → BS
  | 0 => st
  | m + 1 => stepB ls k (fixTo ls k st m) ((m : Int) + 1)
def bestL (ls : L) (l : List Int) : BS := l.foldl (fun st k => fixTo ls k.toNat st 4) ⟨0, 0, ls⟩
def bestB (ls : L) : BS := bestL ls (usedL ls)
theorem bestL_snoc (ls : L) (l : List Int) (k : Int) : bestL ls (l ++ [k]) = fixTo ls k.toNat (bestL ls l) 4 := by
  unfold bestL; rw [List.foldl_append]; rfl
structure BOk (ls : L) (st : BS) : Prop where
  len : st.y.length = ls.length
  good : ∀ x ∈ st.y, Good x
  what : (st.h = 0 ∧ st.b = 0 ∧ st.y = ls) ∨ ∃ k : Nat, st.b = k ∧ k < ls.length ∧ (1 ≤ st.h ∧ st.h ≤ 4) ∧ Good (fixX (leg ls k) st.h) ∧ st.y = ls.set k (fixX (leg ls k) st.h)
theorem BOk.start {ls : L} (hg : ∀ x ∈ ls, Good x) : BOk ls ⟨0, 0, ls⟩ := ⟨rfl, hg, Or.inl ⟨rfl, rfl, rfl⟩⟩
theorem set_good {ls : L} (hg : ∀ x ∈ ls, Good x) (k : Nat) {x : S45} (hx : Good x) : ∀ y ∈ ls.set k x, Good y := fun y hy => by
  rcases List.mem_or_eq_of_mem_set hy with h | h
  · exact hg y h
  · rw [h]; exact hx
theorem BOk.step {ls : L} (hg : ∀ x ∈ ls, Good x) {st : BS} (h : BOk ls st) (k : Nat) (hk : k < ls.length) (fix : Int) (h1 : 1 ≤ fix) (h4 : fix ≤ 4) : BOk ls (stepB ls k st fix) := by
  unfold stepB
  split
  · rename_i c
    exact ⟨List.length_set .., set_good hg k c.1, Or.inr ⟨k, rfl, hk, ⟨h1, h4⟩, c.1, rfl⟩⟩
  · exact h
theorem BOk.fixS {ls : L} (hg : ∀ x ∈ ls, Good x) {st : BS} (h : BOk ls st) (k : Nat) (hk : k < ls.length) : ∀ m : Nat, m ≤ 4 → BOk ls (fixTo ls k st m)
  | 0, _ => h
  | m + 1, hm => (BOk.fixS hg h k hk m (by omega)).step hg k hk _ (by omega) (by omega)
theorem BOk.fold {ls : L} (hg : ∀ x ∈ ls, Good x) : ∀ (l : List Int) (st : BS), BOk ls st → (∀ i ∈ l, 0 ≤ i ∧ i < (ls.length : Int)) → BOk ls (l.foldl (fun st k => fixTo ls k.toNat st 4) st)
  | [], _, h, _ => h
  | k :: l, st, h, hr => by
    have hk := hr k (by simp)
    exact BOk.fold hg l _ (h.fixS hg k.toNat (by omega) 4 (by omega)) (fun i hi => hr i (by simp [hi]))
theorem BOk.list {ls : L} (hg : ∀ x ∈ ls, Good x) (l : List Int) (h : ∀ i ∈ l, 0 ≤ i ∧ i < (ls.length : Int)) : BOk ls (bestL ls l) := BOk.fold hg l _ (BOk.start hg) h
theorem BOk.best {ls : L} (hg : ∀ x ∈ ls, Good x) : BOk ls (bestB ls) := BOk.list hg _ (usedL_range ls)
end Go.Proofs.YtpojnobgijoddaaDoor.Net
namespace Go.Proofs.YtpojnobgijoddaaDoor.Net
open Go Go.RowKit YtpojnobgijoddaaDoorW.PrintWords A Plain
structure Off (g : Nat) (w w' : World) : Prop where
  os : w'.os = w.os
  tape : w'.tape = w.tape
  output : w'.output = w.output
  size : w.heap.size ≤ w'.heap.size
  block : ∀ k, k ≠ g → k < w.heap.size → w'.heap[k]? = w.heap[k]?
theorem Off.refl (g : Nat) (w : World) : Off g w w := ⟨rfl, rfl, rfl, Nat.le_refl _, fun _ _ _ => rfl⟩
theorem Off.trans {g : Nat} {a b c : World} (h : Off g a b) (k : Off g b c) : Off g a c :=
  ⟨k.os.trans h.os, k.tape.trans h.tape, k.output.trans h.output, Nat.le_trans h.size k.size, fun i hi hs => (k.block i hi (Nat.lt_of_lt_of_le hs h.size)).trans (h.block i hi hs)⟩
theorem Off.of {g : Nat} {w w' : World} (h : Below w.heap.size w w') : Off g w w' := ⟨h.os, h.tape, h.output, h.size, fun k _ hs => h.block k hs⟩
theorem Off.set {g i : Nat} {a w : World} (h : Off g a w) (u : Value) : Off g a (w.setCell ⟨g, i, none⟩ u) := by
  have hb := (Below.refl 0 w).setCell (p := ⟨g, i, none⟩) (Nat.zero_le _) u
  exact h.trans ⟨hb.os, hb.tape, hb.output, hb.size, fun k hk _ => Below.heap_setCell w _ u k hk⟩
theorem Off.below {g : Nat} {w w' : World} (h : Off g w w') (hg : g ≤ w.heap.size) : Below g w w' := ⟨h.os, h.tape, h.output, h.size, fun k hk => h.block k (by omega) (by omega)⟩
theorem Off.cell {g : Nat} {w w' : World} {p : Addr} {v : Value} (h : Off g w w') (hc : w.cell? p = some v) (hp : p.block ≠ g) : w'.cell? p = some v :=
  (World.cell?_of_block (w := w) (h.block p.block hp (World.block_lt_of_cell? w _ hc))).trans hc
theorem Off.step {g : Nat} {a w w' : World} (h : Off g a w) (hb : Below w.heap.size w w') : Off g a w' := h.trans (Off.of hb)
end Go.Proofs.YtpojnobgijoddaaDoor.Net
namespace Go.Proofs.YtpojnobgijoddaaDoor.A
open Go.RowKit YtpojnobgijoddaaDoorW.PrintWords Plain
open Net (L sNum sDen sCmp)
theorem sless {x y : L} (hx : ∀ z ∈ x, Net.Good z) (nx : x.length ≤ 12) (hy : ∀ z ∈ y, Net.Good z) (ny : y.length ≤ 12) : impl_fraction_less.f (sNum x) (sDen x) (sNum y) (sDen y) = some (decide (sCmp x y = -1)) := by
  have h1 := Net.s_bound nx hx
  have h2 := Net.s_bound ny hy
  unfold impl_fraction_less.f
  rw [Net.less_eq h1.2.1 h1.1.1 h2.2.1 h2.1.1 h1.2.2 h1.1.2 h2.2.2 h2.1.2]
  rfl
end Go.Proofs.YtpojnobgijoddaaDoor.A
namespace Go.Proofs.YtpojnobgijoddaaDoor.Net
open Go Go.RowKit YtpojnobgijoddaaDoorW.PrintWords A Plain
theorem listForm {w5 : World} {v : Value} {l : List Int} {base : Nat} {ok : Nat → Prop} (h : Kd.R (Kd.int .i64) 3 w5 base ok v l) : ∃ A hh cp, v = .slice A l.length cp ∧ (0 < l.length → A = some ⟨hh, 0, none⟩ ∧ base ≤ hh ∧ hh < w5.heap.size ∧ ∀ t : Nat, t < l.length → w5.cell? ⟨hh, t, none⟩ = some (.int .i64 (rd l (t : Int)))) := by
  by_cases hp : 0 < l.length
  · obtain ⟨g, cap, rfl, h1, h2, _⟩ := Kd.R_form h hp
    exact ⟨_, g, cap, rfl, fun _ => ⟨rfl, h1, h2, fun t ht => by
      have h3 := (Kd.R_celln 0 h (t : Int) (by omega) (by omega)).1
      rw [Int.toNat_natCast] at h3
      exact h3⟩⟩
  · obtain ⟨A, cp, rfl⟩ := Kd.R_slice h
    exact ⟨A, 0, cp, rfl, fun h => absurd h hp⟩
end Go.Proofs.YtpojnobgijoddaaDoor.Net
