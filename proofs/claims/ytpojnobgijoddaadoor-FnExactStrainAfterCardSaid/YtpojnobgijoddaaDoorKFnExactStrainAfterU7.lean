/- General laws by which a law's arguments are opened: a slice of structs whose fields are integers or bools, as a row of the print's kinds; a struct by value. No conditions. -/
import Derived.Deep.Slices
import Derived.Deep.Fields
import Derived.ChangeSame
import Derived.SizedLaws
import Derived.Test.YtpojnobgijoddaaDoorKFnExactStrainAfterU6
set_option maxHeartbeats 8000000
set_option maxRecDepth 100000
set_option linter.unusedSimpArgs false
set_option linter.unusedVariables false
namespace Go.Proofs.YtpojnobgijoddaaDoor.Net
open Go.RowKit YtpojnobgijoddaaDoorW.PrintWords YtpojnobgijoddaaDoorW.PrintLast YtpojnobgijoddaaDoorW.PrintMore A Plain
def Gate (ls : L) (b : Bool) (w : World) (e : Ending) (w' : World) : Prop := ∃ g T cA cC, e = .returned (.tuple #[.pointer (some ⟨g, 0, none⟩), .bool b]) ∧ St ls.length T g (Pq (RR ls)) (Xq ls (RR ls)) (Bq (RR ls)) (.slice cA (closeL ls).length cC) w' ∧ Kd.R (Kd.int .i64) 3 w' w.heap.size (fun k => k ≠ g ∧ k ≠ T) (.slice cA (closeL ls).length cC) (closeL ls) ∧ Below w.heap.size w w'
theorem placedLeg (A : Option Addr) (c : Nat) (ls : L) (i : Int) (w : World) (hL : Sine.Laid w) (hr0 : Kd.C k45 w A ls.length ls) (hc : ls.length ≤ c) (hv : legsB ls = true) (h0 : 0 ≤ i) (h1 : i < ls.length) :
    Calls Tryd.prog 43 #[.slice A ls.length c, .int .i64 i] w (Gate ls (Pq (RR ls) (leg ls i).f0.toNat) w) := by
  have hv' := legsB_iff.mp hv
  have hn := hv'.2
  obtain ⟨K, hK⟩ := areLegs_ev ls (by omega)
  have HA := Aside0.mk (hK K (Nat.le_refl _))
  rw [hv] at HA
  have HW : Aside0 (impl_within.f i 0 ((ls.length : Int) - 1) = some true) := ⟨by rw [within_eq, decide_eq_true (by omega)]⟩
  obtain ⟨k, rfl⟩ := Int.eq_ofNat_of_zero_le h0
  have hg := leg_good hv'.1 k (by omega)
  obtain ⟨a, ha⟩ := Int.eq_ofNat_of_zero_le hg.1.1
  have ha8 : (a : Int) < 8 := by have := hg.1.2; omega
  rw [ha, Int.toNat_natCast]
  obtain ⟨_, e2, h2, _⟩ := at_T45 hr0 (k : Int) h0 h1
  cases e2
  rw [Int.toNat_natCast, show rd_T45 ls (k : Int) = leg ls k from rfl, ha] at h2
  have H2 := Aside0.mk h2
  have HG := Aside0.mk hv'.1
  have HR := Aside0.mk hr0
  have HL := Aside0.mk hL
  have HB := Aside0.mk (Below.refl w.heap.size w)
  clear hK hr0 hL hv hv' hg ha h2
  go_enter Tryd.func43, Tryd.ntmps43
  go_wp2_with (first
    | (go_at_call 32; (with_reducible refine (impl_areLegs.calls K _ _ ls true _ ?s1 ?s2 HA.out).mono ?_); (case s1 => exact Kd.C_below HR.out qz5); (case s2 => exact hc); rintro e w' ⟨rfl, hw⟩; replace HB := Aside0.mk (below_step (show Below w.heap.size w _ from by (repeat (first | exact HB.out | exact Below.refl _ _ | apply below_alloc | apply pw_below_drewN | apply below_drew1)); done) hw); clear hw)
    | (go_at_call 64; (with_reducible refine (impl_within.calls _ _ _ _ _ HW.out).mono ?_); rintro e w' ⟨rfl, ⟨nd, rfl⟩⟩; replace HB := Aside0.mk (pw_below_drewN HB.out nd))
    | ((go_at_call 49; (with_reducible refine (place _ c ls _ ?s1 ?s2 hc hn HG.out (RR ls) rfl).mono ?_); (case s1 => exact HL.out.keep qz5); (case s2 => exact Kd.C_below HR.out qz5); rintro e w' ⟨g, T, cl, rfl, hst, ho, hw⟩; have HO : Aside0 (Kd.R (Kd.int .i64) 3 w' w.heap.size (fun k => k ≠ g ∧ k ≠ T) cl (closeL ls)) := ⟨Kd.R_lower ho (below_size (show Below w.heap.size w _ from by (repeat (first | exact HB.out | exact Below.refl _ _ | apply below_alloc | apply pw_below_drewN | apply below_drew1)); done))⟩; replace HB := Aside0.mk (below_step (show Below w.heap.size w _ from by (repeat (first | exact HB.out | exact Below.refl _ _ | apply below_alloc | apply pw_below_drewN | apply below_drew1)); done) hw); have HS := Aside0.mk hst; clear hst ho hw; obtain ⟨cA, cC, ecl⟩ := Kd.R_slice HO.out; subst ecl); have h2 := Sine.keepc H2.out HB.out; have pa := HS.out.pb a (by omega)))
  go_quiet (fail)
  go_wp2
  go_ret2
  exact ⟨g, T, cA, cC, rfl, HS.out.keep (pw_below_drewN (Below.refl _ _) _), Kd.R_drewN HO.out _, pw_below_drewN HB.out _⟩
theorem placedLeg_no (A : Option Addr) (c : Nat) (ls : L) (i : Int) (w : World) (hr0 : Kd.C k45 w A ls.length ls) (hc : ls.length ≤ c) (hb : ls.length ≤ 140737488351232) (hv : legsB ls = true → ¬ (0 ≤ i ∧ i < ls.length)) :
    Calls Tryd.prog 43 #[.slice A ls.length c, .int .i64 i] w fun e w' => e = .returned (.tuple #[.pointer none, .bool false]) ∧ Below w.heap.size w w' := by
  obtain ⟨K, hK⟩ := areLegs_ev ls hb
  have HA := Aside0.mk (hK K (Nat.le_refl _))
  have HR := Aside0.mk hr0
  have HB := Aside0.mk (Below.refl w.heap.size w)
  clear hK hr0
  cases hq : legsB ls
  · rw [hq] at HA
    clear hq hv
    go_enter Tryd.func43, Tryd.ntmps43
    go_wp2_with (go_at_call 32; (with_reducible refine (impl_areLegs.calls K _ _ ls false _ ?s1 ?s2 HA.out).mono ?_); (case s1 => exact Kd.C_below HR.out qz5); (case s2 => exact hc); rintro e w' ⟨rfl, hw⟩; replace HB := Aside0.mk (below_step (show Below w.heap.size w _ from by (repeat (first | exact HB.out | exact Below.refl _ _ | apply below_alloc | apply pw_below_drewN | apply below_drew1)); done) hw); clear hw)
    go_ret2
    exact ⟨rfl, HB.out⟩
  · rw [hq] at HA
    have hv2 := hv hq
    have HW : Aside0 (impl_within.f i 0 ((ls.length : Int) - 1) = some false) := ⟨by rw [within_eq, decide_eq_false (by omega)]⟩
    clear hq hv
    go_enter Tryd.func43, Tryd.ntmps43
    go_wp2_with (first
      | (go_at_call 32; (with_reducible refine (impl_areLegs.calls K _ _ ls true _ ?s1 ?s2 HA.out).mono ?_); (case s1 => exact Kd.C_below HR.out qz5); (case s2 => exact hc); rintro e w' ⟨rfl, hw⟩; replace HB := Aside0.mk (below_step (show Below w.heap.size w _ from by (repeat (first | exact HB.out | exact Below.refl _ _ | apply below_alloc | apply pw_below_drewN | apply below_drew1)); done) hw); clear hw)
      | (go_at_call 64; (with_reducible refine (impl_within.calls _ _ _ _ _ HW.out).mono ?_); rintro e w' ⟨rfl, ⟨nd, rfl⟩⟩; replace HB := Aside0.mk (pw_below_drewN HB.out nd)))
    go_ret2
    exact ⟨rfl, HB.out⟩
def fixX (x : S45) (fix : Int) : S45 :=
  if fix = 1 then ⟨x.f0, x.f1, x.f2, Int.tmod (wrap64 (x.f3 + 180)) 360, x.f4⟩ else if fix = 2 then ⟨x.f0, x.f1, x.f2, x.f3, wrap64 (-x.f4)⟩ else if fix = 3 then ⟨x.f0, x.f1, wrap64 (x.f2 + 100), x.f3, x.f4⟩ else ⟨x.f0, x.f1, wrap64 (x.f2 - 100), x.f3, x.f4⟩
theorem fix_eq (ls : L) (i : Nat) (fix : Int) (hi : i < ls.length) (hb : ls.length ≤ 2000000) : spec_l10Fix.f ls (i : Int) fix = some (ls.set i (fixX (leg ls i) fix)) := by
  unfold spec_l10Fix.f
  rw [Option.bind_some, if_pos (by simp; omega), Option.bind_some, List.nil_append, if_pos (by omega), if_pos (by omega), Int.toNat_natCast]
  unfold fixX leg
  by_cases h1 : fix = 1
  · rw [if_pos h1, if_pos h1]
  · rw [if_neg h1, if_neg h1]
    by_cases h2 : fix = 2
    · rw [if_pos h2, if_pos h2]
    · rw [if_neg h2, if_neg h2]
      by_cases h3 : fix = 3
      · rw [if_pos h3, if_pos h3]
      · rw [if_neg h3, if_neg h3]
theorem legsB_set {ls : L} (hv : legsB ls = true) (i : Nat) (hi : i < ls.length) (x : S45) : legsB (ls.set i x) = decide (Good x) := by
  have hv' := legsB_iff.mp hv
  unfold legsB
  rw [decide_eq_decide, List.length_set]
  constructor
  · rintro ⟨h, _⟩
    exact h x (List.mem_iff_getElem.mpr ⟨i, by rw [List.length_set]; exact hi, by rw [List.getElem_set_self]⟩)
  · intro h
    refine ⟨fun y hy => ?_, hv'.2⟩
    rcases List.mem_or_eq_of_mem_set hy with hy | hy
    · exact hv'.1 y hy
    · rw [hy]; exact h
def fixM (ls : L) (i fix : Int) : L × Bool :=
  if legsB ls = true ∧ (0 ≤ i ∧ i < (ls.length : Int)) ∧ (leg ls i).f0 ∈ plL (RR ls) ∧ (1 ≤ fix ∧ fix ≤ 4) ∧ Good (fixX (leg ls i) fix) then (ls.set i.toNat (fixX (leg ls i) fix), true) else ([], false)
theorem mem_plcL {ls : L} (hg : ∀ x ∈ ls, Good x) (i : Int) : i ∈ plcL ls (RR ls) ls.length ↔ (0 ≤ i ∧ i < (ls.length : Int)) ∧ (leg ls i).f0 ∈ plL (RR ls) := by
  unfold plcL
  rw [mem_selTo]
  constructor
  · rintro ⟨k, rfl, hk, h⟩
    rw [Pq_eq, Int.toNat_of_nonneg (leg_good hg k hk).1.1] at h
    exact ⟨⟨by omega, by omega⟩, of_decide_eq_true h⟩
  · rintro ⟨⟨h0, h1⟩, h2⟩
    obtain ⟨k, rfl⟩ := Int.eq_ofNat_of_zero_le h0
    have hk : k < ls.length := by omega
    exact ⟨k, rfl, hk, by rw [Pq_eq, Int.toNat_of_nonneg (leg_good hg k hk).1.1]; exact decide_eq_true h2⟩
theorem can_ev (ls : L) (i fix : Int) (hb : ls.length ≤ 2000000) : Ev (fun k => spec_l10Can.f k ls i fix) (fixM ls i fix).2 := by
  unfold spec_l10Can.f fixM
  have hpl : Ev (fun k => spec_l10Placed.f k ls i) (legsB ls && decide (i ∈ plcL ls (RR ls) ls.length)) := by
    unfold spec_l10Placed.f
    refine Ev.bind (l4Legs_ev ls (by omega)) ?_
    cases h : legsB ls
    · exact Ev.neg (by decide) (Ev.now _)
    · have h' := legsB_iff.mp h
      have hl := selTo_len (fun k => Pq (RR ls) (leg ls k).f0.toNat) ls.length
      exact Ev.pos rfl (Ev.bind (l9Legs_ev h'.2 h'.1) (Ev.bind (has_ev _ _ (by unfold plcL; omega)) (Ev.now _)))
  refine Ev.bind hpl ?_
  by_cases h : legsB ls = true ∧ i ∈ plcL ls (RR ls) ls.length
  · have hv := legsB_iff.mp h.1
    have hm := (mem_plcL hv.1 i).mp h.2
    refine Ev.pos (by rw [h.1, decide_eq_true h.2]; rfl) (Ev.bindc (show spec_l1In.f fix 1 4 = some (decide (1 ≤ fix ∧ fix ≤ 4)) from within_eq fix 1 4) ?_)
    by_cases hf : 1 ≤ fix ∧ fix ≤ 4
    · refine Ev.pos (decide_eq_true hf) ?_
      obtain ⟨k, rfl⟩ := Int.eq_ofNat_of_zero_le hm.1.1
      refine Ev.bindc (fix_eq ls k fix (by omega) hb) (Ev.bind (l4Legs_ev _ (by rw [List.length_set]; omega)) ?_)
      rw [legsB_set h.1 k (by omega)]
      by_cases hg : Good (fixX (leg ls k) fix)
      · rw [if_pos ⟨h.1, hm.1, hm.2, hf, hg⟩, decide_eq_true hg]
        exact Ev.now _
      · rw [if_neg (fun e => hg e.2.2.2.2), decide_eq_false hg]
        exact Ev.now _
    · rw [if_neg (fun e => hf e.2.2.2.1)]
      exact Ev.neg (by rw [decide_eq_false hf]; decide) (Ev.now _)
  · rw [if_neg (fun e => h ⟨e.1, (mem_plcL (legsB_iff.mp e.1).1 i).mpr ⟨e.2.1, e.2.2.1⟩⟩)]
    exact Ev.neg (by rw [Bool.and_eq_true, decide_eq_true_eq]; exact h) (Ev.now _)
end Go.Proofs.YtpojnobgijoddaaDoor.Net
namespace Go.Proofs.YtpojnobgijoddaaDoor.Net
open Go Go.RowKit YtpojnobgijoddaaDoorW.PrintWords YtpojnobgijoddaaDoorW.PrintLast YtpojnobgijoddaaDoorW.PrintMore A Plain
def fixedM (x : S45) (fix : Int) : S45 × Bool := if 1 ≤ fix ∧ fix ≤ 4 then (fixX x fix, decide (Good (fixX x fix))) else (⟨0, 0, 0, 0, 0⟩, false)
def FixPost (y : S45) (b : Bool) (w : World) (e : Ending) (w' : World) : Prop := e = .returned (.tuple #[.agg #[.int .i64 y.f0, .int .i64 y.f1, .int .i64 y.f2, .int .i64 y.f3, .int .i64 y.f4], .bool b]) ∧ Below w.heap.size w w'
theorem fixed1 (x : S45) (nv : Int) (hnv : nv = (Int.tmod (wrap64 (x.f3 + 180)) 360)) (w : World) :
    Calls Tryd.prog 70 #[.agg #[.int .i64 x.f0, .int .i64 x.f1, .int .i64 x.f2, .int .i64 x.f3, .int .i64 x.f4], .int .i64 1] w (FixPost ⟨x.f0, x.f1, x.f2, nv, x.f4⟩ (decide (Good ⟨x.f0, x.f1, x.f2, nv, x.f4⟩)) w) := by
  have HI := Aside0.mk (IsLeg_eq ⟨x.f0, x.f1, x.f2, nv, x.f4⟩)
  simp only at HI
  generalize decide (Good ⟨x.f0, x.f1, x.f2, nv, x.f4⟩) = bb at *
  have HBK : Aside0 (impl_back.f x.f3 = some nv) := ⟨by rw [hnv]; rfl⟩
  clear hnv
  go_enter Tryd.func70, Tryd.ntmps70
  go_wp2_with (go_at_call 89; (with_reducible refine (impl_back.calls _ _ _ HBK.out).mono ?_); rintro e w' ⟨rfl, ⟨nd, rfl⟩⟩)
  obtain ⟨W1, hW1⟩ : ∃ W1, W1 = ((((w.alloc (Obj.cells #[Value.int IntKind.i64 x.f0, Value.int IntKind.i64 x.f1, Value.int IntKind.i64 x.f2, Value.int IntKind.i64 x.f3, Value.int IntKind.i64 x.f4] 45)).alloc (Obj.cells #[Value.int IntKind.i64 0, Value.int IntKind.i64 0, Value.int IntKind.i64 0, Value.int IntKind.i64 0, Value.int IntKind.i64 0] 45)).drewN nd).setCell ⟨w.heap.size, 3, none⟩ (.int .i64 nv)) := ⟨_, rfl⟩
  have h0 : W1.cell? ⟨w.heap.size, 0, none⟩ = some (.int .i64 x.f0) := by rw [hW1]; go_simp
  have h1 : W1.cell? ⟨w.heap.size, 1, none⟩ = some (.int .i64 x.f1) := by rw [hW1]; go_simp
  have h2 : W1.cell? ⟨w.heap.size, 2, none⟩ = some (.int .i64 x.f2) := by rw [hW1]; go_simp
  have h3 : W1.cell? ⟨w.heap.size, 3, none⟩ = some (.int .i64 nv) := by rw [hW1]; go_simp
  have h4 : W1.cell? ⟨w.heap.size, 4, none⟩ = some (.int .i64 x.f4) := by rw [hW1]; go_simp
  have y0 : W1.cell? ⟨w.heap.size + 1, 0, none⟩ = some (.int .i64 0) := by rw [hW1]; go_simp
  have y1 : W1.cell? ⟨w.heap.size + 1, 1, none⟩ = some (.int .i64 0) := by rw [hW1]; go_simp
  have y2 : W1.cell? ⟨w.heap.size + 1, 2, none⟩ = some (.int .i64 0) := by rw [hW1]; go_simp
  have y3 : W1.cell? ⟨w.heap.size + 1, 3, none⟩ = some (.int .i64 0) := by rw [hW1]; go_simp
  have y4 : W1.cell? ⟨w.heap.size + 1, 4, none⟩ = some (.int .i64 0) := by rw [hW1]; go_simp
  have u0 : W1.frozen? ⟨w.heap.size + 1, 0, none⟩ = false := by rw [hW1]; go_simp
  have u1 : W1.frozen? ⟨w.heap.size + 1, 1, none⟩ = false := by rw [hW1]; go_simp
  have u2 : W1.frozen? ⟨w.heap.size + 1, 2, none⟩ = false := by rw [hW1]; go_simp
  have u3 : W1.frozen? ⟨w.heap.size + 1, 3, none⟩ = false := by rw [hW1]; go_simp
  have u4 : W1.frozen? ⟨w.heap.size + 1, 4, none⟩ = false := by rw [hW1]; go_simp
  have HB : Aside0 (Below w.heap.size w W1) := ⟨by rw [hW1]; repeat (first | exact Below.refl _ _ | apply below_alloc | apply pw_below_drewN | (refine below_set ?_ (by omega)))⟩
  rw [← hW1]
  clear hW1
  have n1 : w.heap.size + 1 ≠ w.heap.size := by omega
  go_region_held3 (fun w' => w'.cell? ⟨w.heap.size, 0, none⟩ = some (.int .i64 x.f0) ∧ w'.cell? ⟨w.heap.size, 1, none⟩ = some (.int .i64 x.f1) ∧ w'.cell? ⟨w.heap.size, 2, none⟩ = some (.int .i64 x.f2) ∧ w'.cell? ⟨w.heap.size, 3, none⟩ = some (.int .i64 nv) ∧ w'.cell? ⟨w.heap.size, 4, none⟩ = some (.int .i64 x.f4))
    ((repeat' refine And.intro ?_ ?_) <;> first
      | ((with_reducible refine far (far (far (far (far ?_ ?_) ?_) ?_) ?_) ?_) <;> first | exact blkne n1 | exact Sine.keepc (w := W1) qz14 qz3)
      | exact Sine.keepc (w := W1) qz14 qz3)
    (first
      | (go_at_call 57; (with_reducible refine (impl_IsLeg.calls _ _ _ _ _ _ _ HI.out).mono ?_); rintro e w' ⟨rfl, hw1⟩
         have HB3 : Aside0 (Below w.heap.size w w') := ⟨by (repeat (first | exact Below.refl _ _ | apply pw_below_drewN | apply below_drew1 | exact HB.out | refine below_step ?_ qz14)); done⟩
         have k0 := Sine.keepc (w := W1) y0 (show Below W1.heap.size W1 w' from by (repeat (first | exact Below.refl _ _ | apply pw_below_drewN | apply below_drew1 | exact HB.out | refine below_step ?_ qz14)); done)
         have z0 := keepz (w := W1) y0 u0 (show Below W1.heap.size W1 w' from by (repeat (first | exact Below.refl _ _ | apply pw_below_drewN | apply below_drew1 | exact HB.out | refine below_step ?_ qz14)); done)
         have k1 := Sine.keepc (w := W1) y1 (show Below W1.heap.size W1 w' from by (repeat (first | exact Below.refl _ _ | apply pw_below_drewN | apply below_drew1 | exact HB.out | refine below_step ?_ qz14)); done)
         have z1 := keepz (w := W1) y1 u1 (show Below W1.heap.size W1 w' from by (repeat (first | exact Below.refl _ _ | apply pw_below_drewN | apply below_drew1 | exact HB.out | refine below_step ?_ qz14)); done)
         have k2 := Sine.keepc (w := W1) y2 (show Below W1.heap.size W1 w' from by (repeat (first | exact Below.refl _ _ | apply pw_below_drewN | apply below_drew1 | exact HB.out | refine below_step ?_ qz14)); done)
         have z2 := keepz (w := W1) y2 u2 (show Below W1.heap.size W1 w' from by (repeat (first | exact Below.refl _ _ | apply pw_below_drewN | apply below_drew1 | exact HB.out | refine below_step ?_ qz14)); done)
         have k3 := Sine.keepc (w := W1) y3 (show Below W1.heap.size W1 w' from by (repeat (first | exact Below.refl _ _ | apply pw_below_drewN | apply below_drew1 | exact HB.out | refine below_step ?_ qz14)); done)
         have z3 := keepz (w := W1) y3 u3 (show Below W1.heap.size W1 w' from by (repeat (first | exact Below.refl _ _ | apply pw_below_drewN | apply below_drew1 | exact HB.out | refine below_step ?_ qz14)); done)
         have k4 := Sine.keepc (w := W1) y4 (show Below W1.heap.size W1 w' from by (repeat (first | exact Below.refl _ _ | apply pw_below_drewN | apply below_drew1 | exact HB.out | refine below_step ?_ qz14)); done)
         have z4 := keepz (w := W1) y4 u4 (show Below W1.heap.size W1 w' from by (repeat (first | exact Below.refl _ _ | apply pw_below_drewN | apply below_drew1 | exact HB.out | refine below_step ?_ qz14)); done)))
  go_wp2
  exact bodyPost_ret (v := .tuple #[.agg #[.int .i64 x.f0, .int .i64 x.f1, .int .i64 x.f2, .int .i64 nv, .int .i64 x.f4], .bool bb]) qz50 rfl ⟨rfl, by repeat (first | exact HB3.out | apply below_drew1 | (refine below_set ?_ (by omega)))⟩
theorem fixed2 (x : S45) (nv : Int) (hnv : nv = (wrap64 (-x.f4))) (w : World) :
    Calls Tryd.prog 70 #[.agg #[.int .i64 x.f0, .int .i64 x.f1, .int .i64 x.f2, .int .i64 x.f3, .int .i64 x.f4], .int .i64 2] w (FixPost ⟨x.f0, x.f1, x.f2, x.f3, nv⟩ (decide (Good ⟨x.f0, x.f1, x.f2, x.f3, nv⟩)) w) := by
  have HI := Aside0.mk (IsLeg_eq ⟨x.f0, x.f1, x.f2, x.f3, nv⟩)
  simp only at HI
  generalize decide (Good ⟨x.f0, x.f1, x.f2, x.f3, nv⟩) = bb at *
  go_enter Tryd.func70, Tryd.ntmps70
  go_wp2
  rw [← hnv]
  clear hnv
  obtain ⟨W1, hW1⟩ : ∃ W1, W1 = ((w.alloc (Obj.cells #[Value.int IntKind.i64 x.f0, Value.int IntKind.i64 x.f1, Value.int IntKind.i64 x.f2, Value.int IntKind.i64 x.f3, Value.int IntKind.i64 nv] 45)).alloc (Obj.cells #[Value.int IntKind.i64 0, Value.int IntKind.i64 0, Value.int IntKind.i64 0, Value.int IntKind.i64 0, Value.int IntKind.i64 0] 45)) := ⟨_, rfl⟩
  have h0 : W1.cell? ⟨w.heap.size, 0, none⟩ = some (.int .i64 x.f0) := by rw [hW1]; go_simp
  have h1 : W1.cell? ⟨w.heap.size, 1, none⟩ = some (.int .i64 x.f1) := by rw [hW1]; go_simp
  have h2 : W1.cell? ⟨w.heap.size, 2, none⟩ = some (.int .i64 x.f2) := by rw [hW1]; go_simp
  have h3 : W1.cell? ⟨w.heap.size, 3, none⟩ = some (.int .i64 x.f3) := by rw [hW1]; go_simp
  have h4 : W1.cell? ⟨w.heap.size, 4, none⟩ = some (.int .i64 nv) := by rw [hW1]; go_simp
  have y0 : W1.cell? ⟨w.heap.size + 1, 0, none⟩ = some (.int .i64 0) := by rw [hW1]; go_simp
  have y1 : W1.cell? ⟨w.heap.size + 1, 1, none⟩ = some (.int .i64 0) := by rw [hW1]; go_simp
  have y2 : W1.cell? ⟨w.heap.size + 1, 2, none⟩ = some (.int .i64 0) := by rw [hW1]; go_simp
  have y3 : W1.cell? ⟨w.heap.size + 1, 3, none⟩ = some (.int .i64 0) := by rw [hW1]; go_simp
  have y4 : W1.cell? ⟨w.heap.size + 1, 4, none⟩ = some (.int .i64 0) := by rw [hW1]; go_simp
  have u0 : W1.frozen? ⟨w.heap.size + 1, 0, none⟩ = false := by rw [hW1]; go_simp
  have u1 : W1.frozen? ⟨w.heap.size + 1, 1, none⟩ = false := by rw [hW1]; go_simp
  have u2 : W1.frozen? ⟨w.heap.size + 1, 2, none⟩ = false := by rw [hW1]; go_simp
  have u3 : W1.frozen? ⟨w.heap.size + 1, 3, none⟩ = false := by rw [hW1]; go_simp
  have u4 : W1.frozen? ⟨w.heap.size + 1, 4, none⟩ = false := by rw [hW1]; go_simp
  have HB : Aside0 (Below w.heap.size w W1) := ⟨by rw [hW1]; repeat (first | exact Below.refl _ _ | apply below_alloc | apply pw_below_drewN | (refine below_set ?_ (by omega)))⟩
  rw [← hW1]
  clear hW1
  have n1 : w.heap.size + 1 ≠ w.heap.size := by omega
  go_region_held3 (fun w' => w'.cell? ⟨w.heap.size, 0, none⟩ = some (.int .i64 x.f0) ∧ w'.cell? ⟨w.heap.size, 1, none⟩ = some (.int .i64 x.f1) ∧ w'.cell? ⟨w.heap.size, 2, none⟩ = some (.int .i64 x.f2) ∧ w'.cell? ⟨w.heap.size, 3, none⟩ = some (.int .i64 x.f3) ∧ w'.cell? ⟨w.heap.size, 4, none⟩ = some (.int .i64 nv))
    ((repeat' refine And.intro ?_ ?_) <;> first
      | ((with_reducible refine far (far (far (far (far ?_ ?_) ?_) ?_) ?_) ?_) <;> first | exact blkne n1 | exact Sine.keepc (w := W1) qz14 qz3)
      | exact Sine.keepc (w := W1) qz14 qz3)
    (first
      | (go_at_call 57; (with_reducible refine (impl_IsLeg.calls _ _ _ _ _ _ _ HI.out).mono ?_); rintro e w' ⟨rfl, hw1⟩
         have HB3 : Aside0 (Below w.heap.size w w') := ⟨by (repeat (first | exact Below.refl _ _ | apply pw_below_drewN | apply below_drew1 | exact HB.out | refine below_step ?_ qz14)); done⟩
         have k0 := Sine.keepc (w := W1) y0 (show Below W1.heap.size W1 w' from by (repeat (first | exact Below.refl _ _ | apply pw_below_drewN | apply below_drew1 | exact HB.out | refine below_step ?_ qz14)); done)
         have z0 := keepz (w := W1) y0 u0 (show Below W1.heap.size W1 w' from by (repeat (first | exact Below.refl _ _ | apply pw_below_drewN | apply below_drew1 | exact HB.out | refine below_step ?_ qz14)); done)
         have k1 := Sine.keepc (w := W1) y1 (show Below W1.heap.size W1 w' from by (repeat (first | exact Below.refl _ _ | apply pw_below_drewN | apply below_drew1 | exact HB.out | refine below_step ?_ qz14)); done)
         have z1 := keepz (w := W1) y1 u1 (show Below W1.heap.size W1 w' from by (repeat (first | exact Below.refl _ _ | apply pw_below_drewN | apply below_drew1 | exact HB.out | refine below_step ?_ qz14)); done)
         have k2 := Sine.keepc (w := W1) y2 (show Below W1.heap.size W1 w' from by (repeat (first | exact Below.refl _ _ | apply pw_below_drewN | apply below_drew1 | exact HB.out | refine below_step ?_ qz14)); done)
         have z2 := keepz (w := W1) y2 u2 (show Below W1.heap.size W1 w' from by (repeat (first | exact Below.refl _ _ | apply pw_below_drewN | apply below_drew1 | exact HB.out | refine below_step ?_ qz14)); done)
         have k3 := Sine.keepc (w := W1) y3 (show Below W1.heap.size W1 w' from by (repeat (first | exact Below.refl _ _ | apply pw_below_drewN | apply below_drew1 | exact HB.out | refine below_step ?_ qz14)); done)
         have z3 := keepz (w := W1) y3 u3 (show Below W1.heap.size W1 w' from by (repeat (first | exact Below.refl _ _ | apply pw_below_drewN | apply below_drew1 | exact HB.out | refine below_step ?_ qz14)); done)
         have k4 := Sine.keepc (w := W1) y4 (show Below W1.heap.size W1 w' from by (repeat (first | exact Below.refl _ _ | apply pw_below_drewN | apply below_drew1 | exact HB.out | refine below_step ?_ qz14)); done)
         have z4 := keepz (w := W1) y4 u4 (show Below W1.heap.size W1 w' from by (repeat (first | exact Below.refl _ _ | apply pw_below_drewN | apply below_drew1 | exact HB.out | refine below_step ?_ qz14)); done)))
  go_wp2
  exact bodyPost_ret (v := .tuple #[.agg #[.int .i64 x.f0, .int .i64 x.f1, .int .i64 x.f2, .int .i64 x.f3, .int .i64 nv], .bool bb]) qz50 rfl ⟨rfl, by repeat (first | exact HB3.out | apply below_drew1 | (refine below_set ?_ (by omega)))⟩
theorem fixed3 (x : S45) (nv : Int) (hnv : nv = (wrap64 (x.f2 + 100))) (w : World) :
    Calls Tryd.prog 70 #[.agg #[.int .i64 x.f0, .int .i64 x.f1, .int .i64 x.f2, .int .i64 x.f3, .int .i64 x.f4], .int .i64 3] w (FixPost ⟨x.f0, x.f1, nv, x.f3, x.f4⟩ (decide (Good ⟨x.f0, x.f1, nv, x.f3, x.f4⟩)) w) := by
  have HI := Aside0.mk (IsLeg_eq ⟨x.f0, x.f1, nv, x.f3, x.f4⟩)
  simp only at HI
  generalize decide (Good ⟨x.f0, x.f1, nv, x.f3, x.f4⟩) = bb at *
  go_enter Tryd.func70, Tryd.ntmps70
  go_wp2
  rw [← hnv]
  clear hnv
  obtain ⟨W1, hW1⟩ : ∃ W1, W1 = ((w.alloc (Obj.cells #[Value.int IntKind.i64 x.f0, Value.int IntKind.i64 x.f1, Value.int IntKind.i64 nv, Value.int IntKind.i64 x.f3, Value.int IntKind.i64 x.f4] 45)).alloc (Obj.cells #[Value.int IntKind.i64 0, Value.int IntKind.i64 0, Value.int IntKind.i64 0, Value.int IntKind.i64 0, Value.int IntKind.i64 0] 45)) := ⟨_, rfl⟩
  have h0 : W1.cell? ⟨w.heap.size, 0, none⟩ = some (.int .i64 x.f0) := by rw [hW1]; go_simp
  have h1 : W1.cell? ⟨w.heap.size, 1, none⟩ = some (.int .i64 x.f1) := by rw [hW1]; go_simp
  have h2 : W1.cell? ⟨w.heap.size, 2, none⟩ = some (.int .i64 nv) := by rw [hW1]; go_simp
  have h3 : W1.cell? ⟨w.heap.size, 3, none⟩ = some (.int .i64 x.f3) := by rw [hW1]; go_simp
  have h4 : W1.cell? ⟨w.heap.size, 4, none⟩ = some (.int .i64 x.f4) := by rw [hW1]; go_simp
  have y0 : W1.cell? ⟨w.heap.size + 1, 0, none⟩ = some (.int .i64 0) := by rw [hW1]; go_simp
  have y1 : W1.cell? ⟨w.heap.size + 1, 1, none⟩ = some (.int .i64 0) := by rw [hW1]; go_simp
  have y2 : W1.cell? ⟨w.heap.size + 1, 2, none⟩ = some (.int .i64 0) := by rw [hW1]; go_simp
  have y3 : W1.cell? ⟨w.heap.size + 1, 3, none⟩ = some (.int .i64 0) := by rw [hW1]; go_simp
  have y4 : W1.cell? ⟨w.heap.size + 1, 4, none⟩ = some (.int .i64 0) := by rw [hW1]; go_simp
  have u0 : W1.frozen? ⟨w.heap.size + 1, 0, none⟩ = false := by rw [hW1]; go_simp
  have u1 : W1.frozen? ⟨w.heap.size + 1, 1, none⟩ = false := by rw [hW1]; go_simp
  have u2 : W1.frozen? ⟨w.heap.size + 1, 2, none⟩ = false := by rw [hW1]; go_simp
  have u3 : W1.frozen? ⟨w.heap.size + 1, 3, none⟩ = false := by rw [hW1]; go_simp
  have u4 : W1.frozen? ⟨w.heap.size + 1, 4, none⟩ = false := by rw [hW1]; go_simp
  have HB : Aside0 (Below w.heap.size w W1) := ⟨by rw [hW1]; repeat (first | exact Below.refl _ _ | apply below_alloc | apply pw_below_drewN | (refine below_set ?_ (by omega)))⟩
  rw [← hW1]
  clear hW1
  have n1 : w.heap.size + 1 ≠ w.heap.size := by omega
  go_region_held3 (fun w' => w'.cell? ⟨w.heap.size, 0, none⟩ = some (.int .i64 x.f0) ∧ w'.cell? ⟨w.heap.size, 1, none⟩ = some (.int .i64 x.f1) ∧ w'.cell? ⟨w.heap.size, 2, none⟩ = some (.int .i64 nv) ∧ w'.cell? ⟨w.heap.size, 3, none⟩ = some (.int .i64 x.f3) ∧ w'.cell? ⟨w.heap.size, 4, none⟩ = some (.int .i64 x.f4))
    ((repeat' refine And.intro ?_ ?_) <;> first
      | ((with_reducible refine far (far (far (far (far ?_ ?_) ?_) ?_) ?_) ?_) <;> first | exact blkne n1 | exact Sine.keepc (w := W1) qz14 qz3)
      | exact Sine.keepc (w := W1) qz14 qz3)
    (first
      | (go_at_call 57; (with_reducible refine (impl_IsLeg.calls _ _ _ _ _ _ _ HI.out).mono ?_); rintro e w' ⟨rfl, hw1⟩
         have HB3 : Aside0 (Below w.heap.size w w') := ⟨by (repeat (first | exact Below.refl _ _ | apply pw_below_drewN | apply below_drew1 | exact HB.out | refine below_step ?_ qz14)); done⟩
         have k0 := Sine.keepc (w := W1) y0 (show Below W1.heap.size W1 w' from by (repeat (first | exact Below.refl _ _ | apply pw_below_drewN | apply below_drew1 | exact HB.out | refine below_step ?_ qz14)); done)
         have z0 := keepz (w := W1) y0 u0 (show Below W1.heap.size W1 w' from by (repeat (first | exact Below.refl _ _ | apply pw_below_drewN | apply below_drew1 | exact HB.out | refine below_step ?_ qz14)); done)
         have k1 := Sine.keepc (w := W1) y1 (show Below W1.heap.size W1 w' from by (repeat (first | exact Below.refl _ _ | apply pw_below_drewN | apply below_drew1 | exact HB.out | refine below_step ?_ qz14)); done)
         have z1 := keepz (w := W1) y1 u1 (show Below W1.heap.size W1 w' from by (repeat (first | exact Below.refl _ _ | apply pw_below_drewN | apply below_drew1 | exact HB.out | refine below_step ?_ qz14)); done)
         have k2 := Sine.keepc (w := W1) y2 (show Below W1.heap.size W1 w' from by (repeat (first | exact Below.refl _ _ | apply pw_below_drewN | apply below_drew1 | exact HB.out | refine below_step ?_ qz14)); done)
         have z2 := keepz (w := W1) y2 u2 (show Below W1.heap.size W1 w' from by (repeat (first | exact Below.refl _ _ | apply pw_below_drewN | apply below_drew1 | exact HB.out | refine below_step ?_ qz14)); done)
         have k3 := Sine.keepc (w := W1) y3 (show Below W1.heap.size W1 w' from by (repeat (first | exact Below.refl _ _ | apply pw_below_drewN | apply below_drew1 | exact HB.out | refine below_step ?_ qz14)); done)
         have z3 := keepz (w := W1) y3 u3 (show Below W1.heap.size W1 w' from by (repeat (first | exact Below.refl _ _ | apply pw_below_drewN | apply below_drew1 | exact HB.out | refine below_step ?_ qz14)); done)
         have k4 := Sine.keepc (w := W1) y4 (show Below W1.heap.size W1 w' from by (repeat (first | exact Below.refl _ _ | apply pw_below_drewN | apply below_drew1 | exact HB.out | refine below_step ?_ qz14)); done)
         have z4 := keepz (w := W1) y4 u4 (show Below W1.heap.size W1 w' from by (repeat (first | exact Below.refl _ _ | apply pw_below_drewN | apply below_drew1 | exact HB.out | refine below_step ?_ qz14)); done)))
  go_wp2
  exact bodyPost_ret (v := .tuple #[.agg #[.int .i64 x.f0, .int .i64 x.f1, .int .i64 nv, .int .i64 x.f3, .int .i64 x.f4], .bool bb]) qz50 rfl ⟨rfl, by repeat (first | exact HB3.out | apply below_drew1 | (refine below_set ?_ (by omega)))⟩
theorem fixed4 (x : S45) (nv : Int) (hnv : nv = (wrap64 (x.f2 - 100))) (w : World) :
    Calls Tryd.prog 70 #[.agg #[.int .i64 x.f0, .int .i64 x.f1, .int .i64 x.f2, .int .i64 x.f3, .int .i64 x.f4], .int .i64 4] w (FixPost ⟨x.f0, x.f1, nv, x.f3, x.f4⟩ (decide (Good ⟨x.f0, x.f1, nv, x.f3, x.f4⟩)) w) := by
  have HI := Aside0.mk (IsLeg_eq ⟨x.f0, x.f1, nv, x.f3, x.f4⟩)
  simp only at HI
  generalize decide (Good ⟨x.f0, x.f1, nv, x.f3, x.f4⟩) = bb at *
  go_enter Tryd.func70, Tryd.ntmps70
  go_wp2
  rw [← hnv]
  clear hnv
  obtain ⟨W1, hW1⟩ : ∃ W1, W1 = ((w.alloc (Obj.cells #[Value.int IntKind.i64 x.f0, Value.int IntKind.i64 x.f1, Value.int IntKind.i64 nv, Value.int IntKind.i64 x.f3, Value.int IntKind.i64 x.f4] 45)).alloc (Obj.cells #[Value.int IntKind.i64 0, Value.int IntKind.i64 0, Value.int IntKind.i64 0, Value.int IntKind.i64 0, Value.int IntKind.i64 0] 45)) := ⟨_, rfl⟩
  have h0 : W1.cell? ⟨w.heap.size, 0, none⟩ = some (.int .i64 x.f0) := by rw [hW1]; go_simp
  have h1 : W1.cell? ⟨w.heap.size, 1, none⟩ = some (.int .i64 x.f1) := by rw [hW1]; go_simp
  have h2 : W1.cell? ⟨w.heap.size, 2, none⟩ = some (.int .i64 nv) := by rw [hW1]; go_simp
  have h3 : W1.cell? ⟨w.heap.size, 3, none⟩ = some (.int .i64 x.f3) := by rw [hW1]; go_simp
  have h4 : W1.cell? ⟨w.heap.size, 4, none⟩ = some (.int .i64 x.f4) := by rw [hW1]; go_simp
  have y0 : W1.cell? ⟨w.heap.size + 1, 0, none⟩ = some (.int .i64 0) := by rw [hW1]; go_simp
  have y1 : W1.cell? ⟨w.heap.size + 1, 1, none⟩ = some (.int .i64 0) := by rw [hW1]; go_simp
  have y2 : W1.cell? ⟨w.heap.size + 1, 2, none⟩ = some (.int .i64 0) := by rw [hW1]; go_simp
  have y3 : W1.cell? ⟨w.heap.size + 1, 3, none⟩ = some (.int .i64 0) := by rw [hW1]; go_simp
  have y4 : W1.cell? ⟨w.heap.size + 1, 4, none⟩ = some (.int .i64 0) := by rw [hW1]; go_simp
  have u0 : W1.frozen? ⟨w.heap.size + 1, 0, none⟩ = false := by rw [hW1]; go_simp
  have u1 : W1.frozen? ⟨w.heap.size + 1, 1, none⟩ = false := by rw [hW1]; go_simp
  have u2 : W1.frozen? ⟨w.heap.size + 1, 2, none⟩ = false := by rw [hW1]; go_simp
  have u3 : W1.frozen? ⟨w.heap.size + 1, 3, none⟩ = false := by rw [hW1]; go_simp
  have u4 : W1.frozen? ⟨w.heap.size + 1, 4, none⟩ = false := by rw [hW1]; go_simp
  have HB : Aside0 (Below w.heap.size w W1) := ⟨by rw [hW1]; repeat (first | exact Below.refl _ _ | apply below_alloc | apply pw_below_drewN | (refine below_set ?_ (by omega)))⟩
  rw [← hW1]
  clear hW1
  have n1 : w.heap.size + 1 ≠ w.heap.size := by omega
  go_region_held3 (fun w' => w'.cell? ⟨w.heap.size, 0, none⟩ = some (.int .i64 x.f0) ∧ w'.cell? ⟨w.heap.size, 1, none⟩ = some (.int .i64 x.f1) ∧ w'.cell? ⟨w.heap.size, 2, none⟩ = some (.int .i64 nv) ∧ w'.cell? ⟨w.heap.size, 3, none⟩ = some (.int .i64 x.f3) ∧ w'.cell? ⟨w.heap.size, 4, none⟩ = some (.int .i64 x.f4))
    ((repeat' refine And.intro ?_ ?_) <;> first
      | ((with_reducible refine far (far (far (far (far ?_ ?_) ?_) ?_) ?_) ?_) <;> first | exact blkne n1 | exact Sine.keepc (w := W1) qz14 qz3)
      | exact Sine.keepc (w := W1) qz14 qz3)
    (first
      | (go_at_call 57; (with_reducible refine (impl_IsLeg.calls _ _ _ _ _ _ _ HI.out).mono ?_); rintro e w' ⟨rfl, hw1⟩
         have HB3 : Aside0 (Below w.heap.size w w') := ⟨by (repeat (first | exact Below.refl _ _ | apply pw_below_drewN | apply below_drew1 | exact HB.out | refine below_step ?_ qz14)); done⟩
         have k0 := Sine.keepc (w := W1) y0 (show Below W1.heap.size W1 w' from by (repeat (first | exact Below.refl _ _ | apply pw_below_drewN | apply below_drew1 | exact HB.out | refine below_step ?_ qz14)); done)
         have z0 := keepz (w := W1) y0 u0 (show Below W1.heap.size W1 w' from by (repeat (first | exact Below.refl _ _ | apply pw_below_drewN | apply below_drew1 | exact HB.out | refine below_step ?_ qz14)); done)
         have k1 := Sine.keepc (w := W1) y1 (show Below W1.heap.size W1 w' from by (repeat (first | exact Below.refl _ _ | apply pw_below_drewN | apply below_drew1 | exact HB.out | refine below_step ?_ qz14)); done)
         have z1 := keepz (w := W1) y1 u1 (show Below W1.heap.size W1 w' from by (repeat (first | exact Below.refl _ _ | apply pw_below_drewN | apply below_drew1 | exact HB.out | refine below_step ?_ qz14)); done)
         have k2 := Sine.keepc (w := W1) y2 (show Below W1.heap.size W1 w' from by (repeat (first | exact Below.refl _ _ | apply pw_below_drewN | apply below_drew1 | exact HB.out | refine below_step ?_ qz14)); done)
         have z2 := keepz (w := W1) y2 u2 (show Below W1.heap.size W1 w' from by (repeat (first | exact Below.refl _ _ | apply pw_below_drewN | apply below_drew1 | exact HB.out | refine below_step ?_ qz14)); done)
         have k3 := Sine.keepc (w := W1) y3 (show Below W1.heap.size W1 w' from by (repeat (first | exact Below.refl _ _ | apply pw_below_drewN | apply below_drew1 | exact HB.out | refine below_step ?_ qz14)); done)
         have z3 := keepz (w := W1) y3 u3 (show Below W1.heap.size W1 w' from by (repeat (first | exact Below.refl _ _ | apply pw_below_drewN | apply below_drew1 | exact HB.out | refine below_step ?_ qz14)); done)
         have k4 := Sine.keepc (w := W1) y4 (show Below W1.heap.size W1 w' from by (repeat (first | exact Below.refl _ _ | apply pw_below_drewN | apply below_drew1 | exact HB.out | refine below_step ?_ qz14)); done)
         have z4 := keepz (w := W1) y4 u4 (show Below W1.heap.size W1 w' from by (repeat (first | exact Below.refl _ _ | apply pw_below_drewN | apply below_drew1 | exact HB.out | refine below_step ?_ qz14)); done)))
  go_wp2
  exact bodyPost_ret (v := .tuple #[.agg #[.int .i64 x.f0, .int .i64 x.f1, .int .i64 nv, .int .i64 x.f3, .int .i64 x.f4], .bool bb]) qz50 rfl ⟨rfl, by repeat (first | exact HB3.out | apply below_drew1 | (refine below_set ?_ (by omega)))⟩
theorem fixed0 (x : S45) (fix : Int) (hf : ¬ (1 ≤ fix ∧ fix ≤ 4)) (w : World) :
    Calls Tryd.prog 70 #[.agg #[.int .i64 x.f0, .int .i64 x.f1, .int .i64 x.f2, .int .i64 x.f3, .int .i64 x.f4], .int .i64 fix] w (FixPost ⟨0, 0, 0, 0, 0⟩ false w) := by
  have h1 : (fix == 1) = false := by rw [beq_eq_false_iff_ne]; omega
  have h2 : (fix == 2) = false := by rw [beq_eq_false_iff_ne]; omega
  have h3 : (fix == 3) = false := by rw [beq_eq_false_iff_ne]; omega
  have h4 : (fix == 4) = false := by rw [beq_eq_false_iff_ne]; omega
  clear hf
  go_enter Tryd.func70, Tryd.ntmps70
  go_wp2
  exact bodyPost_ret (v := .tuple #[.agg #[.int .i64 0, .int .i64 0, .int .i64 0, .int .i64 0, .int .i64 0], .bool false]) (by simp [results, Tryd.results70, go_sem]) rfl ⟨rfl, by repeat (first | exact Below.refl _ _ | apply below_alloc | apply below_drew1 | (refine below_set ?_ (by omega)))⟩
theorem fixedW (x : S45) (fix : Int) (w : World) :
    Calls Tryd.prog 70 #[.agg #[.int .i64 x.f0, .int .i64 x.f1, .int .i64 x.f2, .int .i64 x.f3, .int .i64 x.f4], .int .i64 fix] w (FixPost (fixedM x fix).1 (fixedM x fix).2 w) := by
  by_cases hf : 1 ≤ fix ∧ fix ≤ 4
  · unfold fixedM
    rw [if_pos hf]
    have hc : fix = 1 ∨ fix = 2 ∨ fix = 3 ∨ fix = 4 := by omega
    rcases hc with rfl | rfl | rfl | rfl
    · exact fixed1 x _ rfl w
    · exact fixed2 x _ rfl w
    · exact fixed3 x _ rfl w
    · exact fixed4 x _ rfl w
  · unfold fixedM
    rw [if_neg hf]
    exact fixed0 x fix hf w
theorem eqNil (la : Addr) (n c : Nat) (w : World) : (binOp .eql 26 (.slice (some la) n c) (.slice none 0 0)).run Tryd.prog w = .ok (.bool false) w := by
  have h : ∀ d : Nat, (Op.equalIn (d + 1) 26 (.slice (some la) n c) (.slice none 0 0)).run Tryd.prog w = .ok false w := fun d => by simp [Op.equalIn, run_underlying Tryd.underlying26]
  simp [binOp, Op.equal, Op.maxDepth, h]
attribute [local go_sem] eqNil
theorem cloneW (la : Addr) (c : Nat) (ls : L) (w : World) (hr0 : Kd.C k45 w (some la) ls.length ls) (hc : ls.length ≤ c) (hn : ls.length ≤ 12) :
    Calls Tryd.prog 51 #[.slice (some la) ls.length c] w fun e w' => ∃ v, e = .returned v ∧ Kd.R k45 45 w' w.heap.size (fun b => w.heap.size ≤ b) v ls ∧ Below w.heap.size w w' := by
  have HR0 := Aside0.mk hr0
  have HB := Aside0.mk (Below.refl w.heap.size w)
  clear hr0
  go_enter Tryd.func51, Tryd.ntmps51
  go_wp2_with (first
    | ((with_reducible refine gate_dst (N := 5) rfl ?_); refine Kd.R_lit k45 _ 45 ?hg (N := 5) ?hd (xs := ([] : List (S45))) (inner := []) (ok := fun b => w.heap.size ≤ b) (okp := fun b => w.heap.size ≤ b) ?hr ?hp (fun _ hk => hk) (Nat.le_refl _) (Below.refl _ _) (Nat.le_refl _) (by simp) ?_; (case hd => rfl); (case hg => rfl); (case hr => first | (go_simp; done) | (go_simp; rfl)); (case hp => exact (Reps.none _ _)); intro v1 w1 ho1 hb hg_ hnew_; clear hg_ hnew_; have HO := Aside0.mk ho1; replace HB := Aside0.mk (below_step HB.out hb); clear hb ho1)
    | ((with_reducible refine gate_builtin (b := .append) (xs := #[.tmp 5, .tmp 6]) rfl ?_); at_builtin; refine Kd.R_append_rows k45 (w0 := w) w.heap.size rfl (.tmp 5) (.tmp 6) 26 45 (.agg #[(.int .i64 0), (.int .i64 0), (.int .i64 0), (.int .i64 0), (.int .i64 0)]) 40 rfl Tryd.underlying26 info45 rfl (by decide) (by omega) v1 [] ls _ _ _ (fun b => w.heap.size ≤ b) (fun _ => False) rfl rfl ?aO ?aR (fun _ _ h => h) (fun _ h => h.elim) ?aF ?aB ?aS ?aL ?_; (case aR => exact (Kd.C_below HR0.out HB.out)); (case aB => exact HB.out); (case aF => intro b hb; have := below_size HB.out; omega); (case aO => exact HO.out); (case aS => exact (below_size HB.out)); (case aL => simp; omega); intro v2 w2 ho hb hg hat; have HP1 := Aside0.mk ho; have HP2 := Aside0.mk hb; clear ho hb hg hat))
  go_ret
  exact ⟨_, rfl, HP1.out, HP2.out⟩
theorem fixLegNo (A : Option Addr) (c : Nat) (ls : L) (k : Nat) (fix : Int) (w : World) (hr0 : Kd.C k45 w A ls.length ls) (hk : k < ls.length) (hno : (fixedM (leg ls k) fix).2 = false) :
    Calls Tryd.prog 52 #[.slice A ls.length c, .int .i64 (k : Int), .int .i64 fix] w fun e w' => e = .returned (.tuple #[.slice none 0 0, .bool false]) ∧ Below w.heap.size w w' := by
  obtain ⟨la, e2, h0, h1, h2, h3, h4⟩ := at_T45 hr0 (k : Int) (by omega) (by omega)
  cases e2
  rw [Int.toNat_natCast, show rd_T45 ls (k : Int) = leg ls k from rfl] at h0 h1 h2 h3 h4
  have k0 : (0 : Int) ≤ (k : Int) := by omega
  have k1 : (k : Int) < (ls.length : Int) := by omega
  have HF := Aside0.mk (fun W => fixedW (leg ls k) fix W)
  rw [hno] at HF
  have HB := Aside0.mk (Below.refl w.heap.size w)
  clear hr0 hno
  generalize (fixedM (leg ls k) fix).1 = y at *
  generalize leg ls (k : Int) = x at *
  go_enter Tryd.func52, Tryd.ntmps52
  go_wp2_with (go_at_call 70; have hq := HF.out w; (with_reducible refine hq.mono ?_); clear hq; rintro e w1 ⟨rfl, hw⟩; replace HB := Aside0.mk hw; clear hw)
  exact bodyPost_ret (v := .tuple #[.slice none 0 0, .bool false]) (by simp [results, Tryd.results52, go_sem]) rfl ⟨rfl, by repeat (first | exact HB.out | apply below_alloc | apply below_drew1 | (refine below_set ?_ (by have := below_size HB.out; omega)))⟩
theorem fixLegYes (A : Option Addr) (c : Nat) (ls : L) (k : Nat) (fix : Int) (w : World) (hr0 : Kd.C k45 w A ls.length ls) (hc : ls.length ≤ c) (hn : ls.length ≤ 12) (hk : k < ls.length) (hyes : (fixedM (leg ls k) fix).2 = true) :
    Calls Tryd.prog 52 #[.slice A ls.length c, .int .i64 (k : Int), .int .i64 fix] w fun e w' => ∃ v, e = .returned (.tuple #[v, .bool true]) ∧ Kd.R k45 45 w' w.heap.size (fun _ => True) v (ls.set k (fixedM (leg ls k) fix).1) ∧ Below w.heap.size w w' := by
  obtain ⟨la, e2, h0, h1, h2, h3, h4⟩ := at_T45 hr0 (k : Int) (by omega) (by omega)
  cases e2
  rw [Int.toNat_natCast, show rd_T45 ls (k : Int) = leg ls k from rfl] at h0 h1 h2 h3 h4
  have k0 : (0 : Int) ≤ (k : Int) := by omega
  have k1 : (k : Int) < (ls.length : Int) := by omega
  have HF := Aside0.mk (fun W => fixedW (leg ls k) fix W)
  rw [hyes] at HF
  have HR := Aside0.mk hr0
  have HB := Aside0.mk (Below.refl w.heap.size w)
  clear hr0 hyes
  generalize (fixedM (leg ls k) fix).1 = y at *
  generalize leg ls (k : Int) = x at *
  go_enter Tryd.func52, Tryd.ntmps52
  go_wp2_with (first
    | (go_at_call 70; have hq := HF.out w; (with_reducible refine hq.mono ?_); clear hq; rintro e w1 ⟨rfl, hw⟩; replace HB := Aside0.mk hw; clear hw)
    | (go_at_call 51
       have HB2 := Aside0.mk (below_alloc HB.out (Obj.cells #[Value.int IntKind.i64 y.f0, Value.int IntKind.i64 y.f1, Value.int IntKind.i64 y.f2, Value.int IntKind.i64 y.f3, Value.int IntKind.i64 y.f4] 45))
       have c0 : (w1.alloc (Obj.cells #[Value.int IntKind.i64 y.f0, Value.int IntKind.i64 y.f1, Value.int IntKind.i64 y.f2, Value.int IntKind.i64 y.f3, Value.int IntKind.i64 y.f4] 45)).cell? ⟨w1.heap.size, 0, none⟩ = some (.int .i64 y.f0) := by go_simp
       have c1 : (w1.alloc (Obj.cells #[Value.int IntKind.i64 y.f0, Value.int IntKind.i64 y.f1, Value.int IntKind.i64 y.f2, Value.int IntKind.i64 y.f3, Value.int IntKind.i64 y.f4] 45)).cell? ⟨w1.heap.size, 1, none⟩ = some (.int .i64 y.f1) := by go_simp
       have c2 : (w1.alloc (Obj.cells #[Value.int IntKind.i64 y.f0, Value.int IntKind.i64 y.f1, Value.int IntKind.i64 y.f2, Value.int IntKind.i64 y.f3, Value.int IntKind.i64 y.f4] 45)).cell? ⟨w1.heap.size, 2, none⟩ = some (.int .i64 y.f2) := by go_simp
       have c3 : (w1.alloc (Obj.cells #[Value.int IntKind.i64 y.f0, Value.int IntKind.i64 y.f1, Value.int IntKind.i64 y.f2, Value.int IntKind.i64 y.f3, Value.int IntKind.i64 y.f4] 45)).cell? ⟨w1.heap.size, 3, none⟩ = some (.int .i64 y.f3) := by go_simp
       have c4 : (w1.alloc (Obj.cells #[Value.int IntKind.i64 y.f0, Value.int IntKind.i64 y.f1, Value.int IntKind.i64 y.f2, Value.int IntKind.i64 y.f3, Value.int IntKind.i64 y.f4] 45)).cell? ⟨w1.heap.size, 4, none⟩ = some (.int .i64 y.f4) := by go_simp
       have hsz := below_size HB2.out
       have hq := cloneW la c ls (w1.alloc (Obj.cells #[Value.int IntKind.i64 y.f0, Value.int IntKind.i64 y.f1, Value.int IntKind.i64 y.f2, Value.int IntKind.i64 y.f3, Value.int IntKind.i64 y.f4] 45)) (Kd.C_below HR.out HB2.out) hc hn
       (with_reducible refine hq.mono ?_); clear hq; rintro e w3 ⟨v, rfl, hv, hw⟩
       replace c0 := Sine.keepc c0 hw
       replace c1 := Sine.keepc c1 hw
       replace c2 := Sine.keepc c2 hw
       replace c3 := Sine.keepc c3 hw
       replace c4 := Sine.keepc c4 hw
       have HO := Aside0.mk (Kd.R_lower (Kd.R_mono hv (fun _ _ => trivial) (ok' := fun _ => True)) hsz)
       replace HB := Aside0.mk (below_step HB2.out hw)
       clear HB2 hv hw
       obtain ⟨gg, cc, eo, gb, gl, cl, HG8⟩ := Kd.R_form HO.out (by omega)
       subst eo
       obtain ⟨ce, hcl, hM, hcc, hfr⟩ := Kd.R_elem HO.out z45 (k : Int) k0 k1
       obtain rfl := k45_openM hM
       have HP := Aside0.mk (Kd.R_seg HO.out (k : Int) k0 k1 (seg := [.int .i64 y.f0, .int .i64 y.f1, .int .i64 y.f2, .int .i64 y.f3, .int .i64 y.f4]) (j := 0) hcl hcc (show 5 ≤ 5 from by decide) (x' := y) (k45_mkM _ _ _ y) (fun _ hk => hk))
       have x0 := hcc 0 _ rfl
       have x1 := hcc 1 _ rfl
       have x2 := hcc 2 _ rfl
       have x3 := hcc 3 _ rfl
       have x4 := hcc 4 _ rfl
       have f0 := hfr 0
       have f1 := hfr 1
       have f2 := hfr 2
       have f3 := hfr 3
       have f4 := hfr 4
       (try simp only [show (k45).sz = 5 from rfl, Nat.mul_one, Nat.add_zero, Int.toNat_natCast] at x0 x1 x2 x3 x4 f0 f1 f2 f3 f4)))
  exact bodyPost_ret (v := .tuple #[.slice (some ⟨gg, 0, none⟩) ls.length cc, .bool true]) (by simp [results, Tryd.results52, go_sem]) rfl ⟨_, rfl, by have h := HP.out.1; rw [Int.toNat_natCast, Nat.add_zero] at h; exact h, by repeat (first | exact HB.out | (refine below_set ?_ (by omega)))⟩
end Go.Proofs.YtpojnobgijoddaaDoor.Net
namespace Go.Proofs.YtpojnobgijoddaaDoor.A
open Go.RowKit YtpojnobgijoddaaDoorW.PrintWords YtpojnobgijoddaaDoorW.PrintLast YtpojnobgijoddaaDoorW.PrintMore
open Net
def impl_FixLeg.f (l0 : List (S45)) (a1 a2 : Int) : Option (List (S45) × Bool) := if l0.length ≤ 140737488351232 then some (fixM l0 a1 a2) else none
theorem impl_FixLeg.calls (A0 : Option Addr) (c0 : Nat) (l0 : List (S45)) (a1 : Int) (a2 : Int) (r1 : List (S45)) (r2 : Bool) (w : World) (hr0 : Kd.C k45 w A0 l0.length l0) (hc0 : l0.length ≤ c0) (h : impl_FixLeg.f l0 a1 a2 = some (r1, r2)) (hL : Sine.Laid w) :
    Calls Tryd.prog 39 #[.slice A0 l0.length c0, .int .i64 a1, .int .i64 a2] w fun e w' => ∃ v0_ : Value, e = .returned (.tuple #[v0_, .bool r2]) ∧ Kd.R k45 45 w' w.heap.size (fun _ => True) v0_ r1 ∧ Below w.heap.size w w' := by
  unfold impl_FixLeg.f at h
  by_cases hb : l0.length ≤ 140737488351232
  · rw [if_pos hb] at h
    unfold fixM at h
    have HR := Aside0.mk hr0
    have HL := Aside0.mk hL
    have HB := Aside0.mk (Below.refl w.heap.size w)
    by_cases hm : legsB l0 = true ∧ (0 ≤ a1 ∧ a1 < (l0.length : Int))
    · obtain ⟨k, rfl⟩ := Int.eq_ofNat_of_zero_le hm.2.1
      have HV := Aside0.mk (legsB_iff.mp hm.1)
      have hv := hm.1
      have h0 := hm.2.1
      have h1 := hm.2.2
      have hk : k < l0.length := by omega
      have hgk := leg_good HV.out.1 k hk
      have hpq : Pq (RR l0) (leg l0 k).f0.toNat = decide ((leg l0 k).f0 ∈ plL (RR l0)) := by rw [Pq_eq, Int.toNat_of_nonneg hgk.1.1]
      clear hr0 hL hgk
      by_cases hp : (leg l0 k).f0 ∈ plL (RR l0)
      · rw [decide_eq_true hp] at hpq
        have hfx : (fixedM (leg l0 k) a2).2 = decide ((1 ≤ a2 ∧ a2 ≤ 4) ∧ Net.Good (fixX (leg l0 k) a2)) := by
          unfold fixedM
          by_cases q : 1 ≤ a2 ∧ a2 ≤ 4
          · rw [if_pos q]
            show decide _ = decide _
            rw [decide_eq_decide]
            exact ⟨fun z => ⟨q, z⟩, fun z => z.2⟩
          · rw [if_neg q, decide_eq_false (fun z => q z.1)]
        by_cases hy : (1 ≤ a2 ∧ a2 ≤ 4) ∧ Net.Good (fixX (leg l0 k) a2)
        · rw [if_pos ⟨hm.1, hm.2, hp, hy.1, hy.2⟩, Int.toNat_natCast] at h
          simp only [Option.some.injEq, Prod.mk.injEq] at h
          obtain ⟨rfl, rfl⟩ := h
          rw [decide_eq_true hy] at hfx
          have hfe : fixX (leg l0 k) a2 = (fixedM (leg l0 k) a2).1 := by unfold fixedM; rw [if_pos hy.1]
          rw [hfe]
          have hn := HV.out.2
          clear hm hp hy hfe
          go_enter Tryd.func39, Tryd.ntmps39
          go_wp2_with (first
            | (go_at_call 43; (with_reducible refine (placedLeg A0 c0 l0 (k : Int) _ ?s0 ?s1 hc0 hv h0 h1).mono ?_); (case s0 => exact HL.out.keep qz5); (case s1 => exact Kd.C_below HR.out qz5); rintro e w' ⟨g, T, cA, cC, rfl, _, _, hw⟩; rw [hpq]; replace HB := Aside0.mk (below_step (show Below w.heap.size w _ from by (repeat (first | exact HB.out | exact Below.refl _ _ | apply below_alloc | apply pw_below_drewN | apply below_drew1)); done) hw); clear hw)
            | (go_at_call 52; have hsz := below_size HB.out; have hq := fixLegYes A0 c0 l0 k a2 w' (Kd.C_below HR.out HB.out) hc0 hn hk hfx; (with_reducible refine hq.mono ?_); clear hq; rintro e w3 ⟨v, rfl, hv3, hw⟩; have HO := Aside0.mk (Kd.R_lower hv3 hsz); replace HB := Aside0.mk (below_step HB.out hw); clear hw hv3))
          exact bodyPost_ret (v := .tuple #[v, .bool true]) (by simp [results, Tryd.results39, go_sem]) rfl ⟨_, rfl, HO.out, by repeat (first | exact HB.out | apply below_drew1)⟩
        · rw [if_neg (fun e => hy ⟨e.2.2.2.1, e.2.2.2.2⟩)] at h
          simp only [Option.some.injEq, Prod.mk.injEq] at h
          obtain ⟨rfl, rfl⟩ := h
          rw [decide_eq_false hy] at hfx
          clear hm hp hy
          go_enter Tryd.func39, Tryd.ntmps39
          go_wp2_with (first
            | (go_at_call 43; (with_reducible refine (placedLeg A0 c0 l0 (k : Int) _ ?s0 ?s1 hc0 hv h0 h1).mono ?_); (case s0 => exact HL.out.keep qz5); (case s1 => exact Kd.C_below HR.out qz5); rintro e w' ⟨g, T, cA, cC, rfl, _, _, hw⟩; rw [hpq]; replace HB := Aside0.mk (below_step (show Below w.heap.size w _ from by (repeat (first | exact HB.out | exact Below.refl _ _ | apply below_alloc | apply pw_below_drewN | apply below_drew1)); done) hw); clear hw)
            | (go_at_call 52; have hq := fixLegNo A0 c0 l0 k a2 w' (Kd.C_below HR.out HB.out) hk hfx; (with_reducible refine hq.mono ?_); clear hq; rintro e w3 ⟨rfl, hw⟩; replace HB := Aside0.mk (below_step HB.out hw); clear hw))
          exact bodyPost_ret (v := .tuple #[.slice none 0 0, .bool false]) (by simp [results, Tryd.results39, go_sem]) rfl ⟨_, rfl, Kd.R_nil _ _ _ _ _, by repeat (first | exact HB.out | apply below_drew1)⟩
      · rw [if_neg (fun e => hp e.2.2.1)] at h
        simp only [Option.some.injEq, Prod.mk.injEq] at h
        obtain ⟨rfl, rfl⟩ := h
        rw [decide_eq_false hp] at hpq
        clear hm hp
        go_enter Tryd.func39, Tryd.ntmps39
        go_wp2_with (go_at_call 43; (with_reducible refine (placedLeg A0 c0 l0 (k : Int) _ ?s0 ?s1 hc0 hv h0 h1).mono ?_); (case s0 => exact HL.out.keep qz5); (case s1 => exact Kd.C_below HR.out qz5); rintro e w' ⟨g, T, cA, cC, rfl, _, _, hw⟩; rw [hpq]; replace HB := Aside0.mk (below_step (show Below w.heap.size w _ from by (repeat (first | exact HB.out | exact Below.refl _ _ | apply below_alloc | apply pw_below_drewN | apply below_drew1)); done) hw); clear hw)
        exact bodyPost_ret (v := .tuple #[.slice none 0 0, .bool false]) (by simp [results, Tryd.results39, go_sem]) rfl ⟨_, rfl, Kd.R_nil _ _ _ _ _, by repeat (first | exact HB.out | apply below_drew1)⟩
    · rw [if_neg (by rintro ⟨h1, h2, _⟩; exact hm ⟨h1, h2⟩)] at h
      simp only [Option.some.injEq, Prod.mk.injEq] at h
      obtain ⟨rfl, rfl⟩ := h
      have hno : legsB l0 = true → ¬ (0 ≤ a1 ∧ a1 < (l0.length : Int)) := fun h1 h2 => hm ⟨h1, h2⟩
      clear hr0 hL hm
      go_enter Tryd.func39, Tryd.ntmps39
      go_wp2_with (go_at_call 43; (with_reducible refine (placedLeg_no A0 c0 l0 a1 _ ?s1 hc0 hb hno).mono ?_); (case s1 => exact Kd.C_below HR.out qz5); rintro e w' ⟨rfl, hw⟩; replace HB := Aside0.mk (below_step (show Below w.heap.size w _ from by (repeat (first | exact HB.out | exact Below.refl _ _ | apply below_alloc | apply pw_below_drewN | apply below_drew1)); done) hw); clear hw)
      exact bodyPost_ret (v := .tuple #[.slice none 0 0, .bool false]) (by simp [results, Tryd.results39, go_sem]) rfl ⟨_, rfl, Kd.R_nil _ _ _ _ _, by repeat (first | exact HB.out | apply below_drew1)⟩
  · rw [if_neg hb] at h
    cases h
end Go.Proofs.YtpojnobgijoddaaDoor.A
namespace Go.Proofs.YtpojnobgijoddaaDoor.A
open Go Go.RowKit YtpojnobgijoddaaDoorW.PrintWords YtpojnobgijoddaaDoorW.PrintLast YtpojnobgijoddaaDoorW.PrintMore
open Net (L Sine.Laid legsB legsB_iff legsB_set fixM sNum sDen strainW StrainPost)
theorem fixM_ok {ls : L} {i fix : Int} (h : (fixM ls i fix).2 = true) : (∀ x ∈ (fixM ls i fix).1, Net.Good x) ∧ (fixM ls i fix).1.length ≤ 12 := by
  unfold fixM at h ⊢
  split at h
  · rename_i c
    rw [if_pos c]
    have hl := legsB_set c.1 i.toNat (by omega) (Net.fixX (Net.leg ls i) fix)
    rw [decide_eq_true c.2.2.2.2] at hl
    exact legsB_iff.mp hl
  · cases h
def afterM (ls : L) (i fix : Int) : Int × Int × Bool := if (fixM ls i fix).2 = true then (sNum (fixM ls i fix).1, sDen (fixM ls i fix).1, true) else (0, 0, false)
def impl_StrainAfter.f (l0 : List (S45)) (a1 a2 : Int) : Option (Int × Int × Bool) := if l0.length ≤ 140737488351232 then some (afterM l0 a1 a2) else none
theorem impl_StrainAfter.calls (A0 : Option Addr) (c0 : Nat) (l0 : List (S45)) (a1 : Int) (a2 : Int) (r1 : Int) (r2 : Int) (r3 : Bool) (w : World) (hr0 : Kd.C k45 w A0 l0.length l0) (hc0 : l0.length ≤ c0) (h : impl_StrainAfter.f l0 a1 a2 = some (r1, r2, r3)) (hL : Sine.Laid w) :
    Calls Tryd.prog 18 #[.slice A0 l0.length c0, .int .i64 a1, .int .i64 a2] w fun e w' => e = .returned (.tuple #[.int .i64 r1, .int .i64 r2, .bool r3]) ∧ Below w.heap.size w w' := by
  unfold impl_StrainAfter.f at h
  by_cases hb : l0.length ≤ 140737488351232
  case neg => rw [if_neg hb] at h; cases h
  rw [if_pos hb] at h
  have HR := Aside0.mk hr0
  have HL := Aside0.mk hL
  have HB := Aside0.mk (Below.refl w.heap.size w)
  have hfx : impl_FixLeg.f l0 a1 a2 = some ((fixM l0 a1 a2).1, (fixM l0 a1 a2).2) := by unfold impl_FixLeg.f; rw [if_pos hb]
  have hok := fixM_ok (ls := l0) (i := a1) (fix := a2)
  unfold afterM at h
  clear hr0 hL hb
  generalize (fixM l0 a1 a2).1 = y at *
  cases hv : (fixM l0 a1 a2).2
  · rw [if_neg (by rw [hv]; simp)] at h
    simp only [Option.some.injEq, Prod.mk.injEq] at h
    obtain ⟨rfl, rfl, rfl⟩ := h
    rw [hv] at hfx
    have HFX := Aside0.mk hfx
    clear hv hok hfx
    go_enter Tryd.func18, Tryd.ntmps18
    go_wp2_with (go_at_call 39; (with_reducible refine (impl_FixLeg.calls _ _ l0 _ _ y false _ ?s1 hc0 HFX.out ?s2).mono ?_); (case s1 => exact Kd.C_below HR.out qz5); (case s2 => exact HL.out.keep qz5); rintro e w1 ⟨v, rfl, hv, hw⟩; replace HB := Aside0.mk (below_step (show Below w.heap.size w _ from by (repeat (first | exact HB.out | exact Below.refl _ _ | apply below_alloc | apply pw_below_drewN | apply below_drew1)); done) hw); clear hv hw)
    exact bodyPost_ret (v := .tuple #[.int .i64 0, .int .i64 0, .bool false]) (by simp [results, Tryd.results18, go_sem]) rfl ⟨rfl, by (repeat (first | exact HB.out | exact Below.refl _ _ | apply below_alloc | apply pw_below_drewN | apply below_drew1)); done⟩
  · rw [if_pos hv] at h
    simp only [Option.some.injEq, Prod.mk.injEq] at h
    obtain ⟨rfl, rfl, rfl⟩ := h
    obtain ⟨hg, hn⟩ := hok hv
    rw [hv] at hfx
    have HFX := Aside0.mk hfx
    have HG := Aside0.mk hg
    clear hv hok hfx hg
    go_enter Tryd.func18, Tryd.ntmps18
    go_wp2_with (first
      | (go_at_call 39; (with_reducible refine (impl_FixLeg.calls _ _ l0 _ _ y true _ ?s1 hc0 HFX.out ?s2).mono ?_); (case s1 => exact Kd.C_below HR.out qz5); (case s2 => exact HL.out.keep qz5); rintro e w1 ⟨v, rfl, hv, hw⟩; obtain ⟨A1, c1, ev⟩ := Kd.R_slice hv; subst ev; have HV := Aside0.mk (Kd.R_reads' hv).2; replace HB := Aside0.mk (below_step (show Below w.heap.size w _ from by (repeat (first | exact HB.out | exact Below.refl _ _ | apply below_alloc | apply pw_below_drewN | apply below_drew1)); done) hw); clear hv hw)
      | (go_at_call 33; (with_reducible refine (strainW A1 c1 y _ ?s1 ?s2 HV.out.1 hn HG.out).mono ?_); (case s1 => exact HL.out.keep qz5); (case s2 => exact Kd.C_below HV.out.2 (by first | exact Below.refl _ _ | ((repeat (first | exact Below.refl _ _ | apply pw_below_drewN | apply below_drew1 | exact HB.out | refine below_step ?_ qz14)); done))); rintro e w2 ⟨rfl, hw⟩; replace HB := Aside0.mk (below_step (show Below w.heap.size w _ from by (repeat (first | exact HB.out | exact Below.refl _ _ | apply below_alloc | apply pw_below_drewN | apply below_drew1)); done) hw); clear hw))
    have c0 : (w2.alloc (Obj.cells #[Value.int IntKind.i64 (sNum y), Value.int IntKind.i64 (sDen y)] 49)).cell? ⟨w2.heap.size, 0, none⟩ = some (.int .i64 (sNum y)) := by go_simp
    have c1 : (w2.alloc (Obj.cells #[Value.int IntKind.i64 (sNum y), Value.int IntKind.i64 (sDen y)] 49)).cell? ⟨w2.heap.size, 1, none⟩ = some (.int .i64 (sDen y)) := by go_simp
    replace HB : Aside0 (Below w.heap.size w (w2.alloc (Obj.cells #[Value.int IntKind.i64 (sNum y), Value.int IntKind.i64 (sDen y)] 49))) := ⟨by (repeat (first | exact HB.out | exact Below.refl _ _ | apply below_alloc | apply pw_below_drewN | apply below_drew1)); done⟩
    generalize w2.alloc (Obj.cells #[Value.int IntKind.i64 (sNum y), Value.int IntKind.i64 (sDen y)] 49) = w3 at *
    go_region_held3 (fun w' => w'.cell? ⟨w2.heap.size, 0, none⟩ = some (.int .i64 (sNum y)) ∧ w'.cell? ⟨w2.heap.size, 1, none⟩ = some (.int .i64 (sDen y)))
      ((repeat' refine And.intro ?_ ?_) <;> first | assumption | exact Net.Sine.keepc (w := w3) qz14 qz3)
      (fail)
    all_goals go_wp2
    all_goals exact bodyPost_ret (v := .tuple #[.int .i64 (sNum y), .int .i64 (sDen y), .bool true]) (by simp [results, Tryd.results18, go_sem]) rfl ⟨rfl, by (repeat (first | exact HB.out | exact Below.refl _ _ | apply below_alloc | apply pw_below_drewN | apply below_drew1)); done⟩
end Go.Proofs.YtpojnobgijoddaaDoor.A
namespace Go.Proofs.YtpojnobgijoddaaDoor.A
open Go.Proofs.YtpojnobgijoddaaDoor Go.RowKit YtpojnobgijoddaaDoorW.PrintWords YtpojnobgijoddaaDoorW.PrintLast YtpojnobgijoddaaDoorW.PrintMore
attribute [local go_sem] max2_int min2_int max_two min_two max_three min_three max_four min_four
def laws_FnExactStrainAfter.j0 : Nat → List (S47) → List (S45) → Bool → Option (Bool)
 | 0, _, _, _ => none
 | k + 1, x0, x11, x51 => if x51 = true then (some false) else ((laws_toLegS.f k x0).bind fun t399 => ((laws_eqLegS.f k x11 t399).bind fun t402 => (if t402 = true then (some true) else (some false))))
def laws_FnExactStrainAfter.f (k : Nat) (l0 : List (S47)) (a1 : Int) (a2 : Int) : Option (Bool) := (laws_szLegS.f l0 1048576).bind fun t386 => (if t386 < 0 then (some true) else ((laws_toLegS.f k l0).bind fun t387 => ((spec_StrainAfter.f k t387 a1 a2).bind fun bt390 => ((laws_toLegS.f k l0).bind fun t393 => ((impl_StrainAfter.f t393 a1 a2).bind fun bt396 => (if bt396.1 = bt390.1 then (if bt396.2.1 = bt390.2.1 then (laws_FnExactStrainAfter.j0 k l0 t393 (bt396.2.2 != bt390.2.2)) else (laws_FnExactStrainAfter.j0 k l0 t393 true)) else (laws_FnExactStrainAfter.j0 k l0 t393 true)))))))
theorem laws_FnExactStrainAfter.mono_l : ∀ k, (∀ y0 y1 y2, LeO (laws_FnExactStrainAfter.j0 k y0 y1 y2) (laws_FnExactStrainAfter.j0 (k + 1) y0 y1 y2))
 | 0 => fun _ _ _ r h => by simp [laws_FnExactStrainAfter.j0] at h
 | k + 1 => by
  have ih0 := laws_FnExactStrainAfter.mono_l k
  ·
   intro y0 y1 y2
   unfold laws_FnExactStrainAfter.j0
   repeat' first
   | (with_reducible exact ih0 _ _ _)
   | (with_reducible exact laws_eqLegS.mono _ _ _)
   | (with_reducible exact laws_toLegS.mono _ _)
   | (with_reducible exact spec_StrainAfter.mono _ _ _ _)
   | (with_reducible exact LeO.refl _)
   | (with_reducible exact LeO.none _)
   | (with_reducible refine LeO.ite ?_ ?_)
   | (with_reducible refine LeO.bind ?_ (fun _ => ?_))
   | exact ih0 _ _ _
   | exact laws_eqLegS.mono _ _ _
   | exact laws_toLegS.mono _ _
   | exact spec_StrainAfter.mono _ _ _ _
   | exact LeO.none _
   | refine LeO.ite ?_ ?_
   | refine LeO.bind ?_ (fun _ => ?_)
theorem laws_FnExactStrainAfter.mono : ∀ a0 a1 a2 k, LeO (laws_FnExactStrainAfter.f k a0 a1 a2) (laws_FnExactStrainAfter.f (k + 1) a0 a1 a2) := by
 intro a0 a1 a2 k
 have ih0 := laws_FnExactStrainAfter.mono_l k
 unfold laws_FnExactStrainAfter.f
 repeat' first
   | (with_reducible exact ih0 _ _ _)
   | (with_reducible exact laws_eqLegS.mono _ _ _)
   | (with_reducible exact laws_toLegS.mono _ _)
   | (with_reducible exact spec_StrainAfter.mono _ _ _ _)
   | (with_reducible exact LeO.refl _)
   | (with_reducible exact LeO.none _)
   | (with_reducible refine LeO.ite ?_ ?_)
   | (with_reducible refine LeO.bind ?_ (fun _ => ?_))
   | exact ih0 _ _ _
   | exact laws_eqLegS.mono _ _ _
   | exact laws_toLegS.mono _ _
   | exact spec_StrainAfter.mono _ _ _ _
   | exact LeO.none _
   | refine LeO.ite ?_ ?_
   | refine LeO.bind ?_ (fun _ => ?_)
theorem laws_FnExactStrainAfter.calls (k : Nat) (A0 : Option Addr) (c0 : Nat) (l0 : List (S47)) (a1 : Int) (a2 : Int) (r : Bool) (w : World) (hr0 : Kd.C k47 w A0 l0.length l0) (hc0 : l0.length ≤ c0) (h : laws_FnExactStrainAfter.f k l0 a1 a2 = some true) (hL : Net.Sine.Laid w) :
  Calls Tryd.prog 5 #[.slice A0 l0.length c0, .int .i64 a1, .int .i64 a2] w fun e w' => e = .returned (.bool true) ∧ Below w.heap.size w w' := by
 have HL := Aside0.mk hL
 clear hL
 have HR0 := Aside0.mk hr0
 have HC0 := Aside0.mk hc0
 clear hr0 hc0
 have HB := Aside0.mk (Below.refl w.heap.size w)
 have H : ((laws_szLegS.f l0 1048576).bind fun t386 => (if t386 < 0 then (some true) else ((laws_toLegS.f k l0).bind fun t387 => ((spec_StrainAfter.f k t387 a1 a2).bind fun bt390 => ((laws_toLegS.f k l0).bind fun t393 => ((impl_StrainAfter.f t393 a1 a2).bind fun bt396 => (if bt396.1 = bt390.1 then (if bt396.2.1 = bt390.2.1 then (laws_FnExactStrainAfter.j0 k l0 t393 (bt396.2.2 != bt390.2.2)) else (laws_FnExactStrainAfter.j0 k l0 t393 true)) else (laws_FnExactStrainAfter.j0 k l0 t393 true)))))))) = some true := h
 clear h
 replace H := Option.bind_eq_some_iff.mp H
 obtain ⟨t386, A40, H⟩ := H
 replace H : (if t386 < 0 then (some true) else ((laws_toLegS.f k l0).bind fun t387 => ((spec_StrainAfter.f k t387 a1 a2).bind fun bt390 => ((laws_toLegS.f k l0).bind fun t393 => ((impl_StrainAfter.f t393 a1 a2).bind fun bt396 => (if bt396.1 = bt390.1 then (if bt396.2.1 = bt390.2.1 then (laws_FnExactStrainAfter.j0 k l0 t393 (bt396.2.2 != bt390.2.2)) else (laws_FnExactStrainAfter.j0 k l0 t393 true)) else (laws_FnExactStrainAfter.j0 k l0 t393 true))))))) = some true := H
 have A4 := Aside0.mk A40
 clear A40
 by_cases c5 : t386 < 0
 ·
  rw [if_pos c5] at H
  have c5b0 : decide (t386 < 0) = true := decide_eq_true c5
  clear c5
  go_enter Tryd.func5, Tryd.ntmps5
  go_wp2_with (first | ((with_reducible refine gate_callee (f := 10) rfl ?_); refine goesL_ (some 17) rfl rfl Tryd.func10 qz6 rfl #[.slice A0 l0.length c0, .int .i64 1048576] rfl qz1 ?_; (with_reducible refine (laws_szLegS.calls _ _ l0 1048576 t386 _ ?side1 ?side2 A4.out).mono ?_); (case side1 => repeat (first | exact HR0.out | (with_reducible refine Kd.C_alloc ?_ _) | (with_reducible refine Kd.C_drewN ?_ _) | (with_reducible refine Kd.C_drew ?_))); (case side2 => exact HC0.out); rintro e w' ⟨rfl, ⟨nd, rfl⟩⟩; refine ⟨_, rfl, ?_⟩))
  go_ret
  exact ⟨by first | rfl | (simp [errW_none, errW_some] <;> rfl) | (simp [*, errW_none, errW_some] <;> rfl), by repeat (first | (with_reducible first | exact HB.out | apply below_alloc | apply pw_below_drewN | apply below_drew1) | exact HB.out)⟩
 ·
  rw [if_neg c5] at H
  have c5b0 : decide (t386 < 0) = false := decide_eq_false c5
  clear c5
  replace H := Option.bind_eq_some_iff.mp H
  obtain ⟨t387, A60, H⟩ := H
  replace H : ((spec_StrainAfter.f k t387 a1 a2).bind fun bt390 => ((laws_toLegS.f k l0).bind fun t393 => ((impl_StrainAfter.f t393 a1 a2).bind fun bt396 => (if bt396.1 = bt390.1 then (if bt396.2.1 = bt390.2.1 then (laws_FnExactStrainAfter.j0 k l0 t393 (bt396.2.2 != bt390.2.2)) else (laws_FnExactStrainAfter.j0 k l0 t393 true)) else (laws_FnExactStrainAfter.j0 k l0 t393 true))))) = some true := H
  have A6 := Aside0.mk A60
  clear A60
  replace H := Option.bind_eq_some_iff.mp H
  obtain ⟨⟨t390, t391, t392⟩, A70, H⟩ := H
  replace H : ((laws_toLegS.f k l0).bind fun t393 => ((impl_StrainAfter.f t393 a1 a2).bind fun bt396 => (if bt396.1 = t390 then (if bt396.2.1 = t391 then (laws_FnExactStrainAfter.j0 k l0 t393 (bt396.2.2 != t392)) else (laws_FnExactStrainAfter.j0 k l0 t393 true)) else (laws_FnExactStrainAfter.j0 k l0 t393 true)))) = some true := H
  have A7 := Aside0.mk A70
  clear A70
  replace H := Option.bind_eq_some_iff.mp H
  obtain ⟨t393, A80, H⟩ := H
  replace H : ((impl_StrainAfter.f t393 a1 a2).bind fun bt396 => (if bt396.1 = t390 then (if bt396.2.1 = t391 then (laws_FnExactStrainAfter.j0 k l0 t393 (bt396.2.2 != t392)) else (laws_FnExactStrainAfter.j0 k l0 t393 true)) else (laws_FnExactStrainAfter.j0 k l0 t393 true))) = some true := H
  have A8 := Aside0.mk A80
  clear A80
  replace H := Option.bind_eq_some_iff.mp H
  obtain ⟨⟨t396, t397, t398⟩, A90, H⟩ := H
  replace H : (if t396 = t390 then (if t397 = t391 then (laws_FnExactStrainAfter.j0 k l0 t393 (t398 != t392)) else (laws_FnExactStrainAfter.j0 k l0 t393 true)) else (laws_FnExactStrainAfter.j0 k l0 t393 true)) = some true := H
  have A9 := Aside0.mk A90
  clear A90
  have HC10 := Aside0.mk H
  clear H
  go_enter Tryd.func5, Tryd.ntmps5
  go_upto_region 8 with (first | ((with_reducible refine gate_callee (f := 10) rfl ?_); refine goesL_ (some 17) rfl rfl Tryd.func10 qz6 rfl #[.slice A0 l0.length c0, .int .i64 1048576] rfl qz1 ?_; (with_reducible refine (laws_szLegS.calls _ _ l0 1048576 t386 _ ?side1 ?side2 A4.out).mono ?_); (case side1 => repeat (first | exact HR0.out | (with_reducible refine Kd.C_alloc ?_ _) | (with_reducible refine Kd.C_drewN ?_ _) | (with_reducible refine Kd.C_drew ?_))); (case side2 => exact HC0.out); rintro e w' ⟨rfl, ⟨nd, rfl⟩⟩; refine ⟨_, rfl, ?_⟩) | ((with_reducible refine gate_callee (f := 12) rfl ?_); refine goesL_ (some 22) rfl rfl Tryd.func12 qz6 rfl #[.slice A0 l0.length c0] rfl qz1 ?_; (with_reducible refine (laws_toLegS.calls k _ _ l0 t387 _ ?side1 ?side2 A6.out).mono ?_); (case side1 => repeat (first | exact HR0.out | (with_reducible refine Kd.C_alloc ?_ _) | (with_reducible refine Kd.C_drewN ?_ _) | (with_reducible refine Kd.C_drew ?_))); (case side2 => exact HC0.out); rintro e w11 ⟨v388, rfl, ho0, hb⟩; refine ⟨_, rfl, ?_⟩; have n0_ := Aside0.mk (Kd.R_lower ho0 (below_size qz0)); have n1_ := Aside0.mk (below_step qz0 hb); clear HB; have HO389 := n0_; have HB := n1_; clear n0_ n1_; (try clear hb); (try clear hb2); (try clear hk); (try clear hi); (try clear ho0); obtain ⟨Ao12, co12, eo12⟩ := Kd.R_slice HO389.out; subst eo12) | ((with_reducible refine gate_callee (f := 17) rfl ?_); refine goesL_ (some 25) rfl rfl Tryd.func17 qz6 rfl #[.slice Ao12 t387.length co12, .int .i64 a1, .int .i64 a2] rfl qz1 ?_; (with_reducible refine (spec_StrainAfter.calls k _ _ t387 a1 a2 t390 t391 t392 _ ?side1 ?side2 A7.out ?sideL).mono ?_); (case sideL => exact HL.out.keep qz0); (case side1 => repeat (first | exact (Kd.R_reads' HO389.out).2.2 | (with_reducible refine Kd.C_alloc ?_ _) | (with_reducible refine Kd.C_drewN ?_ _) | (with_reducible refine Kd.C_drew ?_))); (case side2 => exact (Kd.R_reads' HO389.out).2.1); rintro e w13 ⟨rfl, hb⟩; refine ⟨_, rfl, ?_⟩; have n0_ := Aside0.mk (Kd.R_below qz38 hb); have n1_ := Aside0.mk (below_step qz0 hb); clear HO389; clear HB; have HO389 := n0_; have HB := n1_; clear n0_ n1_; (try clear hb); (try clear hb2); (try clear hk); (try clear hi)) | ((with_reducible refine gate_callee (f := 12) rfl ?_); refine goesL_ (some 30) rfl rfl Tryd.func12 qz6 rfl #[.slice A0 l0.length c0] rfl qz1 ?_; (with_reducible refine (laws_toLegS.calls k _ _ l0 t393 _ ?side1 ?side2 A8.out).mono ?_); (case side1 => repeat (first | exact (Kd.C_below HR0.out HB.out) | (with_reducible refine Kd.C_alloc ?_ _) | (with_reducible refine Kd.C_drewN ?_ _) | (with_reducible refine Kd.C_drew ?_))); (case side2 => exact HC0.out); rintro e w14 ⟨v394, rfl, ho0, hb⟩; refine ⟨_, rfl, ?_⟩; have n0_ := Aside0.mk (Kd.R_elder' qz38 (Kd.R_base ho0) hb); have n1_ := Aside0.mk (Kd.R_lower (Kd.R_new' ho0 (Kd.R_lt qz38)) (below_size qz0)); have n2_ := Aside0.mk (below_step qz0 hb); clear HO389; clear HB; have HO389 := n0_; have HO395 := n1_; have HB := n2_; clear n0_ n1_ n2_; (try clear hb); (try clear hb2); (try clear hk); (try clear hi); (try clear ho0); obtain ⟨Ao15, co15, eo15⟩ := Kd.R_slice HO395.out; subst eo15) | ((with_reducible refine gate_callee (f := 18) rfl ?_); refine goesL_ (some 35) rfl rfl Tryd.func18 qz6 rfl #[.slice Ao15 t393.length co15, .int .i64 a1, .int .i64 a2] rfl qz1 ?_; (with_reducible refine (impl_StrainAfter.calls _ _ t393 a1 a2 t396 t397 t398 _ ?side1 ?side2 A9.out ?sideL).mono ?_); (case sideL => exact HL.out.keep qz0); (case side1 => repeat (first | exact (Kd.R_reads' HO395.out).2.2 | (with_reducible refine Kd.C_alloc ?_ _) | (with_reducible refine Kd.C_drewN ?_ _) | (with_reducible refine Kd.C_drew ?_))); (case side2 => exact (Kd.R_reads' HO395.out).2.1); rintro e w16 ⟨rfl, hb⟩; refine ⟨_, rfl, ?_⟩; have n0_ := Aside0.mk (Kd.R_below qz38 hb); have n1_ := Aside0.mk (Kd.R_below (by (with_reducible repeat (first | apply Kd.R_alloc | apply Kd.R_drewN | apply Kd.R_drew)); exact HO395.out) hb); have n2_ := Aside0.mk (below_step qz0 hb); clear HO389; clear HO395; clear HB; have HO389 := n0_; have HO395 := n1_; have HB := n2_; clear n0_ n1_ n2_; (try clear hb); (try clear hb2); (try clear hk); (try clear hi)))
  (try simp only [Act.put, List.setIfInBounds_toArray, List.set_cons_zero, List.set_cons_succ])
  go_cut [51] (fun v51 wc => ∃ (kq : Nat) (x51_9 : Bool), v51 = .bool x51_9 ∧ Aside0 (laws_FnExactStrainAfter.j0 kq l0 t393 x51_9 = some true) ∧ Aside0 (kq ≤ k) ∧ Aside0 (Kd.R k45 45 wc w.heap.size (fun _ => True) (.slice Ao15 t393.length co15) t393) ∧ Aside0 (Below w.heap.size w wc))
  case first =>
   have H := HC10.out
   clear HC10
   by_cases c17 : t396 = t390
   ·
    rw [if_pos c17] at H
    have c17b0 : (t396 == t390) = true := beq_iff_eq.mpr c17
    have c17b1 : (t396 != t390) = false := bne_eq_false_iff_eq.mpr c17
    clear c17
    (first | rw [c17b0] | (simp only [i64_w, i32_w]; rw [c17b0]) | skip)
    by_cases c18 : t397 = t391
    ·
     rw [if_pos c18] at H
     have c18b0 : (t397 == t391) = true := beq_iff_eq.mpr c18
     have c18b1 : (t397 != t391) = false := bne_eq_false_iff_eq.mpr c18
     clear c18
     have H' := Aside0.mk H
     clear H
     go_wp2
     go_meet
     case rel => exact ⟨_, ((t398 != t392)), qz4, H', ⟨by first | omega | exact Nat.le_refl _⟩, ⟨by (with_reducible repeat (first | apply Kd.R_alloc | apply Kd.R_drewN | apply Kd.R_drew)); exact Kd.R_mono HO395.out (fun _ hk => trivial)⟩, ⟨by repeat (first | (with_reducible first | exact HB.out | apply below_alloc | apply pw_below_drewN | apply below_drew1) | exact HB.out)⟩⟩
    ·
     rw [if_neg c18] at H
     have c18b0 : (t397 == t391) = false := beq_eq_false_iff_ne.mpr c18
     have c18b1 : (t397 != t391) = true := bne_iff_ne.mpr c18
     exact absurd H (by cases k <;> simp [laws_FnExactStrainAfter.j0])
   ·
    rw [if_neg c17] at H
    have c17b0 : (t396 == t390) = false := beq_eq_false_iff_ne.mpr c17
    have c17b1 : (t396 != t390) = true := bne_iff_ne.mpr c17
    (first | rw [c17b0] | (simp only [i64_w, i32_w]; rw [c17b0]) | skip)
    exact absurd H (by cases k <;> simp [laws_FnExactStrainAfter.j0])
  case rest =>
   clear HC10
   try clear c1
   try clear p2
   try clear c5
   try clear c5b0
   try clear c10
   try clear c12
   try clear c17
   try clear c17b0
   try clear c17b1
   try clear c18
   try clear c18b0
   try clear c18b1
   obtain ⟨kq, x51_9, rfl, HA, HJ9, HO_11, HB⟩ := hcut
   cases kq with
   | zero => exact absurd HA.out (by simp [laws_FnExactStrainAfter.j0])
   | succ kj9 =>
    have H := HA.out
    clear HA
    simp only [laws_FnExactStrainAfter.j0] at H
    by_cases c19 : x51_9 = true
    ·
     subst c19
     have H1 : (some false) = some true := by rw [if_pos rfl] at H; exact H
     clear H
     have H := H1
     clear H1
     exact absurd (Option.some.inj H) (by decide)
    ·
     replace c19 := Bool.eq_false_iff.mpr c19
     subst c19
     have H1 : ((laws_toLegS.f kj9 l0).bind fun t399 => ((laws_eqLegS.f kj9 t393 t399).bind fun t402 => (if t402 = true then (some true) else (some false)))) = some true := by rw [if_neg (show ¬ (false = true) by decide)] at H; exact H
     clear H
     have H := H1
     clear H1
     replace H := Option.bind_eq_some_iff.mp H
     obtain ⟨t399, A200, H⟩ := H
     replace H : ((laws_eqLegS.f kj9 t393 t399).bind fun t402 => (if t402 = true then (some true) else (some false))) = some true := H
     have A20 := Aside0.mk A200
     clear A200
     replace H := Option.bind_eq_some_iff.mp H
     obtain ⟨t402, A210, H⟩ := H
     replace H : (if t402 = true then (some true) else (some false)) = some true := H
     have A21 := Aside0.mk A210
     clear A210
     by_cases c22 : t402 = true
     ·
      subst c22
      have H1 : (some true) = some true := rfl
      clear H
      have H := H1
      clear H1
      go_wp2_with (first | ((with_reducible refine gate_callee (f := 12) rfl ?_); refine goesL_ (some 54) rfl rfl Tryd.func12 qz6 rfl #[.slice A0 l0.length c0] rfl qz1 ?_; (with_reducible refine (laws_toLegS.calls kj9 _ _ l0 t399 _ ?side1 ?side2 A20.out).mono ?_); (case side1 => repeat (first | exact (Kd.C_below HR0.out HB.out) | (with_reducible refine Kd.C_alloc ?_ _) | (with_reducible refine Kd.C_drewN ?_ _) | (with_reducible refine Kd.C_drew ?_))); (case side2 => exact HC0.out); rintro e w23 ⟨v400, rfl, ho0, hb⟩; refine ⟨_, rfl, ?_⟩; have n0_ := Aside0.mk (Kd.R_elder' qz46 (Kd.R_base ho0) hb); have n1_ := Aside0.mk (Kd.R_lower (Kd.R_new' ho0 (Kd.R_lt qz46)) (below_size qz0)); have n2_ := Aside0.mk (below_step qz0 hb); clear HO_11; clear HB; have HO_11 := n0_; have HO401 := n1_; have HB := n2_; clear n0_ n1_ n2_; (try clear hb); (try clear hb2); (try clear hk); (try clear hi); (try clear ho0); obtain ⟨Ao24, co24, eo24⟩ := Kd.R_slice HO401.out; subst eo24) | ((with_reducible refine gate_callee (f := 14) rfl ?_); refine goesL_ (some 55) rfl rfl Tryd.func14 qz6 rfl #[.slice Ao15 t393.length co15, .slice Ao24 t399.length co24] rfl qz1 ?_; (with_reducible refine (laws_eqLegS.calls kj9 _ _ t393 _ _ t399 true _ ?side1 ?side2 ?side3 ?side4 A21.out).mono ?_); (case side1 => repeat (first | exact (Kd.R_reads' HO_11.out).2.2 | (with_reducible refine Kd.C_alloc ?_ _) | (with_reducible refine Kd.C_drewN ?_ _) | (with_reducible refine Kd.C_drew ?_))); (case side2 => exact (Kd.R_reads' HO_11.out).2.1); (case side3 => repeat (first | exact (Kd.R_reads' HO401.out).2.2 | (with_reducible refine Kd.C_alloc ?_ _) | (with_reducible refine Kd.C_drewN ?_ _) | (with_reducible refine Kd.C_drew ?_))); (case side4 => exact (Kd.R_reads' HO401.out).2.1); rintro e w25 ⟨rfl, hb⟩; refine ⟨_, rfl, ?_⟩; have n0_ := Aside0.mk (Kd.R_below qz46 hb); have n1_ := Aside0.mk (Kd.R_below (by (with_reducible repeat (first | apply Kd.R_alloc | apply Kd.R_drewN | apply Kd.R_drew)); exact HO401.out) hb); have n2_ := Aside0.mk (below_step qz0 hb); clear HO_11; clear HO401; clear HB; have HO_11 := n0_; have HO401 := n1_; have HB := n2_; clear n0_ n1_ n2_; (try clear hb); (try clear hb2); (try clear hk); (try clear hi)))
      go_ret
      exact ⟨by first | rfl | (simp [errW_none, errW_some] <;> rfl) | (simp [*, errW_none, errW_some] <;> rfl), by repeat (first | (with_reducible first | exact HB.out | apply below_alloc | apply pw_below_drewN | apply below_drew1) | exact HB.out)⟩
     ·
      replace c22 := Bool.eq_false_iff.mpr c22
      subst c22
      have H1 : (some false) = some true := by rw [if_neg (show ¬ (false = true) by decide)] at H; exact H
      clear H
      have H := H1
      clear H1
      exact absurd (Option.some.inj H) (by decide)
end Go.Proofs.YtpojnobgijoddaaDoor.A
namespace Go.Proofs.YtpojnobgijoddaaDoor.Legs
open Go.RowKit YtpojnobgijoddaaDoorW.PrintWords Plain A
def cv (x : S47) : S45 := ⟨x.f0, x.f1, x.f2, x.f3, x.f4⟩
theorem toLegs_ev (l : List (S47)) (hb : l.length ≤ 7036874417766) : Ev (fun k => laws_toLegS.f k l) (l.map cv) := by
  unfold laws_toLegS.f
  refine Ev.pos (by omega) ?_
  refine Ev.pos (by omega) ?_
  exact copy_all laws_toLegS.l0 cv z47 _ (fun k x0 x3 x4 => by simp only [laws_toLegS.l0, laws_toLeg.f, Option.bind_some]; rfl) l (by omega)
theorem eqLegs_ev (l : List (S45)) (hb : l.length ≤ 140737488351232) : Ev (fun k => laws_eqLegS.f k l l) true := by
  unfold laws_eqLegS.f
  refine Ev.pos rfl ?_
  exact eq_all laws_eqLegS.l0 (fun k x0 x4 h0 => by
    simp only [laws_eqLegS.l0, laws_eqLeg.f, if_true, Option.bind_some]
    by_cases h : x4 < (x0.length : Int)
    · rw [if_pos h, if_pos h0, if_pos h, if_pos h]
    · rw [if_neg h, if_neg h]) l hb
theorem szLegs_eq (l : List (S47)) (hb : l.length ≤ 140737488351232) : laws_szLegS.f l 1048576 = some (if l.length ≤ 1048576 then 1048576 - (l.length : Int) else -1) := by
  unfold laws_szLegS.f
  rw [w64 (by omega) (by omega)]
  by_cases h : l.length ≤ 1048576
  · rw [if_neg (by omega), if_pos h]
  · rw [if_pos (by omega), if_neg h]
end Go.Proofs.YtpojnobgijoddaaDoor.Legs
namespace Go.Proofs.YtpojnobgijoddaaDoor.Net
open Go.RowKit YtpojnobgijoddaaDoorW.PrintWords Plain A
theorem specRest_eq (x : S45) (h : Good x) (axis : Int) (h0 : 0 ≤ axis) (h2 : axis ≤ 2) (cs : List Int) (h8 : cs.length = 8) (den : Int) : spec_l9Rest.f x.f0 x.f1 x.f2 x.f3 x.f4 axis cs den = some (resM x axis cs den) := by
  unfold spec_l9Rest.f
  rw [measure_eq x h axis h0 h2, Option.bind_some]
  obtain ⟨⟨a0, a8⟩, ⟨d0, d8⟩, _⟩ := h
  rw [if_pos (by omega), if_pos (by omega), if_pos (by omega), if_pos (by omega)]
  rfl
theorem specRest {ls : L} (hn : ls.length ≤ 12) (hg : ∀ x ∈ ls, Good x) (ax : Int) (h0 : 0 ≤ ax) (h2 : ax ≤ 2) {i : Int} (hi : i ∈ usedL ls) : spec_l9Rest.f (rd_T45 ls i).f0 (rd_T45 ls i).f1 (rd_T45 ls i).f2 (rd_T45 ls i).f3 (rd_T45 ls i).f4 ax (coL ls ax) (treesM ls) = some (nT ls ax i) := by
  have hr := usedL_range ls i hi
  obtain ⟨m, rfl⟩ := Int.eq_ofNat_of_zero_le hr.1
  have hx : Good (leg ls (m : Int)) := hg _ (leg_mem (by omega))
  have h := specRest_eq (leg ls (m : Int)) hx ax h0 h2 (coL ls ax) (coL_len ls ax) (treesM ls)
  rw [res_all hn hg ax hi] at h
  exact h
theorem squares_loop {ls : L} (hn : ls.length ≤ 12) (hg : ∀ x ∈ ls, Good x) (ax : Int) (h0 : 0 ≤ ax) (h2 : ax ≤ 2) : ∀ (d j : Nat), j + d = (usedL ls).length →
    Ev (fun k => spec_l9Squares.l0 k ls ax (coL ls ax) (treesM ls) (sqTo (resL ls ax) j) (usedL ls) (j : Int)) (redN (SA ls ax) (treesM ls * treesM ls), redD (SA ls ax) (treesM ls * treesM ls)) := by
  have hul := usedL_len ls
  have hrl : (resL ls ax).length = (usedL ls).length := by unfold resL; rw [List.length_map]
  intro d
  induction d with
  | zero =>
    intro j hj
    have ht1 := trees_pos hn hg
    have ht2 := trees_le hn hg
    have hs := SA_bound hn hg ax
    have hsq : treesM ls * treesM ls ≤ 6561 * 6561 := Int.mul_le_mul ht2 ht2 (by omega) (by omega)
    have hsp : 0 < treesM ls * treesM ls := Int.mul_pos (by omega) (by omega)
    have e : sqTo (resL ls ax) j = SA ls ax := by rw [← sqTo_all hn hg ax, hrl, show j = (usedL ls).length by omega]
    rw [e]
    refine Ev.step (f := fun k => (spec_l9Reduce.f k (SA ls ax) (wrap64 (treesM ls * treesM ls))).bind fun bt => some (bt.1, bt.2)) (fun k => ?_) ?_
    · simp only [spec_l9Squares.l0]
      rw [if_neg (by omega)]
    · rw [w64 (by omega) (by omega)]
      exact Ev.bind (l9Reduce_ev (SA ls ax) (treesM ls * treesM ls) hsp (by omega) (by omega) (by omega)) (Ev.now _)
  | succ d ih =>
    intro j hj
    have hlt : j < (usedL ls).length := by omega
    have h := ih (j + 1) (by omega)
    have hm : rd (usedL ls) (j : Int) ∈ usedL ls := by rw [rd_get _ j hlt]; exact List.getElem_mem hlt
    have hr := usedL_range ls _ hm
    have hs := specRest hn hg ax h0 h2 hm
    have e : sqTo (resL ls ax) (j + 1) = wrap64 (sqTo (resL ls ax) j + wrap64 (nT ls ax (rd (usedL ls) (j : Int)) * nT ls ax (rd (usedL ls) (j : Int)))) := by
      rw [sqTo_step _ j (by omega)]
      have e2 : rd (resL ls ax) (j : Int) = nT ls ax (rd (usedL ls) (j : Int)) := by
        rw [rd_get _ j (by omega), rd_get _ j hlt]
        unfold resL
        rw [List.getElem_map]
      rw [e2]
    refine Ev.step (fun k => ?_) h
    simp only [spec_l9Squares.l0]
    rw [if_pos (by omega), if_pos (by omega), if_pos hr.1, if_pos hr.2, hs, Option.bind_some, e, w64 (x := (j : Int) + 1) (by omega) (by omega)]
    rfl
theorem l9Squares_ev {ls : L} (hv : legsB ls = true) (ax : Int) (h0 : 0 ≤ ax) (h2 : ax ≤ 2) : Ev (fun k => spec_l9Squares.f k ls ax) (redN (SA ls ax) (treesM ls * treesM ls), redD (SA ls ax) (treesM ls * treesM ls)) := by
  have h' := legsB_iff.mp hv
  have ht : spec_l9Trees.f ls = some (treesM ls) := by unfold spec_l9Trees.f; rw [if_pos hv]
  have ha : spec_l9Adjust.f ls ax = some (coL ls ax) := by unfold spec_l9Adjust.f; rw [if_pos ⟨hv, h0, h2⟩]
  exact Ev.bindc ha (Ev.bindc ht (Ev.bind (l9Legs_ev h'.2 h'.1) (squares_loop h'.2 h'.1 ax h0 h2 (usedL ls).length 0 (by omega))))
end Go.Proofs.YtpojnobgijoddaaDoor.Net
namespace Go.Proofs.YtpojnobgijoddaaDoor.Net
open Go.RowKit YtpojnobgijoddaaDoorW.PrintWords Plain A Frac
theorem common_ev (a b : Int) (ha : 0 ≤ a) (hb : 0 < b) : Ev (fun k => spec_l10Common.f k a b) (Int.gcd a b : Int) := by
  obtain ⟨z, hz, hs, K, hK⟩ := gcd_loop (g := spec_l10Common.l0) (fin := fun a => a) (fun k a => by
    unfold spec_l10Common.l0; rw [if_pos rfl]) (fun k a b hb => by
    conv => lhs; unfold spec_l10Common.l0
    rw [if_neg hb]) (b.natAbs + 1) a b (by omega)
  have h0 := hs ha (by omega)
  rw [show ((Int.gcd a b : Nat) : Int) = z by omega]
  exact ⟨K, fun k hk => hK k hk⟩
theorem strain_step {ls : L} (hv : legsB ls = true) (ax : Int) (h0 : 0 ≤ ax) (h2 : ax ≤ 2) {num den N : Int} (hR : Red num den N (treesM ls)) (hN : 0 ≤ N) (hN2 : N ≤ 59049000000) :
    ∃ num' den', Red num' den' (N + AM ls ax) (treesM ls) ∧ ∀ v, Ev (fun k => spec_l10Strain.l0 k ls num' den' (ax + 1)) v → Ev (fun k => spec_l10Strain.l0 k ls num den ax) v := by
  have h' := legsB_iff.mp hv
  have ht := trees_pos h'.2 h'.1
  have ht2 := trees_le h'.2 h'.1
  have hsp : 0 < treesM ls * treesM ls := Int.mul_pos (by omega) (by omega)
  have hq := squares_red h'.2 h'.1 (red_red (n := SA ls ax) hsp)
  have hsq := l9Squares_ev hv ax h0 h2
  generalize redN (SA ls ax) (treesM ls * treesM ls) = a at *
  generalize redD (SA ls ax) (treesM ls * treesM ls) = b at *
  have hA := AM_bound h'.2 h'.1 ax
  have hb1 := Red.le (by omega) hA.1 hq
  have hd1 := Red.le (by omega) hN hR
  have hd := hR.1
  have hb := hq.1
  have hg := gcd_small (n := den) hb (by omega)
  have hcm := common_ev den b (by omega) hb
  generalize hgg : Int.gcd den b = g at *
  have e1 : den.tdiv (g : Int) * (g : Int) = den := Int.tdiv_mul_cancel (by rw [← hgg]; exact Int.gcd_dvd_left ..)
  have e2 : b.tdiv (g : Int) * (g : Int) = b := Int.tdiv_mul_cancel (by rw [← hgg]; exact Int.gcd_dvd_right ..)
  have hsum := Red.sum hd hb (g := (g : Int)) (by omega) hR.2.2 hq.2.2 e1 e2
  have q1 := tdiv_small den g (B := 6561) (by omega) (by omega)
  have q2 := tdiv_small b g (B := 6561) (by omega) (by omega)
  have p1 : 0 ≤ den.tdiv (g : Int) := Int.tdiv_nonneg (by omega) (by omega)
  have p2 : 0 ≤ b.tdiv (g : Int) := Int.tdiv_nonneg (by omega) (by omega)
  have w1 := wtdiv den g (by omega) (by omega)
  have w2 := wtdiv b g (by omega) (by omega)
  have hdp : 0 < den.tdiv (g : Int) := by
    rcases Int.lt_or_le 0 (den.tdiv (g : Int)) with c | c
    · exact c
    · exfalso
      rw [show den.tdiv (g : Int) = 0 by omega] at e1
      omega
  generalize hu : den.tdiv (g : Int) = u at *
  generalize htt : b.tdiv (g : Int) = t at *
  have m1 : num * t ≤ 59049000000 * 6561 := Int.mul_le_mul (by omega) (by omega) (by omega) (by omega)
  have m2 : a * u ≤ 59049000000 * 6561 := Int.mul_le_mul (by omega) (by omega) (by omega) (by omega)
  have m3 : u * b ≤ 6561 * 6561 := Int.mul_le_mul (by omega) (by omega) (by omega) (by omega)
  have n1 : 0 ≤ num * t := Int.mul_nonneg (by omega) (by omega)
  have n2 : 0 ≤ a * u := Int.mul_nonneg (by omega) (by omega)
  have n3 : 0 < u * b := Int.mul_pos hdp hb
  have x1 : wrap64 (num * t) = num * t := w64 (by omega) (by omega)
  have x2 : wrap64 (a * u) = a * u := w64 (by omega) (by omega)
  have x3 : wrap64 (u * b) = u * b := w64 (by omega) (by omega)
  have x4 : wrap64 (num * t + a * u) = num * t + a * u := w64 (by omega) (by omega)
  have hred := l9Reduce_ev (num * t + a * u) (u * b) n3 (by omega) (by omega) (by omega)
  have hR2 := Red.change (T := treesM ls) (N := N + AM ls ax) n3 (red_red (n := num * t + a * u) n3) hsum
  refine ⟨_, _, hR2, fun v hv2 => ?_⟩
  have hax : wrap64 (ax + 1) = ax + 1 := w64 (by omega) (by omega)
  refine Ev.step (f := fun k => (spec_l9Squares.f k ls ax).bind fun bt250 => ((spec_l10Common.f k den bt250.2).bind fun t252 => (if t252 = 0 then (none) else ((spec_l10Common.f k den bt250.2).bind fun t253 => (if t253 = 0 then (none) else ((spec_l10Common.f k den bt250.2).bind fun t254 => (if t254 = 0 then (none) else ((spec_l9Reduce.f k (wrap64 ((wrap64 (num * (wrap64 (Int.tdiv bt250.2 t252)))) + (wrap64 (bt250.1 * (wrap64 (Int.tdiv den t253)))))) (wrap64 ((wrap64 (Int.tdiv den t254)) * bt250.2))).bind fun bt255 => (spec_l10Strain.l0 k ls bt255.1 bt255.2 (wrap64 (ax + 1))))))))))) (fun k => ?_) ?_
  · conv => lhs; unfold spec_l10Strain.l0
    rw [if_pos (by omega)]
  · refine Ev.bind hsq (Ev.bind hcm (Ev.neg (by omega) (Ev.bind hcm (Ev.neg (by omega) (Ev.bind hcm (Ev.neg (by omega) ?_))))))
    simp only [w1, w2, htt, hu, x1, x2, x3, x4, hax]
    exact Ev.bind hred hv2
theorem strain_ev {ls : L} (hv : legsB ls = true) : Ev (fun k => spec_l10Strain.f k ls) (sNum ls, sDen ls) := by
  have h' := legsB_iff.mp hv
  have ht := trees_pos h'.2 h'.1
  have a0 := AM_bound h'.2 h'.1 0
  have a1 := AM_bound h'.2 h'.1 1
  have a2 := AM_bound h'.2 h'.1 2
  obtain ⟨n1, d1, r1, s1⟩ := strain_step hv 0 (by decide) (by decide) (num := 0) (den := 1) (N := 0) ⟨by decide, by decide, by omega⟩ (by decide) (by decide)
  obtain ⟨n2, d2, r2, s2⟩ := strain_step hv 1 (by decide) (by decide) r1 (by omega) (by omega)
  obtain ⟨n3, d3, r3, s3⟩ := strain_step hv 2 (by decide) (by decide) r2 (by omega) (by omega)
  have hs := sRed h'.2 h'.1
  rw [show (0 : Int) + AM ls 0 + AM ls 1 + AM ls 2 = sN ls from by unfold sN; omega] at r3
  obtain ⟨e1, e2⟩ := Red.unique (by omega) r3 hs
  rw [← e1, ← e2]
  refine s1 _ (s2 _ (s3 _ ?_))
  refine Ev.step (f := fun _ => some (n3, d3)) (fun k => ?_) (Ev.now _)
  conv => lhs; unfold spec_l10Strain.l0
  rw [if_neg (by omega)]
end Go.Proofs.YtpojnobgijoddaaDoor.Net
namespace Go.Proofs.YtpojnobgijoddaaDoor.Pure
open Go.RowKit YtpojnobgijoddaaDoorW.PrintWords Plain A Legs
theorem strainAfter_ev (ls : Net.L) (i fix : Int) (hb : ls.length ≤ 2000000) : Ev (fun k => spec_StrainAfter.f k ls i fix) (afterM ls i fix) := by
  refine Ev.bind (Net.can_ev ls i fix hb) ?_
  unfold afterM
  by_cases hf : (Net.fixM ls i fix).2 = true
  · rw [if_pos hf]
    have hok := fixM_ok hf
    have hv : Net.legsB (Net.fixM ls i fix).1 = true := Net.legsB_iff.mpr hok
    have he : spec_l10Fix.f ls i fix = some (Net.fixM ls i fix).1 := by
      unfold Net.fixM at hf ⊢
      split at hf
      · rename_i c
        rw [if_pos c]
        obtain ⟨k, rfl⟩ := Int.eq_ofNat_of_zero_le c.2.1.1
        rw [Int.toNat_natCast]
        exact Net.fix_eq ls k fix (by omega) hb
      · cases hf
    exact Ev.pos hf (Ev.bindc he (Ev.bind (Net.strain_ev hv) (Ev.now _)))
  · rw [if_neg hf]
    exact Ev.neg hf (Ev.now _)
theorem FnExactStrainAfter (l0 : List (S47)) (a1 : Int) (a2 : Int) (hb : l0.length * 40 ≤ 140737488351232) (_ : ∀ x ∈ l0, (Lit.int .i64 x.f0).wf = true ∧ (Lit.int .i64 x.f1).wf = true ∧ (Lit.int .i64 x.f2).wf = true ∧ (Lit.int .i64 x.f3).wf = true ∧ (Lit.int .i64 x.f4).wf = true) (_ : (Lit.int .i64 a1).wf = true) (_ : (Lit.int .i64 a2).wf = true) : ∃ k, laws_FnExactStrainAfter.f k l0 a1 a2 = some true := by
  refine Ev.rounds ?_
  have hl : (l0.map cv).length = l0.length := by simp
  have hsz := szLegs_eq l0 (by omega)
  by_cases c : l0.length ≤ 1048576
  · rw [if_pos c] at hsz
    have hs := strainAfter_ev (l0.map cv) a1 a2 (by omega)
    have hi : impl_StrainAfter.f (l0.map cv) a1 a2 = some (afterM (l0.map cv) a1 a2) := by unfold impl_StrainAfter.f; rw [if_pos (by omega)]
    generalize afterM (l0.map cv) a1 a2 = B at *
    obtain ⟨b0, b1, b2⟩ := B
    have hlegs := toLegs_ev l0 (by omega)
    refine Ev.bindc hsz (Ev.neg (by omega) ?_)
    refine Ev.bind hlegs (Ev.bind hs (Ev.bind hlegs (Ev.bindc hi (Ev.pos rfl (Ev.pos rfl ?_)))))
    refine Ev.step (f := fun k => (laws_toLegS.f k l0).bind fun t => (laws_eqLegS.f k (l0.map cv) t).bind fun t' => if t' = true then some true else some false) (fun k => ?_) ?_
    · simp only [laws_FnExactStrainAfter.j0, bne_self_eq_false, Bool.false_eq_true, if_false]
    · exact Ev.bind hlegs (Ev.bind (eqLegs_ev _ (by omega)) (Ev.pos rfl (Ev.now _)))
  · rw [if_neg c] at hsz
    exact Ev.bindc hsz (Ev.pos (by decide) (Ev.now _))
end Go.Proofs.YtpojnobgijoddaaDoor.Pure
namespace Go.Proofs.YtpojnobgijoddaaDoor.Opens
open Go.ChangeShapes Go.WideShapes Go.Deep Go.RowKit YtpojnobgijoddaaDoorW.PrintWords
theorem list_of {α : Type} {P : Nat → α → Prop} : ∀ (n : Nat), (∀ i, i < n → ∃ x, P i x) → ∃ xs : List α, xs.length = n ∧ ∀ i x, xs[i]? = some x → P i x
  | 0, _ => ⟨[], rfl, fun i x h => by simp at h⟩
  | n + 1, h => by
    obtain ⟨xs, hl, hx⟩ := list_of n (fun i hi => h i (Nat.lt_succ_of_lt hi))
    obtain ⟨y, hy⟩ := h n (Nat.lt_succ_self n)
    refine ⟨xs ++ [y], by simp [hl], fun i x hi => ?_⟩
    by_cases hlt : i < xs.length
    · rw [List.getElem?_append_left hlt] at hi
      exact hx i x hi
    · rw [List.getElem?_append_right (by omega)] at hi
      have h0 : i - xs.length = 0 := by
        have := (List.getElem?_eq_some_iff.1 hi).1
        simp at this
        omega
      rw [h0] at hi
      simp at hi
      subst hi
      have : i = n := by omega
      subst this
      exact hy
section
variable {H : Type} {enc : TypeId × Value → H} {P : Program} {w : World} {base : Nat} {spare : Nat → Bool} {held : Bool}
theorem open_row {α : Type} (d : Kd α) {Q : α → Prop} {t e : TypeId} {a : Option Addr} {len cap : Nat} {dd : DataW H} {ps : List MemPlace} (ht : P.underlying t = some (.slice e)) (hC : P.cellsOf e = d.sz)
    (hd : ∀ n cs y, DataW.trod enc P w base spare held n e cs = some y → ∃ x, d.K w x cs ∧ Q x)
    (h : DataW.Trod enc P w base spare held t (.slice a len cap) dd ps) : ∃ xs : List α, xs.length = len ∧ len ≤ cap ∧ d.C w a len xs ∧ ∀ x ∈ xs, Q x := by
  obtain ⟨fuel, hf⟩ := h
  rcases open_slice ht hf with ⟨hcs, _⟩ | ⟨x, l, c, m, n, D, Pl, hcs, _, hl, hm, hmm, _, hi⟩
  · simp [Value.cells] at hcs
    obtain ⟨rfl, rfl, rfl⟩ := hcs
    exact ⟨[], rfl, Nat.le_refl _, ⟨rfl, by omega, fun h => by omega⟩, fun x hx => by simp at hx⟩
  · simp [Value.cells] at hcs
    obtain ⟨rfl, rfl, rfl⟩ := hcs
    have hle : len ≤ m := by subst hmm; split <;> omega
    obtain ⟨xs, hxl, hx⟩ := list_of (P := fun i (z : α) => Q z ∧ ∃ cs, d.K w z cs ∧ w.cells? base (x.add (i * d.sz)) d.sz = some cs) len (fun i hil => by
      obtain ⟨cs, h1, h2⟩ := hi i (by omega)
      rw [hC] at h1
      obtain ⟨z, h3, h4⟩ := hd _ _ _ h2
      exact ⟨z, h4, cs, h3, h1⟩)
    refine ⟨xs, hxl, hl, ⟨hxl, by unfold maxLen at hm; omega, fun _ => ⟨x, rfl, fun j p hp => ?_⟩⟩, fun z hz => ?_⟩
    · obtain ⟨_, cs, h1, h2⟩ := hx j p hp
      obtain ⟨_, hlen, hat⟩ := World.cells?_some h2
      refine ⟨cs, hlen, h1, fun i u hu => ?_⟩
      have hil : i < d.sz := by have := (List.getElem?_eq_some_iff.1 hu).1; omega
      rw [← Go.Deep.add_add, hat i hil, hu]
    · obtain ⟨j, hj⟩ := List.getElem?_of_mem hz
      exact (hx j z hj).1
theorem sized_row {t e : TypeId} {a : Option Addr} {len cap : Nat} {d : DataW H} {ps : List MemPlace} {ts : List TypeId} {ds : List (DataW H)} {j : Nat}
    (hsz : (DataW.weightsEach P ts ds).all (· ≤ reachBytes) = true) (ht : ts[j]? = some t) (hd : ds[j]? = some d) (hu : P.underlying t = some (.slice e)) {B : Nat} (hB : P.bytesOf e = B)
    (h : DataW.Trod enc P w base spare held t (.slice a len cap) d ps) : len * B ≤ 140737488351232 := by
  obtain ⟨fuel, hf⟩ := h
  rcases open_slice hu hf with ⟨hcs, _⟩ | ⟨x, l, c, m, n, D, Pl, hcs, _, hl, hm, hmm, hx, hi⟩
  · simp [Value.cells] at hcs
    obtain ⟨rfl, rfl, rfl⟩ := hcs
    simp
  · simp [Value.cells] at hcs
    obtain ⟨rfl, rfl, rfl⟩ := hcs
    obtain ⟨hx, _⟩ := Prod.mk.inj hx
    subst hx
    have z := sized_slice hsz ht hd hu
    rw [hB] at z
    simp only [List.length_map, List.length_range] at z
    have hle : len ≤ m := by subst hmm; split <;> omega
    rw [show len + (m - len) = m by omega] at z
    exact Nat.le_trans (Nat.mul_le_mul_right _ hle) z
theorem one_field {f : Field} {cs : List Value} {o c : Nat} (ho : f.offset = o) (hc : P.cellsOf f.type = c) {n : Nat} {y : Option (DataW H × List MemPlace)} (h : DataW.trod enc P w base spare held n f.type ((cs.drop f.offset).take (P.cellsOf f.type)) = y) : DataW.trod enc P w base spare held n f.type ((cs.drop o).take c) = y := by rw [← ho, ← hc]; exact h
end
theorem len5 {α : Type} : ∀ {l : List α}, l.length = 5 → ∃ x0 x1 x2 x3 x4, l = [x0, x1, x2, x3, x4]
  | [x0, x1, x2, x3, x4], _ => ⟨x0, x1, x2, x3, x4, rfl⟩
end Go.Proofs.YtpojnobgijoddaaDoor.Opens
