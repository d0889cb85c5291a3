/- The row of the law FnExactIsBridge: whatever the input, it returns true; its arguments read as they did. No conditions. -/
import Derived.Deep.Slices
import Derived.Deep.Fields
import Derived.ChangeSame
import Derived.SizedLaws
import Derived.Test.YtiooiefjcbooeaaDoorKFnExactIsBridgeVMore
import Derived.Test.YtiooiefjcbooeaaDoorCards
import Derived.Test.YtiooiefjcbooeaaDoorTie
import Derived.OpenVars
import Derived.ChangeVars
import Derived.SevenTiedAt
import Derived.Stop.Joined
import Derived.LaidMore
import Derived.Test.YtiooiefjcbooeaaDoorRows
import Derived.WalkKit
import Derived.ProofKit
import Derived.OpenShut
import Derived.ShutString
import Derived.ChangeOld
import Derived.Below
import Derived.Test.YtiooiefjcbooeaaDoorKFnExactIsBridge0
import Derived.Test.YtiooiefjcbooeaaDoorKFnExactIsBridge1
import Derived.Test.YtiooiefjcbooeaaDoorKFnExactIsBridge2
import Derived.Test.YtiooiefjcbooeaaDoorKFnExactIsBridge3
import Derived.Test.YtiooiefjcbooeaaDoorKFnExactIsBridgeU1
import Derived.Test.YtiooiefjcbooeaaDoorKFnExactIsBridgeU2
/- The program's isBridge, walked; the reference's l8Bridge. -/
namespace Go.Proofs.YtiooiefjcbooeaaDoor.Net
open Go Go.RowKit Go.Proofs.YtiooiefjcbooeaaDoorW.PrintWords Go.Proofs.YtiooiefjcbooeaaDoorW.PrintLast Go.Proofs.YtiooiefjcbooeaaDoorW.PrintMore Go.Proofs.YtiooiefjcbooeaaDoor.A Go.Proofs.YtiooiefjcbooeaaDoor.Plain
open Go.Proofs.YtiooiefjcbooeaaDoor.Tree (verts legs W)
open Go.Proofs.YtiooiefjcbooeaaDoor.Grow (Q)
set_option linter.unusedVariables false
set_option linter.unusedSimpArgs false
theorem bridgeUse (k : Int) (i : Nat) (p : Addr) (w : World) (hp : w.cell? p = some (.int .i64 k)) :
    Calls Tryd.prog 94 #[.int .i64 (i : Int), .pointer (some p)] w fun e w' => e = .returned (.bool (useB k i)) ∧ w' = w := by
  have e : useB k i = ((i : Int) != k) := by
    unfold useB
    by_cases h : (i : Int) = k
    · rw [decide_eq_false (by omega), h]; simp
    · rw [decide_eq_true h]; simp [h]
  rw [e]
  go_enter Tryd.func94, Tryd.ntmps94
  go_wp2
  go_ret
  exact ⟨rfl, rfl⟩
set_option maxHeartbeats 2000000 in
set_option maxRecDepth 100000 in
theorem isBridgeW (A : Option Addr) (c : Nat) (ls : L) (k : Nat) (w : World) (hr0 : Kd.C k56 w A ls.length ls) (hc : ls.length ≤ c) (hn : ls.length ≤ 12) (hg : ∀ x ∈ ls, Good x) (hk : k < ls.length) :
    Calls Tryd.prog 59 #[.slice A ls.length c, .int .i64 (k : Int)] w fun e w' => e = .returned (.bool (bridgeB ls k)) ∧ Below w.heap.size w w' := by
  have hgk := leg_good hg k hk
  obtain ⟨w_1, e2, h0, h1, _⟩ := at_T56 hr0 (k : Int) (by omega) (by omega)
  cases e2
  rw [Int.toNat_natCast, show rd_T56 ls (k : Int) = leg ls k from rfl] at h0 h1
  obtain ⟨R, hR⟩ : ∃ R, R = Bfs.run (ends ls) (useB k) (leg ls k).f0 ls.length 9 0 [] := ⟨_, rfl⟩
  have hbr : bridgeB ls k = !decide ((leg ls k).f1 ∈ verts (leg ls k).f0 R) := by rw [hR]; rfl
  rw [hbr]
  have HRR := Aside0.mk hR.symm
  have HR := Aside0.mk hr0
  have HG := Aside0.mk hg
  have hl0 := hgk.1
  have hl1 := hgk.2.1
  have k1 : (k : Int) < (ls.length : Int) := by omega
  have k0 : (0 : Int) ≤ (k : Int) := by omega
  clear hr0 hg hgk hR hbr
  generalize leg ls (k : Int) = x at *
  go_enter Tryd.func59, Tryd.ntmps59
  go_wp2
  have HB := Aside0.mk (below_alloc (Below.refl w.heap.size w) (Obj.cells #[Value.int IntKind.i64 (k : Int)] 3))
  replace h0 := Sine.keepc h0 HB.out
  replace h1 := Sine.keepc h1 HB.out
  have hp0 : (w.alloc (Obj.cells #[Value.int IntKind.i64 (k : Int)] 3)).cell? ⟨w.heap.size, 0, none⟩ = some (.int .i64 (k : Int)) := by go_simp
  have HP0 := Aside0.mk hp0
  generalize w.alloc (Obj.cells #[Value.int IntKind.i64 (k : Int)] 3) = W1 at *
  by_cases hf : x.f1 ∈ verts x.f0 R
  · have hd := decide_eq_true hf
    go_region_held3 (fun w' => w'.cell? (w_1.add (k * 5)) = some (.int .i64 x.f0) ∧ w'.cell? { block := (w_1.add (k * 5)).block, off := (w_1.add (k * 5)).off + 1 } = some (.int .i64 x.f1) ∧ w'.cell? ⟨w.heap.size, 0, none⟩ = some (.int .i64 (k : Int)))
      (exact ⟨Sine.keepc (w := W1) h0 (by (repeat (first | exact Below.refl _ _ | apply pw_below_drewN | apply below_drew1 | exact HB.out | refine below_step ?_ (by assumption))); done), Sine.keepc (w := W1) h1 (by (repeat (first | exact Below.refl _ _ | apply pw_below_drewN | apply below_drew1 | exact HB.out | refine below_step ?_ (by assumption))); done), Sine.keepc (w := W1) HP0.out (by (repeat (first | exact Below.refl _ _ | apply pw_below_drewN | apply below_drew1 | exact HB.out | refine below_step ?_ (by assumption))); done)⟩)
      (first | (go_at_call 93; (with_reducible refine (pathBridge _ c ls ⟨w.heap.size, 0, none⟩ (useB k) x.f0 x.f1 _ ?s1 hc hn HG.out hl0 hl1 ?s2 R HRR.out).mono ?_); (case s1 => exact Kd.C_below HR.out (by (repeat (first | exact HB.out | exact Below.refl _ _ | apply below_alloc | apply pw_below_drewN | apply below_drew1)); done)); (case s2 => intro j W hj hb; exact bridgeUse (k : Int) j ⟨w.heap.size, 0, none⟩ W (Sine.keepc (w := W1) HP0.out (below_step (by (repeat (first | exact Below.refl _ _ | apply pw_below_drewN | apply below_drew1 | exact HB.out | refine below_step ?_ (by assumption))); done) hb))); rintro e w' hpost; unfold PathPost at hpost; rw [if_pos hf] at hpost; obtain ⟨v1, v2, rfl, _, _, hw1⟩ := hpost))
    replace HB := Aside0.mk (below_step (show Below w.heap.size w W1.drew from by (repeat (first | exact HB.out | exact Below.refl _ _ | apply below_alloc | apply pw_below_drewN | apply below_drew1)); done) hw1)
    go_wp2
    go_ret
    exact ⟨by rw [hd]; rfl, HB.out⟩
  · have hd := decide_eq_false hf
    go_region_held3 (fun w' => w'.cell? (w_1.add (k * 5)) = some (.int .i64 x.f0) ∧ w'.cell? { block := (w_1.add (k * 5)).block, off := (w_1.add (k * 5)).off + 1 } = some (.int .i64 x.f1) ∧ w'.cell? ⟨w.heap.size, 0, none⟩ = some (.int .i64 (k : Int)))
      (exact ⟨Sine.keepc (w := W1) h0 (by (repeat (first | exact Below.refl _ _ | apply pw_below_drewN | apply below_drew1 | exact HB.out | refine below_step ?_ (by assumption))); done), Sine.keepc (w := W1) h1 (by (repeat (first | exact Below.refl _ _ | apply pw_below_drewN | apply below_drew1 | exact HB.out | refine below_step ?_ (by assumption))); done), Sine.keepc (w := W1) HP0.out (by (repeat (first | exact Below.refl _ _ | apply pw_below_drewN | apply below_drew1 | exact HB.out | refine below_step ?_ (by assumption))); done)⟩)
      (first | (go_at_call 93; (with_reducible refine (pathBridge _ c ls ⟨w.heap.size, 0, none⟩ (useB k) x.f0 x.f1 _ ?s1 hc hn HG.out hl0 hl1 ?s2 R HRR.out).mono ?_); (case s1 => exact Kd.C_below HR.out (by (repeat (first | exact HB.out | exact Below.refl _ _ | apply below_alloc | apply pw_below_drewN | apply below_drew1)); done)); (case s2 => intro j W hj hb; exact bridgeUse (k : Int) j ⟨w.heap.size, 0, none⟩ W (Sine.keepc (w := W1) HP0.out (below_step (by (repeat (first | exact Below.refl _ _ | apply pw_below_drewN | apply below_drew1 | exact HB.out | refine below_step ?_ (by assumption))); done) hb))); rintro e w' hpost; unfold PathPost at hpost; rw [if_neg hf] at hpost; obtain ⟨rfl, hw1⟩ := hpost))
    replace HB := Aside0.mk (below_step (show Below w.heap.size w W1.drew from by (repeat (first | exact HB.out | exact Below.refl _ _ | apply below_alloc | apply pw_below_drewN | apply below_drew1)); done) hw1)
    go_wp2
    go_ret
    exact ⟨by rw [hd]; rfl, HB.out⟩
theorem l8Bridge_ev {ls : L} (hn : ls.length ≤ 12) (hg : ∀ x ∈ ls, Good x) (k : Nat) (hk : k < ls.length) (hp : (leg ls k).f0 ∈ plL (RR ls)) : Ev (fun m => spec_l8Bridge.f m ls (k : Int)) (bridgeB ls k) := by
  have hb := bridge_eq hg k hk ((mem_plL _ _).mp hp)
  have hl := less_len ls k hk
  have hlg := less_good hg k
  have hs := plL_small hlg
  have e : wrap64 ((k : Int) + 1) = ((k + 1 : Nat) : Int) := by rw [w64 (by omega) (by omega)]; omega
  unfold spec_l8Bridge.f
  refine Ev.bindc rfl (Ev.pos (by omega) (Ev.pos (by omega) (Ev.bindc rfl (Ev.pos (by simp; omega) (Ev.bindc rfl (Ev.pos (by rw [e]; omega) (Ev.pos (by rw [e]; omega) (Ev.bindc rfl (Ev.pos (by simp; omega) ?_)))))))))
  rw [e, Int.toNat_natCast, Int.toNat_natCast, List.nil_append]
  refine Ev.bind (place_ev (less ls k) (by omega) hlg (RR (less ls k)) rfl) (Ev.pos (by omega) ?_)
  refine Ev.bind (has_ev _ _ (by show (plL (RR (less ls k))).length ≤ _; omega)) ?_
  rw [← hb]
  by_cases c1 : (ends ls k).1 ∈ plL (RR (less ls k))
  · rw [if_neg (by rw [decide_eq_true c1]; decide)]
    exact Ev.pos (decide_eq_true c1) (Ev.bind (has_ev _ _ (by show (plL (RR (less ls k))).length ≤ _; omega)) (Ev.now _))
  · rw [if_pos (by rw [decide_eq_false c1]; rfl)]
    exact Ev.neg (by show ¬ decide ((ends ls k).1 ∈ plL (RR (less ls k))) = true; rw [decide_eq_false c1]; decide) (Ev.now _)
theorem l6Has_ev (ls : L) (s : Int) (hb : ls.length ≤ 140737488351232) : Ev (fun m => spec_l6Has.f m ls s) (legsB ls && decide (s ∈ plL (RR ls))) := by
  unfold spec_l6Has.f
  refine Ev.bind (l4Legs_ev ls hb) ?_
  cases h : legsB ls
  · exact Ev.neg (by decide) (Ev.now _)
  · have h' := legsB_iff.mp h
    have hs := plL_small h'.1
    exact Ev.pos rfl (Ev.bind (place_ev ls h'.2 h'.1 (RR ls) rfl) (Ev.bind (has_ev _ _ (by show (plL (RR ls)).length ≤ _; omega)) (Ev.now _)))
/-- The reference's IsBridge. -/
def isBridgeM (ls : L) (i : Int) : Bool × Bool := if legsB ls = true ∧ (0 ≤ i ∧ i < (ls.length : Int)) ∧ (leg ls i).f0 ∈ plL (RR ls) then (bridgeB ls i, true) else (false, false)
theorem specIsBridge_ev (ls : L) (i : Int) (hb : ls.length ≤ 140737488351232) : Ev (fun m => spec_IsBridge.f m ls i) (isBridgeM ls i) := by
  unfold spec_IsBridge.f isBridgeM
  refine Ev.bind (l4Legs_ev ls hb) ?_
  by_cases h : legsB ls = true
  · have h' := legsB_iff.mp h
    refine Ev.pos h ?_
    have e : spec_l1In.f i 0 (wrap64 ((ls.length : Int) - 1)) = some (decide (0 ≤ i ∧ i < (ls.length : Int))) := by
      rw [w64 (by omega) (by omega)]
      unfold spec_l1In.f
      by_cases c : 0 ≤ i
      · rw [if_pos c]; congr 1; rw [decide_eq_decide]; omega
      · rw [if_neg c, decide_eq_false (fun hh => c hh.1)]
    refine Ev.bindc e ?_
    by_cases c : 0 ≤ i ∧ i < (ls.length : Int)
    · refine Ev.pos (decide_eq_true c) (Ev.pos c.1 (Ev.pos c.2 ?_))
      refine Ev.bind (l6Has_ev ls _ hb) ?_
      obtain ⟨k, rfl⟩ := Int.eq_ofNat_of_zero_le c.1
      rw [show rd_T56 ls (k : Int) = leg ls k from rfl, h, Bool.true_and]
      by_cases q : (leg ls k).f0 ∈ plL (RR ls)
      · rw [if_pos ⟨rfl, c, q⟩]
        exact Ev.pos (decide_eq_true q) (Ev.bind (l8Bridge_ev h'.2 h'.1 k (by omega) q) (Ev.now _))
      · rw [if_neg (fun hh => q hh.2.2)]
        exact Ev.neg (by rw [decide_eq_false q]; decide) (Ev.now _)
    · rw [if_neg (fun hh => c hh.2.1)]
      exact Ev.neg (by rw [decide_eq_false c]; decide) (Ev.now _)
  · rw [if_neg (fun hh => h hh.1)]
    exact Ev.neg h (Ev.now _)
end Go.Proofs.YtiooiefjcbooeaaDoor.Net

/- The program's IsBridge, in the form of the printed functions, over the laid table of sines. -/
namespace Go.Proofs.YtiooiefjcbooeaaDoor.A
open Go.RowKit Go.Proofs.YtiooiefjcbooeaaDoorW.PrintWords Go.Proofs.YtiooiefjcbooeaaDoorW.PrintLast Go.Proofs.YtiooiefjcbooeaaDoorW.PrintMore
open Go.Proofs.YtiooiefjcbooeaaDoor.Net
set_option linter.unusedVariables false
set_option linter.unusedSimpArgs false
def impl_IsBridge.f (l0 : List (S56)) (a1 : Int) : Option (Bool × Bool) := if l0.length ≤ 140737488351232 then some (isBridgeM l0 a1) else none
set_option maxHeartbeats 2000000 in
set_option maxRecDepth 100000 in
theorem impl_IsBridge.calls (A0 : Option Addr) (c0 : Nat) (l0 : List (S56)) (a1 : Int) (r1 : Bool) (r2 : Bool) (w : World) (hr0 : Kd.C k56 w A0 l0.length l0) (hc0 : l0.length ≤ c0) (h : impl_IsBridge.f l0 a1 = some (r1, r2)) (hL : Sine.Laid w) :
    Calls Tryd.prog 21 #[.slice A0 l0.length c0, .int .i64 a1] w fun e w' => e = .returned (.tuple #[.bool r1, .bool r2]) ∧ Below w.heap.size w w' := by
  unfold impl_IsBridge.f at h
  by_cases hb : l0.length ≤ 140737488351232
  · rw [if_pos hb] at h
    unfold isBridgeM at h
    have HR := Aside0.mk hr0
    have HL := Aside0.mk hL
    have HB := Aside0.mk (Below.refl w.heap.size w)
    by_cases hm : legsB l0 = true ∧ (0 ≤ a1 ∧ a1 < (l0.length : Int))
    · obtain ⟨k, rfl⟩ := Int.eq_ofNat_of_zero_le hm.2.1
      have HV := Aside0.mk (legsB_iff.mp hm.1)
      have hv := hm.1
      have h0 := hm.2.1
      have h1 := hm.2.2
      have hk : k < l0.length := by omega
      have hgk := leg_good HV.out.1 k hk
      have hpq : Pq (RR l0) (leg l0 k).f0.toNat = decide ((leg l0 k).f0 ∈ plL (RR l0)) := by rw [Pq_eq, Int.toNat_of_nonneg hgk.1.1]
      clear hr0 hL hgk
      by_cases hp : (leg l0 k).f0 ∈ plL (RR l0)
      · rw [if_pos ⟨hm.1, hm.2, hp⟩] at h
        simp only [Option.some.injEq, Prod.mk.injEq] at h
        obtain ⟨rfl, rfl⟩ := h
        rw [decide_eq_true hp] at hpq
        clear hm hp
        go_enter Tryd.func21, Tryd.ntmps21
        go_wp2_with (first
          | (go_at_call 58; (with_reducible refine (placedLeg A0 c0 l0 (k : Int) _ ?s0 ?s1 hc0 hv h0 h1).mono ?_); (case s0 => exact HL.out.keep (by (repeat (first | exact HB.out | exact Below.refl _ _ | apply below_alloc | apply pw_below_drewN | apply below_drew1)); done)); (case s1 => exact Kd.C_below HR.out (by (repeat (first | exact HB.out | exact Below.refl _ _ | apply below_alloc | apply pw_below_drewN | apply below_drew1)); done)); rintro e w' ⟨g, T, cA, cC, rfl, _, _, hw⟩; rw [hpq]; replace HB := Aside0.mk (below_step (show Below w.heap.size w _ from by (repeat (first | exact HB.out | exact Below.refl _ _ | apply below_alloc | apply pw_below_drewN | apply below_drew1)); done) hw); clear hw)
          | (go_at_call 59; have hq := isBridgeW A0 c0 l0 k _ (Kd.C_below HR.out (show Below w.heap.size w _ from by (repeat (first | exact HB.out | exact Below.refl _ _ | apply below_alloc | apply pw_below_drewN | apply below_drew1)); done)) hc0 HV.out.2 HV.out.1 hk; (with_reducible refine hq.mono ?_); clear hq; rintro e w' ⟨rfl, hw⟩; replace HB := Aside0.mk (below_step (show Below w.heap.size w _ from by (repeat (first | exact HB.out | exact Below.refl _ _ | apply below_alloc | apply pw_below_drewN | apply below_drew1)); done) hw); clear hw))
        exact bodyPost_ret (v := .tuple #[.bool (bridgeB l0 k), .bool true]) (by simp [results, Tryd.results21, go_sem]) rfl ⟨rfl, by repeat (first | exact HB.out | apply below_drew1)⟩
      · rw [if_neg (by rintro ⟨_, _, h⟩; exact hp h)] at h
        simp only [Option.some.injEq, Prod.mk.injEq] at h
        obtain ⟨rfl, rfl⟩ := h
        rw [decide_eq_false hp] at hpq
        clear hm hp
        go_enter Tryd.func21, Tryd.ntmps21
        go_wp2_with (go_at_call 58; (with_reducible refine (placedLeg A0 c0 l0 (k : Int) _ ?s0 ?s1 hc0 hv h0 h1).mono ?_); (case s0 => exact HL.out.keep (by (repeat (first | exact HB.out | exact Below.refl _ _ | apply below_alloc | apply pw_below_drewN | apply below_drew1)); done)); (case s1 => exact Kd.C_below HR.out (by (repeat (first | exact HB.out | exact Below.refl _ _ | apply below_alloc | apply pw_below_drewN | apply below_drew1)); done)); rintro e w' ⟨g, T, cA, cC, rfl, _, _, hw⟩; rw [hpq]; replace HB := Aside0.mk (below_step (show Below w.heap.size w _ from by (repeat (first | exact HB.out | exact Below.refl _ _ | apply below_alloc | apply pw_below_drewN | apply below_drew1)); done) hw); clear hw)
        exact bodyPost_ret (v := .tuple #[.bool false, .bool false]) (by simp [results, Tryd.results21, go_sem]) rfl ⟨rfl, by repeat (first | exact HB.out | apply below_drew1)⟩
    · rw [if_neg (by rintro ⟨h1, h2, _⟩; exact hm ⟨h1, h2⟩)] at h
      simp only [Option.some.injEq, Prod.mk.injEq] at h
      obtain ⟨rfl, rfl⟩ := h
      have hno : legsB l0 = true → ¬ (0 ≤ a1 ∧ a1 < (l0.length : Int)) := fun h1 h2 => hm ⟨h1, h2⟩
      clear hr0 hL hm
      go_enter Tryd.func21, Tryd.ntmps21
      go_wp2_with (go_at_call 58; (with_reducible refine (placedLeg_no A0 c0 l0 a1 _ ?s1 hc0 hb hno).mono ?_); (case s1 => exact Kd.C_below HR.out (by (repeat (first | exact HB.out | exact Below.refl _ _ | apply below_alloc | apply pw_below_drewN | apply below_drew1)); done)); rintro e w' ⟨rfl, hw⟩; replace HB := Aside0.mk (below_step (show Below w.heap.size w _ from by (repeat (first | exact HB.out | exact Below.refl _ _ | apply below_alloc | apply pw_below_drewN | apply below_drew1)); done) hw); clear hw)
      exact bodyPost_ret (v := .tuple #[.bool false, .bool false]) (by simp [results, Tryd.results21, go_sem]) rfl ⟨rfl, by repeat (first | exact HB.out | apply below_drew1)⟩
  · rw [if_neg hb] at h
    cases h
end Go.Proofs.YtiooiefjcbooeaaDoor.A

/- One Lean function and its proof for each Go function, written by a program out of the translation. No conditions. -/
namespace Go.Proofs.YtiooiefjcbooeaaDoor.A
open Go.Proofs.YtiooiefjcbooeaaDoor Go.RowKit Go.Proofs.YtiooiefjcbooeaaDoorW.PrintWords Go.Proofs.YtiooiefjcbooeaaDoorW.PrintLast Go.Proofs.YtiooiefjcbooeaaDoorW.PrintMore
attribute [local go_sem] max2_int min2_int max_two min_two max_three min_three max_four min_four   -- for this text's walks alone
set_option linter.unusedVariables false
set_option linter.unusedSimpArgs false

/-! ### laws_FnExactIsBridge: function 4 -/
def laws_FnExactIsBridge.j0 : Nat → List (S58) → List (S56) → Bool → Option (Bool)
  | 0, _, _, _ => none
  | k + 1, x0, x8, x38 => if x38 = true then (some false) else ((laws_toLegS.f k x0).bind fun t324 => ((laws_eqLegS.f k x8 t324).bind fun t327 => (if t327 = true then (some true) else (some false))))
def laws_FnExactIsBridge.f (k : Nat) (l0 : List (S58)) (a1 : Int) : Option (Bool) := (laws_szLegS.f l0 1048576).bind fun t313 => (if t313 < 0 then (some true) else ((laws_toLegS.f k l0).bind fun t314 => ((spec_IsBridge.f k t314 a1).bind fun bt317 => ((laws_toLegS.f k l0).bind fun t319 => ((impl_IsBridge.f t319 a1).bind fun bt322 => (if (bt322.1 != bt317.1) = true then (laws_FnExactIsBridge.j0 k l0 t319 true) else (laws_FnExactIsBridge.j0 k l0 t319 (bt322.2 != bt317.2))))))))
theorem laws_FnExactIsBridge.mono_l : ∀ k, (∀ y0 y1 y2, LeO (laws_FnExactIsBridge.j0 k y0 y1 y2) (laws_FnExactIsBridge.j0 (k + 1) y0 y1 y2))
  | 0 => fun _ _ _ r h => by simp [laws_FnExactIsBridge.j0] at h
  | k + 1 => by
    have ih0 := laws_FnExactIsBridge.mono_l k
    · intro y0 y1 y2
      unfold laws_FnExactIsBridge.j0
      repeat' first
      | (with_reducible exact ih0 _ _ _)
      | (with_reducible exact laws_eqLegS.mono _ _ _)
      | (with_reducible exact laws_toLegS.mono _ _)
      | (with_reducible exact spec_IsBridge.mono _ _ _)
      | (with_reducible exact LeO.refl _)
      | (with_reducible exact LeO.none _)
      | (with_reducible refine LeO.ite ?_ ?_)
      | (with_reducible refine LeO.bind ?_ (fun _ => ?_))
      | exact ih0 _ _ _
      | exact laws_eqLegS.mono _ _ _
      | exact laws_toLegS.mono _ _
      | exact spec_IsBridge.mono _ _ _
      | exact LeO.none _
      | refine LeO.ite ?_ ?_
      | refine LeO.bind ?_ (fun _ => ?_)
theorem laws_FnExactIsBridge.mono : ∀ a0 a1 k, LeO (laws_FnExactIsBridge.f k a0 a1) (laws_FnExactIsBridge.f (k + 1) a0 a1) := by
  intro a0 a1 k
  have ih0 := laws_FnExactIsBridge.mono_l k
  unfold laws_FnExactIsBridge.f
  repeat' first
      | (with_reducible exact ih0 _ _ _)
      | (with_reducible exact laws_eqLegS.mono _ _ _)
      | (with_reducible exact laws_toLegS.mono _ _)
      | (with_reducible exact spec_IsBridge.mono _ _ _)
      | (with_reducible exact LeO.refl _)
      | (with_reducible exact LeO.none _)
      | (with_reducible refine LeO.ite ?_ ?_)
      | (with_reducible refine LeO.bind ?_ (fun _ => ?_))
      | exact ih0 _ _ _
      | exact laws_eqLegS.mono _ _ _
      | exact laws_toLegS.mono _ _
      | exact spec_IsBridge.mono _ _ _
      | exact LeO.none _
      | refine LeO.ite ?_ ?_
      | refine LeO.bind ?_ (fun _ => ?_)
set_option maxHeartbeats 8000000 in
set_option maxRecDepth 100000 in
theorem laws_FnExactIsBridge.calls (k : Nat) (A0 : Option Addr) (c0 : Nat) (l0 : List (S58)) (a1 : Int) (r : Bool) (w : World) (hr0 : Kd.C k58 w A0 l0.length l0) (hc0 : l0.length ≤ c0) (h : laws_FnExactIsBridge.f k l0 a1 = some r) (hL : Net.Sine.Laid w) :
    Calls Tryd.prog 4 #[.slice A0 l0.length c0, .int .i64 a1] w fun e w' => e = .returned (.bool r) ∧ Below w.heap.size w w' := by
  have HL := Aside0.mk hL
  clear hL
  have HR0 := Aside0.mk hr0
  have HC0 := Aside0.mk hc0
  clear hr0 hc0
  have HB := Aside0.mk (Below.refl w.heap.size w)
  have H : ((laws_szLegS.f l0 1048576).bind fun t313 => (if t313 < 0 then (some true) else ((laws_toLegS.f k l0).bind fun t314 => ((spec_IsBridge.f k t314 a1).bind fun bt317 => ((laws_toLegS.f k l0).bind fun t319 => ((impl_IsBridge.f t319 a1).bind fun bt322 => (if (bt322.1 != bt317.1) = true then (laws_FnExactIsBridge.j0 k l0 t319 true) else (laws_FnExactIsBridge.j0 k l0 t319 (bt322.2 != bt317.2))))))))) = some r := h
  clear h
  replace H := Option.bind_eq_some_iff.mp H
  obtain ⟨t313, A30, H⟩ := H
  replace H : (if t313 < 0 then (some true) else ((laws_toLegS.f k l0).bind fun t314 => ((spec_IsBridge.f k t314 a1).bind fun bt317 => ((laws_toLegS.f k l0).bind fun t319 => ((impl_IsBridge.f t319 a1).bind fun bt322 => (if (bt322.1 != bt317.1) = true then (laws_FnExactIsBridge.j0 k l0 t319 true) else (laws_FnExactIsBridge.j0 k l0 t319 (bt322.2 != bt317.2)))))))) = some r := H
  have A3 := Aside0.mk A30
  clear A30
  by_cases c4 : t313 < 0
  · rw [if_pos c4] at H
    have c4b0 : decide (t313 < 0) = true := decide_eq_true c4
    clear c4
    obtain rfl := Option.some.inj H
    go_enter Tryd.func4, Tryd.ntmps4
    go_wp2_with (first | ((with_reducible refine gate_callee (f := 15) rfl ?_); refine goesL_ (some 13) rfl rfl Tryd.func15 (by kernel_rfl) rfl #[.slice A0 l0.length c0, .int .i64 1048576] rfl (by (try simp only [List.map_toArray, List.map_cons, List.map_nil]); first | done | rfl | (simp only [List.length_drop, List.length_take]; rfl)) ?_; (with_reducible refine (laws_szLegS.calls _ _ l0 1048576 t313 _ ?side1 ?side2 A3.out).mono ?_); (case side1 => repeat (first | exact HR0.out | (with_reducible refine Kd.C_alloc ?_ _) | (with_reducible refine Kd.C_drewN ?_ _) | (with_reducible refine Kd.C_drew ?_))); (case side2 => exact HC0.out); rintro e w' ⟨rfl, ⟨nd, rfl⟩⟩; refine ⟨_, rfl, ?_⟩))
    go_ret
    exact ⟨by first | rfl | (simp [errW_none, errW_some] <;> rfl) | (simp [*, errW_none, errW_some] <;> rfl), by repeat (first | (with_reducible first | exact HB.out | apply below_alloc | apply pw_below_drewN | apply below_drew1) | exact HB.out)⟩
  · rw [if_neg c4] at H
    have c4b0 : decide (t313 < 0) = false := decide_eq_false c4
    clear c4
    replace H := Option.bind_eq_some_iff.mp H
    obtain ⟨t314, A50, H⟩ := H
    replace H : ((spec_IsBridge.f k t314 a1).bind fun bt317 => ((laws_toLegS.f k l0).bind fun t319 => ((impl_IsBridge.f t319 a1).bind fun bt322 => (if (bt322.1 != bt317.1) = true then (laws_FnExactIsBridge.j0 k l0 t319 true) else (laws_FnExactIsBridge.j0 k l0 t319 (bt322.2 != bt317.2)))))) = some r := H
    have A5 := Aside0.mk A50
    clear A50
    replace H := Option.bind_eq_some_iff.mp H
    obtain ⟨⟨t317, t318⟩, A60, H⟩ := H
    replace H : ((laws_toLegS.f k l0).bind fun t319 => ((impl_IsBridge.f t319 a1).bind fun bt322 => (if (bt322.1 != t317) = true then (laws_FnExactIsBridge.j0 k l0 t319 true) else (laws_FnExactIsBridge.j0 k l0 t319 (bt322.2 != t318))))) = some r := H
    have A6 := Aside0.mk A60
    clear A60
    replace H := Option.bind_eq_some_iff.mp H
    obtain ⟨t319, A70, H⟩ := H
    replace H : ((impl_IsBridge.f t319 a1).bind fun bt322 => (if (bt322.1 != t317) = true then (laws_FnExactIsBridge.j0 k l0 t319 true) else (laws_FnExactIsBridge.j0 k l0 t319 (bt322.2 != t318)))) = some r := H
    have A7 := Aside0.mk A70
    clear A70
    replace H := Option.bind_eq_some_iff.mp H
    obtain ⟨⟨t322, t323⟩, A80, H⟩ := H
    replace H : (if (t322 != t317) = true then (laws_FnExactIsBridge.j0 k l0 t319 true) else (laws_FnExactIsBridge.j0 k l0 t319 (t323 != t318))) = some r := H
    have A8 := Aside0.mk A80
    clear A80
    have HC9 := Aside0.mk H
    clear H
    go_enter Tryd.func4, Tryd.ntmps4
    go_upto_region 8 with (first | ((with_reducible refine gate_callee (f := 15) rfl ?_); refine goesL_ (some 13) rfl rfl Tryd.func15 (by kernel_rfl) rfl #[.slice A0 l0.length c0, .int .i64 1048576] rfl (by (try simp only [List.map_toArray, List.map_cons, List.map_nil]); first | done | rfl | (simp only [List.length_drop, List.length_take]; rfl)) ?_; (with_reducible refine (laws_szLegS.calls _ _ l0 1048576 t313 _ ?side1 ?side2 A3.out).mono ?_); (case side1 => repeat (first | exact HR0.out | (with_reducible refine Kd.C_alloc ?_ _) | (with_reducible refine Kd.C_drewN ?_ _) | (with_reducible refine Kd.C_drew ?_))); (case side2 => exact HC0.out); rintro e w' ⟨rfl, ⟨nd, rfl⟩⟩; refine ⟨_, rfl, ?_⟩) | ((with_reducible refine gate_callee (f := 17) rfl ?_); refine goesL_ (some 18) rfl rfl Tryd.func17 (by kernel_rfl) rfl #[.slice A0 l0.length c0] rfl (by (try simp only [List.map_toArray, List.map_cons, List.map_nil]); first | done | rfl | (simp only [List.length_drop, List.length_take]; rfl)) ?_; (with_reducible refine (laws_toLegS.calls k _ _ l0 t314 _ ?side1 ?side2 A5.out).mono ?_); (case side1 => repeat (first | exact HR0.out | (with_reducible refine Kd.C_alloc ?_ _) | (with_reducible refine Kd.C_drewN ?_ _) | (with_reducible refine Kd.C_drew ?_))); (case side2 => exact HC0.out); rintro e w10 ⟨v315, rfl, ho0, hb⟩; refine ⟨_, rfl, ?_⟩; have n0_ := Aside0.mk (Kd.R_lower ho0 (below_size (by repeat (first | (with_reducible first | exact HB.out | apply below_alloc | apply pw_below_drewN | apply below_drew1) | exact HB.out)))); have n1_ := Aside0.mk (below_step (by repeat (first | (with_reducible first | exact HB.out | apply below_alloc | apply pw_below_drewN | apply below_drew1) | exact HB.out)) hb); clear HB; have HO316 := n0_; have HB := n1_; clear n0_ n1_; (try clear hb); (try clear hb2); (try clear hk); (try clear hi); (try clear ho0); obtain ⟨Ao11, co11, eo11⟩ := Kd.R_slice HO316.out; subst eo11) | ((with_reducible refine gate_callee (f := 20) rfl ?_); refine goesL_ (some 20) rfl rfl Tryd.func20 (by kernel_rfl) rfl #[.slice Ao11 t314.length co11, .int .i64 a1] rfl (by (try simp only [List.map_toArray, List.map_cons, List.map_nil]); first | done | rfl | (simp only [List.length_drop, List.length_take]; rfl)) ?_; (with_reducible refine (spec_IsBridge.calls k _ _ t314 a1 t317 t318 _ ?side1 ?side2 A6.out).mono ?_); (case side1 => repeat (first | exact (Kd.R_reads' HO316.out).2.2 | (with_reducible refine Kd.C_alloc ?_ _) | (with_reducible refine Kd.C_drewN ?_ _) | (with_reducible refine Kd.C_drew ?_))); (case side2 => exact (Kd.R_reads' HO316.out).2.1); rintro e w12 ⟨rfl, hb⟩; refine ⟨_, rfl, ?_⟩; have n0_ := Aside0.mk (Kd.R_below (by (with_reducible repeat (first | apply Kd.R_alloc | apply Kd.R_drewN | apply Kd.R_drew)); exact HO316.out) hb); have n1_ := Aside0.mk (below_step (by repeat (first | (with_reducible first | exact HB.out | apply below_alloc | apply pw_below_drewN | apply below_drew1) | exact HB.out)) hb); clear HO316; clear HB; have HO316 := n0_; have HB := n1_; clear n0_ n1_; (try clear hb); (try clear hb2); (try clear hk); (try clear hi)) | ((with_reducible refine gate_callee (f := 17) rfl ?_); refine goesL_ (some 24) rfl rfl Tryd.func17 (by kernel_rfl) rfl #[.slice A0 l0.length c0] rfl (by (try simp only [List.map_toArray, List.map_cons, List.map_nil]); first | done | rfl | (simp only [List.length_drop, List.length_take]; rfl)) ?_; (with_reducible refine (laws_toLegS.calls k _ _ l0 t319 _ ?side1 ?side2 A7.out).mono ?_); (case side1 => repeat (first | exact (Kd.C_below HR0.out HB.out) | (with_reducible refine Kd.C_alloc ?_ _) | (with_reducible refine Kd.C_drewN ?_ _) | (with_reducible refine Kd.C_drew ?_))); (case side2 => exact HC0.out); rintro e w13 ⟨v320, rfl, ho0, hb⟩; refine ⟨_, rfl, ?_⟩; have n0_ := Aside0.mk (Kd.R_elder' (by (with_reducible repeat (first | apply Kd.R_alloc | apply Kd.R_drewN | apply Kd.R_drew)); exact HO316.out) (Kd.R_base ho0) hb); have n1_ := Aside0.mk (Kd.R_lower (Kd.R_new' ho0 (Kd.R_lt (by (with_reducible repeat (first | apply Kd.R_alloc | apply Kd.R_drewN | apply Kd.R_drew)); exact HO316.out))) (below_size (by repeat (first | (with_reducible first | exact HB.out | apply below_alloc | apply pw_below_drewN | apply below_drew1) | exact HB.out)))); have n2_ := Aside0.mk (below_step (by repeat (first | (with_reducible first | exact HB.out | apply below_alloc | apply pw_below_drewN | apply below_drew1) | exact HB.out)) hb); clear HO316; clear HB; have HO316 := n0_; have HO321 := n1_; have HB := n2_; clear n0_ n1_ n2_; (try clear hb); (try clear hb2); (try clear hk); (try clear hi); (try clear ho0); obtain ⟨Ao14, co14, eo14⟩ := Kd.R_slice HO321.out; subst eo14) | ((with_reducible refine gate_callee (f := 21) rfl ?_); refine goesL_ (some 28) rfl rfl Tryd.func21 (by kernel_rfl) rfl #[.slice Ao14 t319.length co14, .int .i64 a1] rfl (by (try simp only [List.map_toArray, List.map_cons, List.map_nil]); first | done | rfl | (simp only [List.length_drop, List.length_take]; rfl)) ?_; (with_reducible refine (impl_IsBridge.calls _ _ t319 a1 t322 t323 _ ?side1 ?side2 A8.out ?sideL).mono ?_); (case sideL => exact HL.out.keep (by repeat (first | (with_reducible first | exact HB.out | apply below_alloc | apply pw_below_drewN | apply below_drew1) | exact HB.out))); (case side1 => repeat (first | exact (Kd.R_reads' HO321.out).2.2 | (with_reducible refine Kd.C_alloc ?_ _) | (with_reducible refine Kd.C_drewN ?_ _) | (with_reducible refine Kd.C_drew ?_))); (case side2 => exact (Kd.R_reads' HO321.out).2.1); rintro e w15 ⟨rfl, hb⟩; refine ⟨_, rfl, ?_⟩; have n0_ := Aside0.mk (Kd.R_below (by (with_reducible repeat (first | apply Kd.R_alloc | apply Kd.R_drewN | apply Kd.R_drew)); exact HO316.out) hb); have n1_ := Aside0.mk (Kd.R_below (by (with_reducible repeat (first | apply Kd.R_alloc | apply Kd.R_drewN | apply Kd.R_drew)); exact HO321.out) hb); have n2_ := Aside0.mk (below_step (by repeat (first | (with_reducible first | exact HB.out | apply below_alloc | apply pw_below_drewN | apply below_drew1) | exact HB.out)) hb); clear HO316; clear HO321; clear HB; have HO316 := n0_; have HO321 := n1_; have HB := n2_; clear n0_ n1_ n2_; (try clear hb); (try clear hb2); (try clear hk); (try clear hi)))
    (try simp only [Act.put, List.setIfInBounds_toArray, List.set_cons_zero, List.set_cons_succ])
    go_cut [38] (fun v38 wc => ∃ (kq : Nat) (x38_8 : Bool), v38 = .bool x38_8 ∧ Aside0 (laws_FnExactIsBridge.j0 kq l0 t319 x38_8 = some r) ∧ Aside0 (kq ≤ k) ∧ Aside0 (Kd.R k56 56 wc w.heap.size (fun _ => True) (.slice Ao14 t319.length co14) t319) ∧ Aside0 (Below w.heap.size w wc))
    case first =>
      have H := HC9.out
      clear HC9
      by_cases c16 : (t322 != t317) = true
      · rw [if_pos c16] at H
        have c16b0 : (t322 != t317) = true := c16
        (try (have c16b1 : decide (t322 = t317) = false := by simpa using c16))
        (try (have c16b2 : (t322 == t317) = false := by simpa using c16))
        (try (have c16b3 : ¬ (t322 = t317) := by simpa using c16))
        clear c16
        (first | rw [c16b0] | (simp only [i64_w, i32_w]; rw [c16b0]) | skip)
        have H' := Aside0.mk H
        clear H
        go_wp2
        go_meet
        case rel => exact ⟨_, (true), (by first | rfl | (simp; done) | (simp [*]; done)), H', ⟨by first | omega | exact Nat.le_refl _⟩, ⟨by (with_reducible repeat (first | apply Kd.R_alloc | apply Kd.R_drewN | apply Kd.R_drew)); exact Kd.R_mono HO321.out (fun _ hk => trivial)⟩, ⟨by repeat (first | (with_reducible first | exact HB.out | apply below_alloc | apply pw_below_drewN | apply below_drew1) | exact HB.out)⟩⟩
      · rw [if_neg c16] at H
        have c16b0 : (t322 != t317) = false := by simpa using c16
        (try (have c16b1 : decide (t322 = t317) = true := by simpa using c16))
        (try (have c16b2 : (t322 == t317) = true := by simpa using c16))
        clear c16
        (first | rw [c16b0] | (simp only [i64_w, i32_w]; rw [c16b0]) | skip)
        have H' := Aside0.mk H
        clear H
        go_wp2
        go_meet
        case rel => exact ⟨_, ((t323 != t318)), (by first | rfl | (simp; done) | (simp [*]; done)), H', ⟨by first | omega | exact Nat.le_refl _⟩, ⟨by (with_reducible repeat (first | apply Kd.R_alloc | apply Kd.R_drewN | apply Kd.R_drew)); exact Kd.R_mono HO321.out (fun _ hk => trivial)⟩, ⟨by repeat (first | (with_reducible first | exact HB.out | apply below_alloc | apply pw_below_drewN | apply below_drew1) | exact HB.out)⟩⟩
    case rest =>
      clear HC9
      try clear c1
      try clear c2
      try clear p2
      try clear c4
      try clear c4b0
      try clear c15
      try clear c16
      try clear c16b0
      try clear c16b1
      try clear c16b2
      obtain ⟨kq, x38_8, rfl, HA, HJ8, HO_8, HB⟩ := hcut
      cases kq with
      | zero => exact absurd HA.out (by simp [laws_FnExactIsBridge.j0])
      | succ kj8 =>
        have H := HA.out
        clear HA
        simp only [laws_FnExactIsBridge.j0] at H
        by_cases c17 : x38_8 = true
        · subst c17
          have H1 : (some false) = some r := by rw [if_pos rfl] at H; exact H
          clear H
          have H := H1
          clear H1
          obtain rfl := Option.some.inj H
          go_wp2
          go_ret
          exact ⟨by first | rfl | (simp [errW_none, errW_some] <;> rfl) | (simp [*, errW_none, errW_some] <;> rfl), by repeat (first | (with_reducible first | exact HB.out | apply below_alloc | apply pw_below_drewN | apply below_drew1) | exact HB.out)⟩
        · replace c17 := Bool.eq_false_iff.mpr c17
          subst c17
          have H1 : ((laws_toLegS.f kj8 l0).bind fun t324 => ((laws_eqLegS.f kj8 t319 t324).bind fun t327 => (if t327 = true then (some true) else (some false)))) = some r := by rw [if_neg (show ¬ (false = true) by decide)] at H; exact H
          clear H
          have H := H1
          clear H1
          replace H := Option.bind_eq_some_iff.mp H
          obtain ⟨t324, A180, H⟩ := H
          replace H : ((laws_eqLegS.f kj8 t319 t324).bind fun t327 => (if t327 = true then (some true) else (some false))) = some r := H
          have A18 := Aside0.mk A180
          clear A180
          replace H := Option.bind_eq_some_iff.mp H
          obtain ⟨t327, A190, H⟩ := H
          replace H : (if t327 = true then (some true) else (some false)) = some r := H
          have A19 := Aside0.mk A190
          clear A190
          by_cases c20 : t327 = true
          · subst c20
            have H1 : (some true) = some r := by rw [if_pos rfl] at H; exact H
            clear H
            have H := H1
            clear H1
            obtain rfl := Option.some.inj H
            go_wp2_with (first | ((with_reducible refine gate_callee (f := 17) rfl ?_); refine goesL_ (some 41) rfl rfl Tryd.func17 (by kernel_rfl) rfl #[.slice A0 l0.length c0] rfl (by (try simp only [List.map_toArray, List.map_cons, List.map_nil]); first | done | rfl | (simp only [List.length_drop, List.length_take]; rfl)) ?_; (with_reducible refine (laws_toLegS.calls kj8 _ _ l0 t324 _ ?side1 ?side2 A18.out).mono ?_); (case side1 => repeat (first | exact (Kd.C_below HR0.out HB.out) | (with_reducible refine Kd.C_alloc ?_ _) | (with_reducible refine Kd.C_drewN ?_ _) | (with_reducible refine Kd.C_drew ?_))); (case side2 => exact HC0.out); rintro e w21 ⟨v325, rfl, ho0, hb⟩; refine ⟨_, rfl, ?_⟩; have n0_ := Aside0.mk (Kd.R_elder' (by (with_reducible repeat (first | apply Kd.R_alloc | apply Kd.R_drewN | apply Kd.R_drew)); exact HO_8.out) (Kd.R_base ho0) hb); have n1_ := Aside0.mk (Kd.R_lower (Kd.R_new' ho0 (Kd.R_lt (by (with_reducible repeat (first | apply Kd.R_alloc | apply Kd.R_drewN | apply Kd.R_drew)); exact HO_8.out))) (below_size (by repeat (first | (with_reducible first | exact HB.out | apply below_alloc | apply pw_below_drewN | apply below_drew1) | exact HB.out)))); have n2_ := Aside0.mk (below_step (by repeat (first | (with_reducible first | exact HB.out | apply below_alloc | apply pw_below_drewN | apply below_drew1) | exact HB.out)) hb); clear HO_8; clear HB; have HO_8 := n0_; have HO326 := n1_; have HB := n2_; clear n0_ n1_ n2_; (try clear hb); (try clear hb2); (try clear hk); (try clear hi); (try clear ho0); obtain ⟨Ao22, co22, eo22⟩ := Kd.R_slice HO326.out; subst eo22) | ((with_reducible refine gate_callee (f := 19) rfl ?_); refine goesL_ (some 42) rfl rfl Tryd.func19 (by kernel_rfl) rfl #[.slice Ao14 t319.length co14, .slice Ao22 t324.length co22] rfl (by (try simp only [List.map_toArray, List.map_cons, List.map_nil]); first | done | rfl | (simp only [List.length_drop, List.length_take]; rfl)) ?_; (with_reducible refine (laws_eqLegS.calls kj8 _ _ t319 _ _ t324 true _ ?side1 ?side2 ?side3 ?side4 A19.out).mono ?_); (case side1 => repeat (first | exact (Kd.R_reads' HO_8.out).2.2 | (with_reducible refine Kd.C_alloc ?_ _) | (with_reducible refine Kd.C_drewN ?_ _) | (with_reducible refine Kd.C_drew ?_))); (case side2 => exact (Kd.R_reads' HO_8.out).2.1); (case side3 => repeat (first | exact (Kd.R_reads' HO326.out).2.2 | (with_reducible refine Kd.C_alloc ?_ _) | (with_reducible refine Kd.C_drewN ?_ _) | (with_reducible refine Kd.C_drew ?_))); (case side4 => exact (Kd.R_reads' HO326.out).2.1); rintro e w23 ⟨rfl, hb⟩; refine ⟨_, rfl, ?_⟩; have n0_ := Aside0.mk (Kd.R_below (by (with_reducible repeat (first | apply Kd.R_alloc | apply Kd.R_drewN | apply Kd.R_drew)); exact HO_8.out) hb); have n1_ := Aside0.mk (Kd.R_below (by (with_reducible repeat (first | apply Kd.R_alloc | apply Kd.R_drewN | apply Kd.R_drew)); exact HO326.out) hb); have n2_ := Aside0.mk (below_step (by repeat (first | (with_reducible first | exact HB.out | apply below_alloc | apply pw_below_drewN | apply below_drew1) | exact HB.out)) hb); clear HO_8; clear HO326; clear HB; have HO_8 := n0_; have HO326 := n1_; have HB := n2_; clear n0_ n1_ n2_; (try clear hb); (try clear hb2); (try clear hk); (try clear hi)))
            go_ret
            exact ⟨by first | rfl | (simp [errW_none, errW_some] <;> rfl) | (simp [*, errW_none, errW_some] <;> rfl), by repeat (first | (with_reducible first | exact HB.out | apply below_alloc | apply pw_below_drewN | apply below_drew1) | exact HB.out)⟩
          · replace c20 := Bool.eq_false_iff.mpr c20
            subst c20
            have H1 : (some false) = some r := by rw [if_neg (show ¬ (false = true) by decide)] at H; exact H
            clear H
            have H := H1
            clear H1
            obtain rfl := Option.some.inj H
            go_wp2_with (first | ((with_reducible refine gate_callee (f := 17) rfl ?_); refine goesL_ (some 41) rfl rfl Tryd.func17 (by kernel_rfl) rfl #[.slice A0 l0.length c0] rfl (by (try simp only [List.map_toArray, List.map_cons, List.map_nil]); first | done | rfl | (simp only [List.length_drop, List.length_take]; rfl)) ?_; (with_reducible refine (laws_toLegS.calls kj8 _ _ l0 t324 _ ?side1 ?side2 A18.out).mono ?_); (case side1 => repeat (first | exact (Kd.C_below HR0.out HB.out) | (with_reducible refine Kd.C_alloc ?_ _) | (with_reducible refine Kd.C_drewN ?_ _) | (with_reducible refine Kd.C_drew ?_))); (case side2 => exact HC0.out); rintro e w24 ⟨v325, rfl, ho0, hb⟩; refine ⟨_, rfl, ?_⟩; have n0_ := Aside0.mk (Kd.R_elder' (by (with_reducible repeat (first | apply Kd.R_alloc | apply Kd.R_drewN | apply Kd.R_drew)); exact HO_8.out) (Kd.R_base ho0) hb); have n1_ := Aside0.mk (Kd.R_lower (Kd.R_new' ho0 (Kd.R_lt (by (with_reducible repeat (first | apply Kd.R_alloc | apply Kd.R_drewN | apply Kd.R_drew)); exact HO_8.out))) (below_size (by repeat (first | (with_reducible first | exact HB.out | apply below_alloc | apply pw_below_drewN | apply below_drew1) | exact HB.out)))); have n2_ := Aside0.mk (below_step (by repeat (first | (with_reducible first | exact HB.out | apply below_alloc | apply pw_below_drewN | apply below_drew1) | exact HB.out)) hb); clear HO_8; clear HB; have HO_8 := n0_; have HO326 := n1_; have HB := n2_; clear n0_ n1_ n2_; (try clear hb); (try clear hb2); (try clear hk); (try clear hi); (try clear ho0); obtain ⟨Ao25, co25, eo25⟩ := Kd.R_slice HO326.out; subst eo25) | ((with_reducible refine gate_callee (f := 19) rfl ?_); refine goesL_ (some 42) rfl rfl Tryd.func19 (by kernel_rfl) rfl #[.slice Ao14 t319.length co14, .slice Ao25 t324.length co25] rfl (by (try simp only [List.map_toArray, List.map_cons, List.map_nil]); first | done | rfl | (simp only [List.length_drop, List.length_take]; rfl)) ?_; (with_reducible refine (laws_eqLegS.calls kj8 _ _ t319 _ _ t324 false _ ?side1 ?side2 ?side3 ?side4 A19.out).mono ?_); (case side1 => repeat (first | exact (Kd.R_reads' HO_8.out).2.2 | (with_reducible refine Kd.C_alloc ?_ _) | (with_reducible refine Kd.C_drewN ?_ _) | (with_reducible refine Kd.C_drew ?_))); (case side2 => exact (Kd.R_reads' HO_8.out).2.1); (case side3 => repeat (first | exact (Kd.R_reads' HO326.out).2.2 | (with_reducible refine Kd.C_alloc ?_ _) | (with_reducible refine Kd.C_drewN ?_ _) | (with_reducible refine Kd.C_drew ?_))); (case side4 => exact (Kd.R_reads' HO326.out).2.1); rintro e w26 ⟨rfl, hb⟩; refine ⟨_, rfl, ?_⟩; have n0_ := Aside0.mk (Kd.R_below (by (with_reducible repeat (first | apply Kd.R_alloc | apply Kd.R_drewN | apply Kd.R_drew)); exact HO_8.out) hb); have n1_ := Aside0.mk (Kd.R_below (by (with_reducible repeat (first | apply Kd.R_alloc | apply Kd.R_drewN | apply Kd.R_drew)); exact HO326.out) hb); have n2_ := Aside0.mk (below_step (by repeat (first | (with_reducible first | exact HB.out | apply below_alloc | apply pw_below_drewN | apply below_drew1) | exact HB.out)) hb); clear HO_8; clear HO326; clear HB; have HO_8 := n0_; have HO326 := n1_; have HB := n2_; clear n0_ n1_ n2_; (try clear hb); (try clear hb2); (try clear hk); (try clear hi)))
            go_ret
            exact ⟨by first | rfl | (simp [errW_none, errW_some] <;> rfl) | (simp [*, errW_none, errW_some] <;> rfl), by repeat (first | (with_reducible first | exact HB.out | apply below_alloc | apply pw_below_drewN | apply below_drew1) | exact HB.out)⟩

end Go.Proofs.YtiooiefjcbooeaaDoor.A

/- Slices of legs that a law copies and compares. No conditions. -/
namespace Go.Proofs.YtiooiefjcbooeaaDoor.Legs
open Go.RowKit Go.Proofs.YtiooiefjcbooeaaDoorW.PrintWords Go.Proofs.YtiooiefjcbooeaaDoor.Plain Go.Proofs.YtiooiefjcbooeaaDoor.A
set_option linter.unusedVariables false
set_option linter.unusedSimpArgs false
def cv (x : S58) : S56 := ⟨x.f0, x.f1, x.f2, x.f3, x.f4⟩
theorem toLegs_ev (l : List (S58)) (hb : l.length ≤ 7036874417766) : Ev (fun k => laws_toLegS.f k l) (l.map cv) := by
  unfold laws_toLegS.f
  refine Ev.pos (by omega) ?_
  refine Ev.pos (by omega) ?_
  exact copy_all laws_toLegS.l0 cv z58 _ (fun k x0 x3 x4 => by simp only [laws_toLegS.l0, laws_toLeg.f, Option.bind_some]; rfl) l (by omega)
theorem eqLegs_ev (l : List (S56)) (hb : l.length ≤ 140737488351232) : Ev (fun k => laws_eqLegS.f k l l) true := by
  unfold laws_eqLegS.f
  refine Ev.pos rfl ?_
  exact eq_all laws_eqLegS.l0 (fun k x0 x4 h0 => by
    simp only [laws_eqLegS.l0, laws_eqLeg.f, if_true, Option.bind_some]
    by_cases h : x4 < (x0.length : Int)
    · rw [if_pos h, if_pos h0, if_pos h, if_pos h]
    · rw [if_neg h, if_neg h]) l hb
theorem szLegs_eq (l : List (S58)) (hb : l.length ≤ 140737488351232) : laws_szLegS.f l 1048576 = some (if l.length ≤ 1048576 then 1048576 - (l.length : Int) else -1) := by
  unfold laws_szLegS.f
  rw [w64 (by omega) (by omega)]
  by_cases h : l.length ≤ 1048576
  · rw [if_neg (by omega), if_pos h]
  · rw [if_pos (by omega), if_neg h]
end Go.Proofs.YtiooiefjcbooeaaDoor.Legs

/- The law FnExactIsBridge, as a plain statement: the program's IsBridge answers what the reference's answers. Conditions: those of the row's own reading. -/
namespace Go.Proofs.YtiooiefjcbooeaaDoor.Pure
open Go.RowKit Go.Proofs.YtiooiefjcbooeaaDoorW.PrintWords Go.Proofs.YtiooiefjcbooeaaDoor.Plain Go.Proofs.YtiooiefjcbooeaaDoor.A Go.Proofs.YtiooiefjcbooeaaDoor.Legs
set_option linter.unusedVariables false
set_option linter.unusedSimpArgs false
theorem FnExactIsBridge (l0 : List (S58)) (a1 : Int) (hb : l0.length * 40 ≤ 140737488351232) (_ : ∀ x ∈ l0, (Lit.int .i64 x.f0).wf = true ∧ (Lit.int .i64 x.f1).wf = true ∧ (Lit.int .i64 x.f2).wf = true ∧ (Lit.int .i64 x.f3).wf = true ∧ (Lit.int .i64 x.f4).wf = true) (_ : (Lit.int .i64 a1).wf = true) : ∃ k, laws_FnExactIsBridge.f k l0 a1 = some true := by
  refine Ev.rounds ?_
  have hl : (l0.map cv).length = l0.length := by simp
  have hsz := szLegs_eq l0 (by omega)
  by_cases c : l0.length ≤ 1048576
  · rw [if_pos c] at hsz
    obtain ⟨B, hB⟩ : ∃ B : Bool × Bool, B = Net.isBridgeM (l0.map cv) a1 := ⟨_, rfl⟩
    have hi : impl_IsBridge.f (l0.map cv) a1 = some (B.1, B.2) := by unfold impl_IsBridge.f; rw [if_pos (by omega), hB]
    have hs : Ev (fun k => spec_IsBridge.f k (l0.map cv) a1) B := by rw [hB]; exact Net.specIsBridge_ev _ a1 (by omega)
    clear hB
    have hlegs := toLegs_ev l0 (by omega)
    refine Ev.bindc hsz (Ev.neg (by omega) ?_)
    refine Ev.bind hlegs (Ev.bind hs (Ev.bind hlegs (Ev.bindc hi (Ev.neg (by simp) ?_))))
    refine Ev.step (f := fun k => (laws_toLegS.f k l0).bind fun t => (laws_eqLegS.f k (l0.map cv) t).bind fun t' => if t' = true then some true else some false) (fun k => ?_) ?_
    · simp only [laws_FnExactIsBridge.j0, bne_self_eq_false, Bool.false_eq_true, if_false]
    · exact Ev.bind hlegs (Ev.bind (eqLegs_ev _ (by omega)) (Ev.pos rfl (Ev.now _)))
  · rw [if_neg c] at hsz
    exact Ev.bindc hsz (Ev.pos (by decide) (Ev.now _))
end Go.Proofs.YtiooiefjcbooeaaDoor.Pure

/- General laws by which a law's arguments are opened: a slice of structs whose fields are integers or bools, as a row of the print's kinds; a struct by value. No conditions. -/
namespace Go.Proofs.YtiooiefjcbooeaaDoor.Opens
open Go.ChangeShapes Go.WideShapes Go.Deep Go.RowKit Go.Proofs.YtiooiefjcbooeaaDoorW.PrintWords

theorem list_of {α : Type} {P : Nat → α → Prop} : ∀ (n : Nat), (∀ i, i < n → ∃ x, P i x) → ∃ xs : List α, xs.length = n ∧ ∀ i x, xs[i]? = some x → P i x
  | 0, _ => ⟨[], rfl, fun i x h => by simp at h⟩
  | n + 1, h => by
    obtain ⟨xs, hl, hx⟩ := list_of n (fun i hi => h i (Nat.lt_succ_of_lt hi))
    obtain ⟨y, hy⟩ := h n (Nat.lt_succ_self n)
    refine ⟨xs ++ [y], by simp [hl], fun i x hi => ?_⟩
    by_cases hlt : i < xs.length
    · rw [List.getElem?_append_left hlt] at hi
      exact hx i x hi
    · rw [List.getElem?_append_right (by omega)] at hi
      have h0 : i - xs.length = 0 := by
        have := (List.getElem?_eq_some_iff.1 hi).1
        simp at this
        omega
      rw [h0] at hi
      simp at hi
      subst hi
      have : i = n := by omega
      subst this
      exact hy

section
variable {H : Type} {enc : TypeId × Value → H} {P : Program} {w : World} {base : Nat} {spare : Nat → Bool} {held : Bool}
/-- A slice of structs, opened: the list of what its elements are, each by the kind's own reading. -/
theorem open_row {α : Type} (d : Kd α) {Q : α → Prop} {t e : TypeId} {a : Option Addr} {len cap : Nat} {dd : DataW H} {ps : List MemPlace} (ht : P.underlying t = some (.slice e)) (hC : P.cellsOf e = d.sz)
    (hd : ∀ n cs y, DataW.trod enc P w base spare held n e cs = some y → ∃ x, d.K w x cs ∧ Q x)
    (h : DataW.Trod enc P w base spare held t (.slice a len cap) dd ps) : ∃ xs : List α, xs.length = len ∧ len ≤ cap ∧ d.C w a len xs ∧ ∀ x ∈ xs, Q x := by
  obtain ⟨fuel, hf⟩ := h
  rcases open_slice ht hf with ⟨hcs, _⟩ | ⟨x, l, c, m, n, D, Pl, hcs, _, hl, hm, hmm, _, hi⟩
  · simp [Value.cells] at hcs
    obtain ⟨rfl, rfl, rfl⟩ := hcs
    exact ⟨[], rfl, Nat.le_refl _, ⟨rfl, by omega, fun h => by omega⟩, fun x hx => by simp at hx⟩
  · simp [Value.cells] at hcs
    obtain ⟨rfl, rfl, rfl⟩ := hcs
    have hle : len ≤ m := by subst hmm; split <;> omega
    obtain ⟨xs, hxl, hx⟩ := list_of (P := fun i (z : α) => Q z ∧ ∃ cs, d.K w z cs ∧ w.cells? base (x.add (i * d.sz)) d.sz = some cs) len (fun i hil => by
      obtain ⟨cs, h1, h2⟩ := hi i (by omega)
      rw [hC] at h1
      obtain ⟨z, h3, h4⟩ := hd _ _ _ h2
      exact ⟨z, h4, cs, h3, h1⟩)
    refine ⟨xs, hxl, hl, ⟨hxl, by unfold maxLen at hm; omega, fun _ => ⟨x, rfl, fun j p hp => ?_⟩⟩, fun z hz => ?_⟩
    · obtain ⟨_, cs, h1, h2⟩ := hx j p hp
      obtain ⟨_, hlen, hat⟩ := World.cells?_some h2
      refine ⟨cs, hlen, h1, fun i u hu => ?_⟩
      have hil : i < d.sz := by have := (List.getElem?_eq_some_iff.1 hu).1; omega
      rw [← Go.Deep.add_add, hat i hil, hu]
    · obtain ⟨j, hj⟩ := List.getElem?_of_mem hz
      exact (hx j z hj).1

theorem sized_row {t e : TypeId} {a : Option Addr} {len cap : Nat} {d : DataW H} {ps : List MemPlace} {ts : List TypeId} {ds : List (DataW H)} {j : Nat}
    (hsz : (DataW.weightsEach P ts ds).all (· ≤ reachBytes) = true) (ht : ts[j]? = some t) (hd : ds[j]? = some d) (hu : P.underlying t = some (.slice e)) {B : Nat} (hB : P.bytesOf e = B)
    (h : DataW.Trod enc P w base spare held t (.slice a len cap) d ps) : len * B ≤ 140737488351232 := by
  obtain ⟨fuel, hf⟩ := h
  rcases open_slice hu hf with ⟨hcs, _⟩ | ⟨x, l, c, m, n, D, Pl, hcs, _, hl, hm, hmm, hx, hi⟩
  · simp [Value.cells] at hcs
    obtain ⟨rfl, rfl, rfl⟩ := hcs
    simp
  · simp [Value.cells] at hcs
    obtain ⟨rfl, rfl, rfl⟩ := hcs
    obtain ⟨hx, _⟩ := Prod.mk.inj hx
    subst hx
    have z := sized_slice hsz ht hd hu
    rw [hB] at z
    simp only [List.length_map, List.length_range] at z
    have hle : len ≤ m := by subst hmm; split <;> omega
    rw [show len + (m - len) = m by omega] at z
    exact Nat.le_trans (Nat.mul_le_mul_right _ hle) z

theorem one_field {f : Field} {cs : List Value} {o c : Nat} (ho : f.offset = o) (hc : P.cellsOf f.type = c) {n : Nat} {y : Option (DataW H × List MemPlace)} (h : DataW.trod enc P w base spare held n f.type ((cs.drop f.offset).take (P.cellsOf f.type)) = y) : DataW.trod enc P w base spare held n f.type ((cs.drop o).take c) = y := by rw [← ho, ← hc]; exact h
end
theorem len5 {α : Type} : ∀ {l : List α}, l.length = 5 → ∃ x0 x1 x2 x3 x4, l = [x0, x1, x2, x3, x4]
  | [x0, x1, x2, x3, x4], _ => ⟨x0, x1, x2, x3, x4, rfl⟩
end Go.Proofs.YtiooiefjcbooeaaDoor.Opens

namespace Go.Proofs.YtiooiefjcbooeaaDoor.fnExactIsBridge
open Go.ChangeShapes Go.WideShapes Go.ChangeAt Go.RowKit
open Go.ChangeMaps (open_string shut_string)
open Go.Proofs.YtiooiefjcbooeaaDoor.A Go.Proofs.YtiooiefjcbooeaaDoorW.PrintWords Go.Proofs.YtiooiefjcbooeaaDoor.Opens
set_option linter.unusedVariables false
theorem own : ownKnob Tryd.prog.godebug = none := by kernel_rfl
theorem laidOut : laidOutB Tryd.prog = true := by kernel_rfl
theorem open_58 {H : Type} {enc : TypeId × Value → H} {w : World} {base : Nat} {spare : Nat → Bool} {held : Bool} {n : Nat} {cs : List Value} {y : DataW H × List MemPlace} (h : DataW.trod enc Tryd.prog w base spare held n 58 cs = some y) : ∃ (x0 : Int) (x1 : Int) (x2 : Int) (x3 : Int) (x4 : Int), cs = [.int .i64 x0, .int .i64 x1, .int .i64 x2, .int .i64 x3, .int .i64 x4] ∧ (Lit.int .i64 x0).wf = true ∧ (Lit.int .i64 x1).wf = true ∧ (Lit.int .i64 x2).wf = true ∧ (Lit.int .i64 x3).wf = true ∧ (Lit.int .i64 x4).wf = true := by
  obtain ⟨ys, n', _, _, hlen, hys, hf⟩ := DataW.trod_struct Tryd.underlying58 h
  replace hlen : cs.length = 5 := hlen.trans (by kernel_rfl)
  replace hys : ys.length = 5 := hys.trans (by kernel_rfl)
  clear h
  obtain ⟨c0, c1, c2, c3, c4, rfl⟩ := len5 hlen
  obtain ⟨y0, y1, y2, y3, y4, rfl⟩ := len5 hys
  have h0 : DataW.trod enc Tryd.prog w base spare held n' 3 [c0] = some y0 := one_field (c := 1) (o := 0) rfl (by kernel_rfl) (hf 0 _ rfl)
  obtain ⟨x0, e0, _, w0⟩ := DataW.trod_int Tryd.underlying3 h0
  obtain rfl : c0 = _ := (List.cons.inj e0).1
  have h1 : DataW.trod enc Tryd.prog w base spare held n' 3 [c1] = some y1 := one_field (c := 1) (o := 1) rfl (by kernel_rfl) (hf 1 _ rfl)
  obtain ⟨x1, e1, _, w1⟩ := DataW.trod_int Tryd.underlying3 h1
  obtain rfl : c1 = _ := (List.cons.inj e1).1
  have h2 : DataW.trod enc Tryd.prog w base spare held n' 3 [c2] = some y2 := one_field (c := 1) (o := 2) rfl (by kernel_rfl) (hf 2 _ rfl)
  obtain ⟨x2, e2, _, w2⟩ := DataW.trod_int Tryd.underlying3 h2
  obtain rfl : c2 = _ := (List.cons.inj e2).1
  have h3 : DataW.trod enc Tryd.prog w base spare held n' 3 [c3] = some y3 := one_field (c := 1) (o := 3) rfl (by kernel_rfl) (hf 3 _ rfl)
  obtain ⟨x3, e3, _, w3⟩ := DataW.trod_int Tryd.underlying3 h3
  obtain rfl : c3 = _ := (List.cons.inj e3).1
  have h4 : DataW.trod enc Tryd.prog w base spare held n' 3 [c4] = some y4 := one_field (c := 1) (o := 4) rfl (by kernel_rfl) (hf 4 _ rfl)
  obtain ⟨x4, e4, _, w4⟩ := DataW.trod_int Tryd.underlying3 h4
  obtain rfl : c4 = _ := (List.cons.inj e4).1
  exact ⟨x0, x1, x2, x3, x4, rfl, w0, w1, w2, w3, w4⟩
set_option maxRecDepth 100000 in
theorem lifted (os : Os) (started : os.Started) (H : Type) (enc : TypeId × Value → H) :
    ReturnsInHanded {} Tryd.checked os 4 .any (fun w args => (Rows.fnExactIsBridgeSpec.pre enc Tryd.prog Tryd.f4 [] false w args ∧ laidMetH Tryd.prog LaidT.list w) ∧ sizedMet enc Tryd.prog Tryd.f4 (OpenSpec.ofChange Rows.fnExactIsBridgeSpec) false w args) (Rows.fnExactIsBridgeSpec.post enc Tryd.prog Tryd.f4 false true false false) := by
  refine returnsInHanded_of_change_and (C := Tryd.checked) (X := fun w _ => laidMetH Tryd.prog LaidT.list w) (fun _ _ _ hh h => h.of_heap hh) own started (by kernel_rfl) Tryd.func4
    (ChangeSpec.witness_shaped (enc := enc) (C := Tryd.checked) (os := os) (X := fun w _ => laidMetH Tryd.prog LaidT.list w) false (World.doorLaid Tryd.prog 400 os) #[.slice none 0 0, .int .i64 0] 8 rfl (World.shaped_of_RefB (by kernel_rfl) (by kernel_rfl)) (by kernel_rfl) (by kernel_rfl) (by kernel_rfl) (LaidT.door_met os _)) ?_
  intro W base args ds gs before hval0 hW hcnd hsz0 hL _
  have hsz : (DataW.weightsEach Tryd.prog (Tryd.f4.params.toList ++ Rows.fnExactIsBridgeSpec.plain.varTypes Tryd.prog) (ds ++ gs)).all (· ≤ reachBytes) = true := hsz0
  have hval : ∀ (j : Nat) t v, Tryd.f4.params[j]? = some t → args[j]? = some v → Value.okWide Tryd.prog W .any base t v := hval0
  have hW' := hW
  obtain ⟨p, q, hA0, hV, rfl, hfz, hnd⟩ := hW
  have hA : DataW.TrodAll enc Tryd.prog W 0 (fun _ => true) true Tryd.f4.params.toList args.toList ds p := hA0
  rw [Tryd.params4] at hA hval hsz
  obtain ⟨v0, vs0, d0, ds0, p0, q0, hargs, rfl, rfl, h0, r0⟩ := trodAll_cons hA
  obtain ⟨v1, vs1, d1, ds1, p1, q1, rfl, rfl, rfl, h1, r1⟩ := trodAll_cons r0
  obtain ⟨rfl, rfl, rfl⟩ := trodAll_nil r1
  obtain rfl : args = #[v0, v1] := by cases args; simp_all
  have hV2 := hV
  obtain ⟨_, _, _, _, gd, _, rfl, _, _, _, _, _⟩ := trodVars_one hV
  have k0 := h0
  have lt0 : ∀ x ∈ p0, x.block < W.heap.size := by obtain ⟨m, hm⟩ := k0; exact DataW.trod_lt m _ _ _ hm
  obtain ⟨a0, len0, cap0, rfl⟩ := okWide_slice Tryd.underlying22 (hval 0 22 v0 rfl rfl)
  obtain ⟨l0, hl0, hc0, hr0, hw0⟩ := Opens.open_row k58 (Q := fun x => (Lit.int .i64 x.f0).wf = true ∧ (Lit.int .i64 x.f1).wf = true ∧ (Lit.int .i64 x.f2).wf = true ∧ (Lit.int .i64 x.f3).wf = true ∧ (Lit.int .i64 x.f4).wf = true) (e := 58) Tryd.underlying22 (by kernel_rfl) (fun _ _ _ h => by obtain ⟨x0, x1, x2, x3, x4, rfl, hw⟩ := open_58 h; exact ⟨⟨x0, x1, x2, x3, x4⟩, k58_mk _ _, hw⟩) h0
  have y0 : len0 * 40 ≤ 140737488351232 := Opens.sized_row hsz (j := 0) (t := 22) rfl rfl Tryd.underlying22 (by kernel_rfl) h0
  subst hl0
  obtain ⟨a1, rfl, rfl, rfl, w1⟩ := open_int Tryd.underlying3 (hval 1 3 v1 rfl rfl) h1
  clear hA0 hval0 hsz0 hsz
  obtain ⟨k, hk⟩ := Pure.FnExactIsBridge l0 a1 y0 hw0 w1
  refine (laws_FnExactIsBridge.calls k _ _ l0 a1 true W hr0 hc0 hk (LaidT.of_laid hL)).mono fun e W' ⟨he, hb⟩ => ?_
  have bel : Below W.heap.size W W' := hb
  subst he
  exact ⟨_, rfl, _, _, _, [], _, _, hW', trodAll_mk1 (shut_bool Tryd.underlying4 _), (trodAll_cons_mk (Below.trod laidOut (by kernel_rfl) (of_decide_eq_true (by kernel_rfl)) k0 bel lt0) (trodAll_cons_mk (shut_int Tryd.underlying3 w1) trodAll_mk0)), Below.trodVars laidOut bel (by kernel_rfl) hV2, bel.frame _, fun h => by cases h⟩
theorem over : Rows.fnExactIsBridgeRow.holds Tryd.pinned (OpenSpec.ofChange Rows.fnExactIsBridgeSpec) :=
  OpenClaim.holds_of_wide 4 Tryd.f4 rfl rfl rfl rfl rfl rfl rfl ⟨rfl, rfl, rfl, rfl, rfl⟩ rfl rfl rfl rfl rfl (by kernel_rfl) Tryd.func4 (by kernel_rfl)
    (of_decide_eq_true (by kernel_rfl)) (by unfold Func.isWrapper; first | (rw [if_pos (by decide +kernel)]; kernel_rfl) | (rw [if_neg (by decide +kernel)]; exact ⟨rfl, rfl⟩))
    (fun os started H enc _ => lifted os started H enc)
theorem proved : Rows.FnExactIsBridgeSaid := over
theorem card_holds : Rows.FnExactIsBridgeCardSaid :=
  Claim7.holds_tied_plain_at .later [] [.data] true (true, "f7459f8bb7d25b8a76c6a5470673fe8532312535b90f7e9f3582109fee47265b") false
    over (fun _ h => by cases h) (by kernel_rfl) (fun _ h => by cases h) fnExactIsBridge_row_tie rfl ⟨rfl, rfl⟩ (by kernel_rfl) rfl
    (fun f fn hf hfn => by
      obtain rfl : f = 4 := Option.some.inj ((show Tryd.prog.funcNamed "loop.example/g00933/laws.FnExactIsBridge" = some 4 by kernel_rfl).symm.trans hf) |>.symm
      obtain rfl : fn = Tryd.f4 := (Option.some.inj (Tryd.func4.symm.trans hfn)).symm
      exact ⟨by kernel_rfl, fun j t ht => by
        rw [Tryd.params4] at ht
        have hm : t ∈ [22, 3] := by simpa using Array.mem_of_getElem? ht
        have hall : ([22, 3].all fun u => !Tryd.prog.wantsStandIn u) = true := by kernel_rfl
        exact (show Tryd.prog.wantsStandIn t = false by simpa using List.all_eq_true.1 hall t hm)⟩)
    (by kernel_rfl)
#print axioms card_holds
end Go.Proofs.YtiooiefjcbooeaaDoor.fnExactIsBridge
namespace Go.Proofs.YtiooiefjcbooeaaDoor
/-- The row, under a short name, for the claim. -/
theorem fnExactIsBridge_holds : Rows.FnExactIsBridgeCardSaid := fnExactIsBridge.card_holds
end Go.Proofs.YtiooiefjcbooeaaDoor
