/- Slices of legs that a law copies and compares. No conditions. -/
import Derived.Test.YtiooiefjcbooeaaDoorKFnExactBridgesOf0
import Derived.Test.YtiooiefjcbooeaaDoorKFnExactBridgesOf1
import Derived.Test.YtiooiefjcbooeaaDoorKFnExactBridgesOf2
import Derived.Test.YtiooiefjcbooeaaDoorKFnExactBridgesOf3
import Derived.Test.YtiooiefjcbooeaaDoorKFnExactBridgesOfU2
/- The program's isBridge, walked; the reference's l8Bridge. -/
namespace Go.Proofs.YtiooiefjcbooeaaDoor.Net
open Go Go.RowKit Go.Proofs.YtiooiefjcbooeaaDoorW.PrintWords Go.Proofs.YtiooiefjcbooeaaDoorW.PrintLast Go.Proofs.YtiooiefjcbooeaaDoorW.PrintMore Go.Proofs.YtiooiefjcbooeaaDoor.A Go.Proofs.YtiooiefjcbooeaaDoor.Plain
open Go.Proofs.YtiooiefjcbooeaaDoor.Tree (verts legs W)
open Go.Proofs.YtiooiefjcbooeaaDoor.Grow (Q)
set_option linter.unusedVariables false
set_option linter.unusedSimpArgs false
theorem bridgeUse (k : Int) (i : Nat) (p : Addr) (w : World) (hp : w.cell? p = some (.int .i64 k)) :
    Calls Tryd.prog 94 #[.int .i64 (i : Int), .pointer (some p)] w fun e w' => e = .returned (.bool (useB k i)) ∧ w' = w := by
  have e : useB k i = ((i : Int) != k) := by
    unfold useB
    by_cases h : (i : Int) = k
    · rw [decide_eq_false (by omega), h]; simp
    · rw [decide_eq_true h]; simp [h]
  rw [e]
  go_enter Tryd.func94, Tryd.ntmps94
  go_wp2
  go_ret
  exact ⟨rfl, rfl⟩
set_option maxHeartbeats 2000000 in
set_option maxRecDepth 100000 in
theorem isBridgeW (A : Option Addr) (c : Nat) (ls : L) (k : Nat) (w : World) (hr0 : Kd.C k56 w A ls.length ls) (hc : ls.length ≤ c) (hn : ls.length ≤ 12) (hg : ∀ x ∈ ls, Good x) (hk : k < ls.length) :
    Calls Tryd.prog 59 #[.slice A ls.length c, .int .i64 (k : Int)] w fun e w' => e = .returned (.bool (bridgeB ls k)) ∧ Below w.heap.size w w' := by
  have hgk := leg_good hg k hk
  obtain ⟨w_1, e2, h0, h1, _⟩ := at_T56 hr0 (k : Int) (by omega) (by omega)
  cases e2
  rw [Int.toNat_natCast, show rd_T56 ls (k : Int) = leg ls k from rfl] at h0 h1
  obtain ⟨R, hR⟩ : ∃ R, R = Bfs.run (ends ls) (useB k) (leg ls k).f0 ls.length 9 0 [] := ⟨_, rfl⟩
  have hbr : bridgeB ls k = !decide ((leg ls k).f1 ∈ verts (leg ls k).f0 R) := by rw [hR]; rfl
  rw [hbr]
  have HRR := Aside0.mk hR.symm
  have HR := Aside0.mk hr0
  have HG := Aside0.mk hg
  have hl0 := hgk.1
  have hl1 := hgk.2.1
  have k1 : (k : Int) < (ls.length : Int) := by omega
  have k0 : (0 : Int) ≤ (k : Int) := by omega
  clear hr0 hg hgk hR hbr
  generalize leg ls (k : Int) = x at *
  go_enter Tryd.func59, Tryd.ntmps59
  go_wp2
  have HB := Aside0.mk (below_alloc (Below.refl w.heap.size w) (Obj.cells #[Value.int IntKind.i64 (k : Int)] 3))
  replace h0 := Sine.keepc h0 HB.out
  replace h1 := Sine.keepc h1 HB.out
  have hp0 : (w.alloc (Obj.cells #[Value.int IntKind.i64 (k : Int)] 3)).cell? ⟨w.heap.size, 0, none⟩ = some (.int .i64 (k : Int)) := by go_simp
  have HP0 := Aside0.mk hp0
  generalize w.alloc (Obj.cells #[Value.int IntKind.i64 (k : Int)] 3) = W1 at *
  by_cases hf : x.f1 ∈ verts x.f0 R
  · have hd := decide_eq_true hf
    go_region_held3 (fun w' => w'.cell? (w_1.add (k * 5)) = some (.int .i64 x.f0) ∧ w'.cell? { block := (w_1.add (k * 5)).block, off := (w_1.add (k * 5)).off + 1 } = some (.int .i64 x.f1) ∧ w'.cell? ⟨w.heap.size, 0, none⟩ = some (.int .i64 (k : Int)))
      (exact ⟨Sine.keepc (w := W1) h0 (by (repeat (first | exact Below.refl _ _ | apply pw_below_drewN | apply below_drew1 | exact HB.out | refine below_step ?_ (by assumption))); done), Sine.keepc (w := W1) h1 (by (repeat (first | exact Below.refl _ _ | apply pw_below_drewN | apply below_drew1 | exact HB.out | refine below_step ?_ (by assumption))); done), Sine.keepc (w := W1) HP0.out (by (repeat (first | exact Below.refl _ _ | apply pw_below_drewN | apply below_drew1 | exact HB.out | refine below_step ?_ (by assumption))); done)⟩)
      (first | (go_at_call 93; (with_reducible refine (pathBridge _ c ls ⟨w.heap.size, 0, none⟩ (useB k) x.f0 x.f1 _ ?s1 hc hn HG.out hl0 hl1 ?s2 R HRR.out).mono ?_); (case s1 => exact Kd.C_below HR.out (by (repeat (first | exact HB.out | exact Below.refl _ _ | apply below_alloc | apply pw_below_drewN | apply below_drew1)); done)); (case s2 => intro j W hj hb; exact bridgeUse (k : Int) j ⟨w.heap.size, 0, none⟩ W (Sine.keepc (w := W1) HP0.out (below_step (by (repeat (first | exact Below.refl _ _ | apply pw_below_drewN | apply below_drew1 | exact HB.out | refine below_step ?_ (by assumption))); done) hb))); rintro e w' hpost; unfold PathPost at hpost; rw [if_pos hf] at hpost; obtain ⟨v1, v2, rfl, _, _, hw1⟩ := hpost))
    replace HB := Aside0.mk (below_step (show Below w.heap.size w W1.drew from by (repeat (first | exact HB.out | exact Below.refl _ _ | apply below_alloc | apply pw_below_drewN | apply below_drew1)); done) hw1)
    go_wp2
    go_ret
    exact ⟨by rw [hd]; rfl, HB.out⟩
  · have hd := decide_eq_false hf
    go_region_held3 (fun w' => w'.cell? (w_1.add (k * 5)) = some (.int .i64 x.f0) ∧ w'.cell? { block := (w_1.add (k * 5)).block, off := (w_1.add (k * 5)).off + 1 } = some (.int .i64 x.f1) ∧ w'.cell? ⟨w.heap.size, 0, none⟩ = some (.int .i64 (k : Int)))
      (exact ⟨Sine.keepc (w := W1) h0 (by (repeat (first | exact Below.refl _ _ | apply pw_below_drewN | apply below_drew1 | exact HB.out | refine below_step ?_ (by assumption))); done), Sine.keepc (w := W1) h1 (by (repeat (first | exact Below.refl _ _ | apply pw_below_drewN | apply below_drew1 | exact HB.out | refine below_step ?_ (by assumption))); done), Sine.keepc (w := W1) HP0.out (by (repeat (first | exact Below.refl _ _ | apply pw_below_drewN | apply below_drew1 | exact HB.out | refine below_step ?_ (by assumption))); done)⟩)
      (first | (go_at_call 93; (with_reducible refine (pathBridge _ c ls ⟨w.heap.size, 0, none⟩ (useB k) x.f0 x.f1 _ ?s1 hc hn HG.out hl0 hl1 ?s2 R HRR.out).mono ?_); (case s1 => exact Kd.C_below HR.out (by (repeat (first | exact HB.out | exact Below.refl _ _ | apply below_alloc | apply pw_below_drewN | apply below_drew1)); done)); (case s2 => intro j W hj hb; exact bridgeUse (k : Int) j ⟨w.heap.size, 0, none⟩ W (Sine.keepc (w := W1) HP0.out (below_step (by (repeat (first | exact Below.refl _ _ | apply pw_below_drewN | apply below_drew1 | exact HB.out | refine below_step ?_ (by assumption))); done) hb))); rintro e w' hpost; unfold PathPost at hpost; rw [if_neg hf] at hpost; obtain ⟨rfl, hw1⟩ := hpost))
    replace HB := Aside0.mk (below_step (show Below w.heap.size w W1.drew from by (repeat (first | exact HB.out | exact Below.refl _ _ | apply below_alloc | apply pw_below_drewN | apply below_drew1)); done) hw1)
    go_wp2
    go_ret
    exact ⟨by rw [hd]; rfl, HB.out⟩
theorem l8Bridge_ev {ls : L} (hn : ls.length ≤ 12) (hg : ∀ x ∈ ls, Good x) (k : Nat) (hk : k < ls.length) (hp : (leg ls k).f0 ∈ plL (RR ls)) : Ev (fun m => spec_l8Bridge.f m ls (k : Int)) (bridgeB ls k) := by
  have hb := bridge_eq hg k hk ((mem_plL _ _).mp hp)
  have hl := less_len ls k hk
  have hlg := less_good hg k
  have hs := plL_small hlg
  have e : wrap64 ((k : Int) + 1) = ((k + 1 : Nat) : Int) := by rw [w64 (by omega) (by omega)]; omega
  unfold spec_l8Bridge.f
  refine Ev.bindc rfl (Ev.pos (by omega) (Ev.pos (by omega) (Ev.bindc rfl (Ev.pos (by simp; omega) (Ev.bindc rfl (Ev.pos (by rw [e]; omega) (Ev.pos (by rw [e]; omega) (Ev.bindc rfl (Ev.pos (by simp; omega) ?_)))))))))
  rw [e, Int.toNat_natCast, Int.toNat_natCast, List.nil_append]
  refine Ev.bind (place_ev (less ls k) (by omega) hlg (RR (less ls k)) rfl) (Ev.pos (by omega) ?_)
  refine Ev.bind (has_ev _ _ (by show (plL (RR (less ls k))).length ≤ _; omega)) ?_
  rw [← hb]
  by_cases c1 : (ends ls k).1 ∈ plL (RR (less ls k))
  · rw [if_neg (by rw [decide_eq_true c1]; decide)]
    exact Ev.pos (decide_eq_true c1) (Ev.bind (has_ev _ _ (by show (plL (RR (less ls k))).length ≤ _; omega)) (Ev.now _))
  · rw [if_pos (by rw [decide_eq_false c1]; rfl)]
    exact Ev.neg (by show ¬ decide ((ends ls k).1 ∈ plL (RR (less ls k))) = true; rw [decide_eq_false c1]; decide) (Ev.now _)
theorem l6Has_ev (ls : L) (s : Int) (hb : ls.length ≤ 140737488351232) : Ev (fun m => spec_l6Has.f m ls s) (legsB ls && decide (s ∈ plL (RR ls))) := by
  unfold spec_l6Has.f
  refine Ev.bind (l4Legs_ev ls hb) ?_
  cases h : legsB ls
  · exact Ev.neg (by decide) (Ev.now _)
  · have h' := legsB_iff.mp h
    have hs := plL_small h'.1
    exact Ev.pos rfl (Ev.bind (place_ev ls h'.2 h'.1 (RR ls) rfl) (Ev.bind (has_ev _ _ (by show (plL (RR ls)).length ≤ _; omega)) (Ev.now _)))
end Go.Proofs.YtiooiefjcbooeaaDoor.Net

/- The walk of network.stations: the placed stations in ascending order. -/
namespace Go.Proofs.YtiooiefjcbooeaaDoor.Net
open Go Go.RowKit Go.Proofs.YtiooiefjcbooeaaDoorW.PrintWords Go.Proofs.YtiooiefjcbooeaaDoorW.PrintLast Go.Proofs.YtiooiefjcbooeaaDoorW.PrintMore Go.Proofs.YtiooiefjcbooeaaDoor.A Go.Proofs.YtiooiefjcbooeaaDoor.Plain
open Go.Proofs.YtiooiefjcbooeaaDoor.Tree (verts legs W)
open Go.Proofs.YtiooiefjcbooeaaDoor.Grow (Q)
set_option linter.unusedVariables false
set_option linter.unusedSimpArgs false
def selTo (p : Nat → Bool) : Nat → List Int
  | 0 => []
  | k + 1 => if p k = true then selTo p k ++ [(k : Int)] else selTo p k
theorem selTo_len (p : Nat → Bool) : ∀ k, (selTo p k).length ≤ k
  | 0 => by simp [selTo]
  | k + 1 => by
    have := selTo_len p k
    unfold selTo
    split
    · rw [List.length_append, List.length_singleton]; omega
    · omega
theorem mem_selTo (p : Nat → Bool) : ∀ (n : Nat) (i : Int), i ∈ selTo p n ↔ ∃ k : Nat, i = k ∧ k < n ∧ p k = true
  | 0, i => by simp [selTo]
  | n + 1, i => by
    have ih := mem_selTo p n i
    unfold selTo
    split
    · rename_i c
      rw [List.mem_append, ih, List.mem_singleton]
      constructor
      · rintro (⟨k, h1, h2, h3⟩ | rfl)
        · exact ⟨k, h1, by omega, h3⟩
        · exact ⟨n, rfl, by omega, c⟩
      · rintro ⟨k, h1, h2, h3⟩
        by_cases e : k = n
        · exact Or.inr (by rw [h1, e])
        · exact Or.inl ⟨k, h1, by omega, h3⟩
    · rename_i c
      rw [ih]
      constructor
      · rintro ⟨k, h1, h2, h3⟩
        exact ⟨k, h1, by omega, h3⟩
      · rintro ⟨k, h1, h2, h3⟩
        by_cases e : k = n
        · exact absurd (e ▸ h3) c
        · exact ⟨k, h1, by omega, h3⟩
def SelPost (l : List Int) (w : World) (e : Ending) (w' : World) : Prop := ∃ v, e = .returned v ∧ Kd.R (Kd.int .i64) 3 w' w.heap.size (fun b => w.heap.size ≤ b) v l ∧ Below w.heap.size w w'
end Go.Proofs.YtiooiefjcbooeaaDoor.Net

/- The walk of network.placedLegs: the legs with placed ends in ascending order. -/
namespace Go.Proofs.YtiooiefjcbooeaaDoor.Net
open Go Go.RowKit Go.Proofs.YtiooiefjcbooeaaDoorW.PrintWords Go.Proofs.YtiooiefjcbooeaaDoorW.PrintLast Go.Proofs.YtiooiefjcbooeaaDoorW.PrintMore Go.Proofs.YtiooiefjcbooeaaDoor.A Go.Proofs.YtiooiefjcbooeaaDoor.Plain
open Go.Proofs.YtiooiefjcbooeaaDoor.Tree (verts legs W)
open Go.Proofs.YtiooiefjcbooeaaDoor.Grow (Q)
set_option linter.unusedVariables false
set_option linter.unusedSimpArgs false
/-- The legs whose first end is placed, in ascending order. -/
def plcL (ls : L) (R : Q) (n : Nat) : List Int := selTo (fun k => Pq R (leg ls k).f0.toNat) n
set_option maxHeartbeats 4000000 in
set_option maxRecDepth 100000 in
theorem placedLegsW {T g : Nat} {B : Nat → Bool} {cl : Value} {R : Q} {X : Nat → S34} (A : Option Addr) (c : Nat) (ls : L) (w : World) (hS : St ls.length T g (Pq R) X B cl w) (hgw : g < w.heap.size) (hTw : T < w.heap.size) (hr0 : Kd.C k56 w A ls.length ls) (hc : ls.length ≤ c) (hn : ls.length ≤ 12) (hg : ∀ x ∈ ls, Good x) :
    Calls Tryd.prog 71 #[.pointer (some ⟨g, 0, none⟩), .slice A ls.length c] w (SelPost (plcL ls R ls.length) w) := by
  have HB := Aside0.mk (Below.refl w.heap.size w)
  have HR := Aside0.mk hr0
  have HG := Aside0.mk hg
  have HS0 := Aside0.mk hS
  have HT : Aside0 (∀ k, (plcL ls R k).length ≤ k) := ⟨selTo_len _⟩
  clear hr0 hg hS
  go_enter Tryd.func71, Tryd.ntmps71
  go_wp2
  go_loopw [5, 10] (fun v5 v10 w' => ∃ (k : Nat), k ≤ ls.length ∧ v10 = .int .i64 k ∧ Aside0 (Kd.R (Kd.int .i64) 3 w' w.heap.size (fun b => w.heap.size ≤ b) v5 (plcL ls R k)) ∧ Aside0 (St ls.length T g (Pq R) X B cl w') ∧ Aside0 (Below w.heap.size w w')) (fun _ v10 _ => ls.length - (intOf v10).toNat)
  case atStart => exact ⟨0, by omega, rfl, ⟨Kd.R_nil _ _ _ _ _⟩, HS0, HB⟩
  case round =>
    obtain ⟨k, hk, rfl, HV, HS, HB2⟩ := hrel
    clear HB HS0
    have HB := HB2
    clear HB2
    obtain ⟨vA, vC, ev⟩ := Kd.R_slice HV.out
    subst ev
    have HTL := Aside0.mk (HT.out k)
    by_cases hlt : k < ls.length
    · obtain ⟨_, e2, h0, h1, h2, h3, h4⟩ := at_T56 HR.out (k : Int) (by omega) (by omega)
      cases e2
      have HX : Aside0 (Good (leg ls (k : Int))) := ⟨HG.out _ (leg_mem hlt)⟩
      have ek : rd_T56 ls (k : Int) = leg ls k := rfl
      rw [Int.toNat_natCast] at h0 h1 h2 h3 h4
      rw [ek] at h0 h1 h2 h3 h4
      have HC := Aside0.mk (show plcL ls R (k + 1) = if Pq R (leg ls k).f0.toNat = true then plcL ls R k ++ [(k : Int)] else plcL ls R k from rfl)
      generalize leg ls (k : Int) = x at *
      obtain ⟨a, ha⟩ := Int.eq_ofNat_of_zero_le HX.out.1.1
      have ha8 : (a : Int) < 8 := by have := HX.out.1.2; omega
      rw [ha] at h0
      rw [ha, Int.toNat_natCast] at HC
      replace h0 := Sine.keepc h0 HB.out
      replace h1 := Sine.keepc h1 HB.out
      replace h2 := Sine.keepc h2 HB.out
      replace h3 := Sine.keepc h3 HB.out
      replace h4 := Sine.keepc h4 HB.out
      go_wp2
      have B1 := below_alloc (Below.refl wr.heap.size wr) (Obj.cells #[Value.int IntKind.i64 ↑a, Value.int IntKind.i64 x.f1, Value.int IntKind.i64 x.f2, Value.int IntKind.i64 x.f3, Value.int IntKind.i64 x.f4] 56)
      replace HB := Aside0.mk (below_step HB.out B1)
      replace HS := Aside0.mk (HS.out.keep B1)
      replace HV := Aside0.mk (Kd.R_alloc HV.out (Obj.cells #[Value.int IntKind.i64 ↑a, Value.int IntKind.i64 x.f1, Value.int IntKind.i64 x.f2, Value.int IntKind.i64 x.f3, Value.int IntKind.i64 x.f4] 56))
      clear B1 h0 h1 h2 h3 h4
      have h0 : (wr.alloc (Obj.cells #[Value.int IntKind.i64 ↑a, Value.int IntKind.i64 x.f1, Value.int IntKind.i64 x.f2, Value.int IntKind.i64 x.f3, Value.int IntKind.i64 x.f4] 56)).cell? ⟨wr.heap.size, 0, none⟩ = some (.int .i64 (a : Int)) := by go_simp
      generalize wr.alloc (Obj.cells #[Value.int IntKind.i64 ↑a, Value.int IntKind.i64 x.f1, Value.int IntKind.i64 x.f2, Value.int IntKind.i64 x.f3, Value.int IntKind.i64 x.f4] 56) = W1 at *
      generalize wr.heap.size = X at *
      have pa := HS.out.pb a (by omega)
      have k0 : (0 : Int) ≤ (k : Int) := by omega
      have k1 : (k : Int) < (ls.length : Int) := by omega
      have hTs := HS.out.ge
      have hgs : g < W1.heap.size := World.block_lt_of_cell? _ _ HS.out.tc
      by_cases hpa : Pq R a = true
      · rw [hpa] at pa
        rw [if_pos hpa] at HC
        go_quiet (fail)
        go_wp2_with ((with_reducible refine gate_builtin (b := .append) (xs := #[.tmp 22, .tmp 24]) rfl ?_); at_builtin; refine Kd.R_append (Kd.int .i64) (w0 := w) w.heap.size rfl (.tmp 22) (.tmp 24) 38 3 (.int .i64 0) 8 rfl Tryd.underlying38 info3 rfl (by decide) (by omega) (.slice vA (plcL ls R k).length vC) (plcL ls R k) (k : Int) [.int .i64 (k : Int)] (fun b => w.heap.size ≤ b) (fun _ => False) rfl rfl ?aP (fun _ hk => hk.elim) ?aF ?aO ?aB ?aS ?aL ?_; (case aP => exact rfl); (case aF => intro b hb; have := below_size HB.out; simp only [World.heap_drewN] at hb; omega); (case aO => exact Kd.R_drewN HV.out _); (case aB => exact pw_below_drewN HB.out _); (case aS => simp only [World.heap_drewN]; exact below_size HB.out); (case aL => have := HTL.out; omega)
                     intro v_ w_ ho hb hg hat
                     have HP1 := Aside0.mk ho
                     have HP2 := Aside0.mk hb
                     have HS5 := Aside0.mk ((HS.out.keep (W := W1.drewN nq) (pw_below_drewN (Below.refl _ _) _)).blocks (W := w_) (hg.block _ (by simp only [World.heap_drewN]; omega) (fun e => by have := HV.out.1 _ e.symm; omega)) (hg.block _ (by simp only [World.heap_drewN]; omega) (fun e => by have := HV.out.1 _ e.symm; omega)) hg.size))
        exact ⟨⟨k + 1, by omega, by go_num, by rw [HC.out]; exact HP1, HS5, HP2⟩, by simp [intOf]; omega⟩
      · have hpa' : Pq R a = false := by simpa using hpa
        rw [hpa'] at pa
        rw [if_neg hpa] at HC
        go_quiet (fail)
        go_wp2
        exact ⟨⟨k + 1, by omega, by go_num, ⟨by rw [HC.out]; exact Kd.R_drewN HV.out _⟩, ⟨HS.out.keep (pw_below_drewN (Below.refl _ _) _)⟩, ⟨pw_below_drewN HB.out _⟩⟩, by simp [intOf]; omega⟩
    · obtain rfl : k = ls.length := by omega
      go_wp2
      exact bodyPost_ret (v := .slice vA (plcL ls R ls.length).length vC) (by simp [results, Tryd.results71, go_sem]) rfl ⟨_, rfl, HV.out, HB.out⟩
end Go.Proofs.YtiooiefjcbooeaaDoor.Net

/- All bridges: the reference's BridgesOf, in plain. -/
namespace Go.Proofs.YtiooiefjcbooeaaDoor.Net
open Go Go.RowKit Go.Proofs.YtiooiefjcbooeaaDoorW.PrintWords Go.Proofs.YtiooiefjcbooeaaDoorW.PrintLast Go.Proofs.YtiooiefjcbooeaaDoorW.PrintMore Go.Proofs.YtiooiefjcbooeaaDoor.A Go.Proofs.YtiooiefjcbooeaaDoor.Plain
open Go.Proofs.YtiooiefjcbooeaaDoor.Tree (verts legs W)
open Go.Proofs.YtiooiefjcbooeaaDoor.Grow (Q)
set_option linter.unusedVariables false
set_option linter.unusedSimpArgs false
/-- The bridges among some legs. -/
def brL (ls : L) (l : List Int) : List Int := l.filter (fun i => bridgeB ls i)
def bridgesL (ls : L) : List Int := brL ls (plcL ls (RR ls) ls.length)
theorem brL_sel (ls : L) (p : Nat → Bool) : ∀ n : Nat, brL ls (selTo p n) = selTo (fun k => p k && bridgeB ls k) n
  | 0 => rfl
  | n + 1 => by
    have ih := brL_sel ls p n
    unfold brL at ih ⊢
    unfold selTo
    cases h : p n
    · rw [if_neg (by decide), if_neg (by simp), ih]
    · rw [if_pos rfl, List.filter_append, ih]
      cases q : bridgeB ls (n : Int)
      · rw [if_neg (by simp), List.filter_cons_of_neg (by simp [q]), List.filter_nil, List.append_nil]
      · rw [if_pos (by simp), List.filter_cons_of_pos (by simp [q]), List.filter_nil]
theorem bridges_loop (ls : L) (hn : ls.length ≤ 12) (hg : ∀ x ∈ ls, Good x) (p : Nat → Bool) (hp : ∀ k : Nat, k < ls.length → p k = (decide ((leg ls k).f0 ∈ plL (RR ls)) && bridgeB ls k)) : ∀ (d j : Nat), j + d = ls.length →
    Ev (fun k => spec_BridgesOf.l0 k ls (selTo p j) (j : Int)) (selTo p ls.length, true) := by
  have hv : legsB ls = true := legsB_iff.mpr ⟨hg, hn⟩
  intro d
  induction d with
  | zero =>
    intro j hj
    obtain rfl : j = ls.length := by omega
    refine Ev.step (f := fun _ => some (selTo p ls.length, true)) (fun k => ?_) (Ev.now _)
    simp only [spec_BridgesOf.l0]
    rw [if_neg (by omega)]
  | succ d ih =>
    intro j hj
    have hlt : j < ls.length := by omega
    have h := ih (j + 1) (by omega)
    have hs : selTo p (j + 1) = if p j = true then selTo p j ++ [(j : Int)] else selTo p j := rfl
    have hl := selTo_len p j
    rw [hs, hp j hlt] at h
    have h6 := l6Has_ev ls (leg ls j).f0 (by omega)
    rw [hv, Bool.true_and] at h6
    refine Ev.step (f := fun k => (spec_l6Has.f k ls (leg ls j).f0).bind fun t629 => (if t629 = true then ((spec_l8Bridge.f k ls (j : Int)).bind fun t630 => (if t630 = true then (if (selTo p j).length < 17592186044416 then (spec_BridgesOf.l0 k ls (selTo p j ++ [(j : Int)]) ((j + 1 : Nat) : Int)) else (none)) else (spec_BridgesOf.l0 k ls (selTo p j) ((j + 1 : Nat) : Int)))) else (spec_BridgesOf.l0 k ls (selTo p j) ((j + 1 : Nat) : Int)))) (fun k => ?_) ?_
    · simp only [spec_BridgesOf.l0]
      rw [if_pos (by omega), if_pos (by omega), w64 (by omega) (by omega)]
      rfl
    · refine Ev.bind h6 ?_
      by_cases c : (leg ls j).f0 ∈ plL (RR ls)
      · rw [decide_eq_true c, Bool.true_and] at h
        refine Ev.pos (decide_eq_true c) (Ev.bind (l8Bridge_ev hn hg j hlt c) ?_)
        by_cases q : bridgeB ls j = true
        · rw [if_pos q] at h
          exact Ev.pos q (Ev.pos (by omega) h)
        · rw [if_neg q] at h
          exact Ev.neg q h
      · rw [decide_eq_false c, Bool.false_and, if_neg (by decide)] at h
        exact Ev.neg (by rw [decide_eq_false c]; decide) h
theorem specBridges_ev (ls : L) (hb : ls.length ≤ 140737488351232) : Ev (fun k => spec_BridgesOf.f k ls) (if legsB ls = true then (bridgesL ls, true) else ([], false)) := by
  unfold spec_BridgesOf.f
  refine Ev.bindc rfl (Ev.bind (l4Legs_ev ls hb) ?_)
  by_cases h : legsB ls = true
  · have h' := legsB_iff.mp h
    rw [if_pos h]
    refine Ev.pos h ?_
    unfold bridgesL plcL
    rw [brL_sel]
    refine bridges_loop ls h'.2 h'.1 _ (fun k hk => ?_) ls.length 0 (by omega)
    have hgk := leg_good h'.1 k hk
    rw [Pq_eq, Int.toNat_of_nonneg hgk.1.1]
  · rw [if_neg h]
    exact Ev.neg h (Ev.now _)
end Go.Proofs.YtiooiefjcbooeaaDoor.Net

/- The program's BridgesOf, in the form of the printed functions, over the laid table of sines. -/
namespace Go.Proofs.YtiooiefjcbooeaaDoor.A
open Go.RowKit Go.Proofs.YtiooiefjcbooeaaDoorW.PrintWords Go.Proofs.YtiooiefjcbooeaaDoorW.PrintLast Go.Proofs.YtiooiefjcbooeaaDoorW.PrintMore
open Go.Proofs.YtiooiefjcbooeaaDoor.Net
set_option linter.unusedVariables false
set_option linter.unusedSimpArgs false
def impl_BridgesOf.f (l0 : List (S56)) : Option (List Int × Bool) := if l0.length ≤ 140737488351232 then some (if legsB l0 = true then (bridgesL l0, true) else ([], false)) else none
set_option maxHeartbeats 2000000 in
set_option maxRecDepth 100000 in
theorem impl_BridgesOf.calls (A0 : Option Addr) (c : Nat) (ls : List (S56)) (r1 : List Int) (r2 : Bool) (w : World) (hr0 : Kd.C k56 w A0 ls.length ls) (hc : ls.length ≤ c) (h : impl_BridgesOf.f ls = some (r1, r2)) (hL : Sine.Laid w) :
    Calls Tryd.prog 36 #[.slice A0 ls.length c] w fun e w' => ∃ v0_ : Value, e = .returned (.tuple #[v0_, .bool r2]) ∧ Kd.R (Kd.int .i64) 3 w' w.heap.size (fun _ => True) v0_ r1 ∧ Below w.heap.size w w' := by
  unfold impl_BridgesOf.f at h
  by_cases hb : ls.length ≤ 140737488351232
  · rw [if_pos hb] at h
    obtain ⟨K, hK⟩ := areLegs_ev ls hb
    have HA := Aside0.mk (hK K (Nat.le_refl _))
    have HR := Aside0.mk hr0
    have HL := Aside0.mk hL
    have HB := Aside0.mk (Below.refl w.heap.size w)
    clear hK hr0 hL
    cases hv : legsB ls
    · rw [if_neg (by rw [hv]; simp)] at h
      simp only [Option.some.injEq, Prod.mk.injEq] at h
      obtain ⟨rfl, rfl⟩ := h
      rw [hv] at HA
      clear hv
      go_enter Tryd.func36, Tryd.ntmps36
      go_wp2_with (go_at_call 52; (with_reducible refine (impl_areLegs.calls K _ _ ls false _ ?s1 ?s2 HA.out).mono ?_); (case s1 => exact Kd.C_below HR.out (by (repeat (first | exact HB.out | exact Below.refl _ _ | apply below_alloc | apply pw_below_drewN | apply below_drew1)); done)); (case s2 => exact hc); rintro e w' ⟨rfl, hw⟩; replace HB := Aside0.mk (below_step (show Below w.heap.size w _ from by (repeat (first | exact HB.out | exact Below.refl _ _ | apply below_alloc | apply pw_below_drewN | apply below_drew1)); done) hw); clear hw)
      exact bodyPost_ret (v := .tuple #[.slice none 0 0, .bool false]) (by simp [results, Tryd.results36, go_sem]) rfl ⟨_, rfl, Kd.R_nil _ _ _ _ _, by repeat (first | exact HB.out | apply below_drew1)⟩
    · rw [hv] at HA
      rw [if_pos hv] at h
      simp only [Option.some.injEq, Prod.mk.injEq] at h
      obtain ⟨rfl, rfl⟩ := h
      have hv' := legsB_iff.mp hv
      have HG := Aside0.mk hv'.1
      have hn := hv'.2
      obtain ⟨pl, hpl⟩ : ∃ pl, pl = plcL ls (RR ls) ls.length := ⟨_, rfl⟩
      have HPL := Aside0.mk (show pl.length ≤ 12 from by rw [hpl]; exact Nat.le_trans (selTo_len _ _) hn)
      have HMem : Aside0 (∀ j : Nat, (hj : j < pl.length) → ∃ k : Nat, pl[j] = (k : Int) ∧ k < ls.length) := ⟨fun j hj => by
        have hm : pl[j] ∈ plcL ls (RR ls) ls.length := by rw [← hpl]; exact List.getElem_mem hj
        obtain ⟨k, h1, h2, _⟩ := (mem_selTo _ _ _).mp hm
        exact ⟨k, h1, h2⟩⟩
      have HRS := Aside0.mk (show bridgesL ls = brL ls (pl.take pl.length) from by rw [List.take_length, hpl]; rfl)
      have HPE := Aside0.mk hpl
      clear hv hv' hpl
      go_enter Tryd.func36, Tryd.ntmps36
      go_wp2_with (first
        | (go_at_call 52; (with_reducible refine (impl_areLegs.calls K _ _ ls true _ ?s1 ?s2 HA.out).mono ?_); (case s1 => exact Kd.C_below HR.out (by (repeat (first | exact HB.out | exact Below.refl _ _ | apply below_alloc | apply pw_below_drewN | apply below_drew1)); done)); (case s2 => exact hc); rintro e w' ⟨rfl, hw⟩; replace HB := Aside0.mk (below_step (show Below w.heap.size w _ from by (repeat (first | exact HB.out | exact Below.refl _ _ | apply below_alloc | apply pw_below_drewN | apply below_drew1)); done) hw); clear hw)
        | ((go_at_call 53; (with_reducible refine (place _ c ls _ ?s1 ?s2 hc hn HG.out (RR ls) rfl).mono ?_); (case s1 => exact HL.out.keep (by (repeat (first | exact HB.out | exact Below.refl _ _ | apply below_alloc | apply pw_below_drewN | apply below_drew1)); done)); (case s2 => exact Kd.C_below HR.out (by (repeat (first | exact HB.out | exact Below.refl _ _ | apply below_alloc | apply pw_below_drewN | apply below_drew1)); done)); rintro e w' ⟨g, T, cl, rfl, hst, ho, hw⟩; have HO : Aside0 (Kd.R (Kd.int .i64) 3 w' w.heap.size (fun k => k ≠ g ∧ k ≠ T) cl (closeL ls)) := ⟨Kd.R_lower ho (below_size (show Below w.heap.size w _ from by (repeat (first | exact HB.out | exact Below.refl _ _ | apply below_alloc | apply pw_below_drewN | apply below_drew1)); done))⟩; replace HB := Aside0.mk (below_step (show Below w.heap.size w _ from by (repeat (first | exact HB.out | exact Below.refl _ _ | apply below_alloc | apply pw_below_drewN | apply below_drew1)); done) hw); have HS := Aside0.mk hst; clear hst ho hw; obtain ⟨cA, cC, ecl⟩ := Kd.R_slice HO.out; subst ecl))
        | (go_at_call 71; have hq := placedLegsW A0 c ls _ HS.out (World.block_lt_of_cell? _ _ HS.out.tc) HS.out.ge (Kd.C_below HR.out (show Below w.heap.size w _ from by (repeat (first | exact HB.out | exact Below.refl _ _ | apply below_alloc | apply pw_below_drewN | apply below_drew1)); done)) hc hn HG.out; (with_reducible refine hq.mono ?_); clear hq; rintro e w3 ⟨v, rfl, hv3, hw⟩; have hsz := below_size HB.out; rw [← HPE.out] at hv3; have HP := Aside0.mk (Kd.R_mono (Kd.R_lower hv3 hsz) (ok' := fun _ => True) (fun _ _ => trivial)); replace HB := Aside0.mk (below_step HB.out hw); clear hv3 hw HO HS; obtain ⟨pA, pC, ep⟩ := Kd.R_slice HP.out; subst ep))
      have hown : ∀ k, Value.ownBlock (Value.slice none 0 0) = some k → False := by intro k hk; simp [Value.ownBlock] at hk
      go_loopw [4, 15] (fun v4 v15 w' => ∃ (j : Nat), j ≤ pl.length ∧ v15 = .int .i64 j ∧ Aside0 (Kd.R (Kd.int .i64) 3 w' w.heap.size (fun k => some k ≠ (Value.slice pA pl.length pC).ownBlock) v4 (brL ls (pl.take j))) ∧ Aside0 (Kd.R (Kd.int .i64) 3 w' w.heap.size (fun k => True ∧ some k ≠ v4.ownBlock) (.slice pA pl.length pC) pl) ∧ Aside0 (Below w.heap.size w w')) (fun _ v15 _ => pl.length - (intOf v15).toNat)
      case atStart => exact ⟨0, Nat.zero_le _, rfl, ⟨by rw [List.take_zero]; exact Kd.R_nil _ _ _ _ _⟩, ⟨Kd.R_mono HP.out (fun k hk => ⟨trivial, fun e => hown k e.symm⟩)⟩, HB⟩
      case round =>
        obtain ⟨j, hj, rfl, HV, HC, HB2⟩ := hrel
        clear HP HB hown
        have HO := HC
        have HB := HB2
        clear HC HB2
        obtain ⟨vA, vC, ev⟩ := Kd.R_slice HV.out
        subst ev
        by_cases hlt : j < pl.length
        · obtain ⟨ad, e1, h1⟩ := Kd.at_int (Kd.R_reads' HO.out).2.2 (j : Int) (by omega) (by omega)
          subst e1
          rw [rd_at _ j hlt, Int.toNat_natCast] at h1
          obtain ⟨k, hk1, hk2⟩ := HMem.out j hlt
          have HE : Aside0 (brL ls (pl.take (j + 1)) = if bridgeB ls pl[j] = true then brL ls (pl.take j) ++ [pl[j]] else brL ls (pl.take j)) := ⟨by
            rw [List.take_succ_eq_append_getElem hlt]
            unfold brL
            rw [List.filter_append]
            split
            · rename_i h; rw [List.filter_cons_of_pos (by simpa using h), List.filter_nil]
            · rename_i h; rw [List.filter_cons_of_neg (by simpa using h), List.filter_nil, List.append_nil]⟩
          have HTL : Aside0 ((brL ls (pl.take j)).length ≤ 12) := ⟨by
            unfold brL
            exact Nat.le_trans (List.length_filter_le _ _) (by rw [List.length_take]; have := HPL.out; omega)⟩
          rw [hk1] at HE h1
          clear hk1
          have hpl := HPL.out
          obtain ⟨bb, hbb⟩ : ∃ bb, bb = bridgeB ls k := ⟨_, rfl⟩
          rw [← hbb] at HE
          have HBB := Aside0.mk hbb
          clear hbb
          cases bb
          · rw [if_neg (by decide)] at HE
            go_wp2_with (go_at_call 59; have hq := isBridgeW _ c ls k _ (Kd.C_below HR.out (show Below w.heap.size w _ from by (repeat (first | exact HB.out | exact Below.refl _ _ | apply below_alloc | apply pw_below_drewN | apply below_drew1)); done)) hc hn HG.out hk2; (with_reducible refine hq.mono ?_); clear hq; rw [← HBB.out]; rintro e w' ⟨rfl, hw⟩; replace HV := Aside0.mk (Kd.R_below HV.out hw); replace HO := Aside0.mk (Kd.R_below HO.out hw); replace HB := Aside0.mk (below_step HB.out hw); clear hw)
            exact ⟨⟨j + 1, hlt, by go_num, by rw [HE.out]; exact HV, HO, HB⟩, by simp [intOf]; omega⟩
          · rw [if_pos rfl] at HE
            go_wp2_with (first
              | (go_at_call 59; have hq := isBridgeW _ c ls k _ (Kd.C_below HR.out (show Below w.heap.size w _ from by (repeat (first | exact HB.out | exact Below.refl _ _ | apply below_alloc | apply pw_below_drewN | apply below_drew1)); done)) hc hn HG.out hk2; (with_reducible refine hq.mono ?_); clear hq; rw [← HBB.out]; rintro e w' ⟨rfl, hw⟩; replace HV := Aside0.mk (Kd.R_below HV.out hw); replace HO := Aside0.mk (Kd.R_below HO.out hw); replace HB := Aside0.mk (below_step HB.out hw); clear hw)
              | ((with_reducible refine gate_builtin (b := .append) (xs := #[.tmp 22, .tmp 24]) rfl ?_); at_builtin; refine Kd.R_append (Kd.int .i64) (w0 := w) w.heap.size rfl (.tmp 22) (.tmp 24) 38 3 (.int .i64 0) 8 rfl Tryd.underlying38 info3 rfl (by decide) (by omega) (.slice vA (brL ls (pl.take j)).length vC) (brL ls (pl.take j)) (k : Int) [.int .i64 (k : Int)] (fun k => some k ≠ (Value.slice (some ad) pl.length pC).ownBlock) (fun _ => False) rfl rfl ?aP (fun _ hk => hk.elim) ?aF ?aO ?aB ?aS ?aL ?_; (case aP => exact rfl); (case aF => intro b hb; exact Kd.fresh' (Kd.R_lt HO.out) b hb); (case aO => exact HV.out); (case aB => exact HB.out); (case aS => exact below_size HB.out); (case aL => have := HTL.out; omega)
                 intro v7_ w7_ ho hb hg hat
                 have HP1 := Aside0.mk (Kd.R_after (ok := fun _ => True) HO.out hg hat)
                 have HP2 := Aside0.mk ho
                 have HP3 := Aside0.mk hb))
            exact ⟨⟨j + 1, hlt, by go_num, by rw [HE.out]; exact HP2, HP1, HP3⟩, by simp [intOf]; omega⟩
        · go_wp2
          obtain rfl : j = pl.length := by omega
          exact bodyPost_ret (v := .tuple #[.slice vA (brL ls (pl.take pl.length)).length vC, .bool true]) (by simp [results, Tryd.results36, go_sem]) rfl ⟨_, rfl, by rw [HRS.out]; exact Kd.R_mono HV.out (fun _ _ => trivial), HB.out⟩
  · rw [if_neg hb] at h
    cases h
end Go.Proofs.YtiooiefjcbooeaaDoor.A

/- One Lean function and its proof for each Go function, written by a program out of the translation. No conditions. -/
namespace Go.Proofs.YtiooiefjcbooeaaDoor.A
open Go.Proofs.YtiooiefjcbooeaaDoor Go.RowKit Go.Proofs.YtiooiefjcbooeaaDoorW.PrintWords Go.Proofs.YtiooiefjcbooeaaDoorW.PrintLast Go.Proofs.YtiooiefjcbooeaaDoorW.PrintMore
attribute [local go_sem] max2_int min2_int max_two min_two max_three min_three max_four min_four   -- for this text's walks alone
set_option linter.unusedVariables false
set_option linter.unusedSimpArgs false

/-! ### laws_FnExactBridgesOf: function 9 -/
mutual
def laws_FnExactBridgesOf.j0 : Nat → List (S58) → List Int → Bool → List (S56) → List Int → Bool → Bool → Option (Bool)
  | 0, _, _, _, _, _, _, _ => none
  | k + 1, x0, x4, x5, x6, x7, x8, x40 => if x40 = true then (some false) else ((laws_toLegS.f k x0).bind fun t652 => ((laws_eqLegS.f k x6 t652).bind fun t655 => (if t655 = true then ((laws_markLegS.f k x6 1).bind fun bt656 => (if bt656.1 < 0 then (laws_FnExactBridgesOf.j1 k x0 x4 x5 x7 true) else ((laws_eqIntS.f k x7 x4).bind fun t658 => (if t658 = true then (laws_FnExactBridgesOf.j1 k x0 x4 x5 x7 (x8 != x5)) else (laws_FnExactBridgesOf.j1 k x0 x4 x5 x7 true))))) else (some false))))
def laws_FnExactBridgesOf.j1 : Nat → List (S58) → List Int → Bool → List Int → Bool → Option (Bool)
  | 0, _, _, _, _, _ => none
  | k + 1, x0, x4, x5, x7, x61 => if x61 = true then (some false) else ((laws_markIntS.f k x7 1).bind fun bt659 => ((laws_heldIntS.f k bt659.2 1).bind fun t661 => (if t661 < 0 then (some false) else (if t661 = bt659.1 then ((laws_toLegS.f k x0).bind fun t662 => ((impl_BridgesOf.f t662).bind fun bt665 => ((laws_eqIntS.f k bt665.1 x4).bind fun t669 => (if t669 = true then (laws_FnExactBridgesOf.j2 k bt659.2 bt659.1 (bt665.2 != x5)) else (laws_FnExactBridgesOf.j2 k bt659.2 bt659.1 true))))) else (some false)))))
def laws_FnExactBridgesOf.j2 : Nat → List Int → Int → Bool → Option (Bool)
  | 0, _, _, _ => none
  | k + 1, x7, x10, x87 => if x87 = true then (some false) else ((laws_heldIntS.f k x7 1).bind fun t670 => (if t670 < 0 then (some false) else (if t670 = x10 then (some true) else (some false))))
end
def laws_FnExactBridgesOf.f (k : Nat) (l0 : List (S58)) : Option (Bool) := (laws_szLegS.f l0 1048576).bind fun t636 => (if t636 < 0 then (some true) else ((laws_toLegS.f k l0).bind fun t637 => ((spec_BridgesOf.f k t637).bind fun bt640 => ((laws_toLegS.f k l0).bind fun t644 => ((impl_BridgesOf.f t644).bind fun bt647 => ((laws_eqIntS.f k bt647.1 bt640.1).bind fun t651 => (if t651 = true then (laws_FnExactBridgesOf.j0 k l0 bt640.1 bt640.2 t644 bt647.1 bt647.2 (bt647.2 != bt640.2)) else (laws_FnExactBridgesOf.j0 k l0 bt640.1 bt640.2 t644 bt647.1 bt647.2 true))))))))
theorem laws_FnExactBridgesOf.mono_l : ∀ k, (∀ y0 y1 y2 y3 y4 y5 y6, LeO (laws_FnExactBridgesOf.j0 k y0 y1 y2 y3 y4 y5 y6) (laws_FnExactBridgesOf.j0 (k + 1) y0 y1 y2 y3 y4 y5 y6)) ∧ (∀ y0 y1 y2 y3 y4, LeO (laws_FnExactBridgesOf.j1 k y0 y1 y2 y3 y4) (laws_FnExactBridgesOf.j1 (k + 1) y0 y1 y2 y3 y4)) ∧ (∀ y0 y1 y2, LeO (laws_FnExactBridgesOf.j2 k y0 y1 y2) (laws_FnExactBridgesOf.j2 (k + 1) y0 y1 y2))
  | 0 => ⟨fun _ _ _ _ _ _ _ r h => by simp [laws_FnExactBridgesOf.j0] at h, fun _ _ _ _ _ r h => by simp [laws_FnExactBridgesOf.j1] at h, fun _ _ _ r h => by simp [laws_FnExactBridgesOf.j2] at h⟩
  | k + 1 => by
    obtain ⟨ih0, ih1, ih2⟩ := laws_FnExactBridgesOf.mono_l k
    refine ⟨?_, ?_, ?_⟩
    · intro y0 y1 y2 y3 y4 y5 y6
      unfold laws_FnExactBridgesOf.j0
      repeat' first
      | (with_reducible exact ih0 _ _ _ _ _ _ _)
      | (with_reducible exact ih1 _ _ _ _ _)
      | (with_reducible exact ih2 _ _ _)
      | (with_reducible exact laws_eqIntS.mono _ _ _)
      | (with_reducible exact laws_eqLegS.mono _ _ _)
      | (with_reducible exact laws_heldIntS.mono _ _ _)
      | (with_reducible exact laws_markIntS.mono _ _ _)
      | (with_reducible exact laws_markLegS.mono _ _ _)
      | (with_reducible exact laws_toLegS.mono _ _)
      | (with_reducible exact spec_BridgesOf.mono _ _)
      | (with_reducible exact LeO.refl _)
      | (with_reducible exact LeO.none _)
      | (with_reducible refine LeO.ite ?_ ?_)
      | (with_reducible refine LeO.bind ?_ (fun _ => ?_))
      | exact ih0 _ _ _ _ _ _ _
      | exact ih1 _ _ _ _ _
      | exact ih2 _ _ _
      | exact laws_eqIntS.mono _ _ _
      | exact laws_eqLegS.mono _ _ _
      | exact laws_heldIntS.mono _ _ _
      | exact laws_markIntS.mono _ _ _
      | exact laws_markLegS.mono _ _ _
      | exact laws_toLegS.mono _ _
      | exact spec_BridgesOf.mono _ _
      | exact LeO.none _
      | refine LeO.ite ?_ ?_
      | refine LeO.bind ?_ (fun _ => ?_)
    · intro y0 y1 y2 y3 y4
      unfold laws_FnExactBridgesOf.j1
      repeat' first
      | (with_reducible exact ih0 _ _ _ _ _ _ _)
      | (with_reducible exact ih1 _ _ _ _ _)
      | (with_reducible exact ih2 _ _ _)
      | (with_reducible exact laws_eqIntS.mono _ _ _)
      | (with_reducible exact laws_eqLegS.mono _ _ _)
      | (with_reducible exact laws_heldIntS.mono _ _ _)
      | (with_reducible exact laws_markIntS.mono _ _ _)
      | (with_reducible exact laws_markLegS.mono _ _ _)
      | (with_reducible exact laws_toLegS.mono _ _)
      | (with_reducible exact spec_BridgesOf.mono _ _)
      | (with_reducible exact LeO.refl _)
      | (with_reducible exact LeO.none _)
      | (with_reducible refine LeO.ite ?_ ?_)
      | (with_reducible refine LeO.bind ?_ (fun _ => ?_))
      | exact ih0 _ _ _ _ _ _ _
      | exact ih1 _ _ _ _ _
      | exact ih2 _ _ _
      | exact laws_eqIntS.mono _ _ _
      | exact laws_eqLegS.mono _ _ _
      | exact laws_heldIntS.mono _ _ _
      | exact laws_markIntS.mono _ _ _
      | exact laws_markLegS.mono _ _ _
      | exact laws_toLegS.mono _ _
      | exact spec_BridgesOf.mono _ _
      | exact LeO.none _
      | refine LeO.ite ?_ ?_
      | refine LeO.bind ?_ (fun _ => ?_)
    · intro y0 y1 y2
      unfold laws_FnExactBridgesOf.j2
      repeat' first
      | (with_reducible exact ih0 _ _ _ _ _ _ _)
      | (with_reducible exact ih1 _ _ _ _ _)
      | (with_reducible exact ih2 _ _ _)
      | (with_reducible exact laws_eqIntS.mono _ _ _)
      | (with_reducible exact laws_eqLegS.mono _ _ _)
      | (with_reducible exact laws_heldIntS.mono _ _ _)
      | (with_reducible exact laws_markIntS.mono _ _ _)
      | (with_reducible exact laws_markLegS.mono _ _ _)
      | (with_reducible exact laws_toLegS.mono _ _)
      | (with_reducible exact spec_BridgesOf.mono _ _)
      | (with_reducible exact LeO.refl _)
      | (with_reducible exact LeO.none _)
      | (with_reducible refine LeO.ite ?_ ?_)
      | (with_reducible refine LeO.bind ?_ (fun _ => ?_))
      | exact ih0 _ _ _ _ _ _ _
      | exact ih1 _ _ _ _ _
      | exact ih2 _ _ _
      | exact laws_eqIntS.mono _ _ _
      | exact laws_eqLegS.mono _ _ _
      | exact laws_heldIntS.mono _ _ _
      | exact laws_markIntS.mono _ _ _
      | exact laws_markLegS.mono _ _ _
      | exact laws_toLegS.mono _ _
      | exact spec_BridgesOf.mono _ _
      | exact LeO.none _
      | refine LeO.ite ?_ ?_
      | refine LeO.bind ?_ (fun _ => ?_)
theorem laws_FnExactBridgesOf.mono : ∀ a0 k, LeO (laws_FnExactBridgesOf.f k a0) (laws_FnExactBridgesOf.f (k + 1) a0) := by
  intro a0 k
  obtain ⟨ih0, ih1, ih2⟩ := laws_FnExactBridgesOf.mono_l k
  unfold laws_FnExactBridgesOf.f
  repeat' first
      | (with_reducible exact ih0 _ _ _ _ _ _ _)
      | (with_reducible exact ih1 _ _ _ _ _)
      | (with_reducible exact ih2 _ _ _)
      | (with_reducible exact laws_eqIntS.mono _ _ _)
      | (with_reducible exact laws_eqLegS.mono _ _ _)
      | (with_reducible exact laws_heldIntS.mono _ _ _)
      | (with_reducible exact laws_markIntS.mono _ _ _)
      | (with_reducible exact laws_markLegS.mono _ _ _)
      | (with_reducible exact laws_toLegS.mono _ _)
      | (with_reducible exact spec_BridgesOf.mono _ _)
      | (with_reducible exact LeO.refl _)
      | (with_reducible exact LeO.none _)
      | (with_reducible refine LeO.ite ?_ ?_)
      | (with_reducible refine LeO.bind ?_ (fun _ => ?_))
      | exact ih0 _ _ _ _ _ _ _
      | exact ih1 _ _ _ _ _
      | exact ih2 _ _ _
      | exact laws_eqIntS.mono _ _ _
      | exact laws_eqLegS.mono _ _ _
      | exact laws_heldIntS.mono _ _ _
      | exact laws_markIntS.mono _ _ _
      | exact laws_markLegS.mono _ _ _
      | exact laws_toLegS.mono _ _
      | exact spec_BridgesOf.mono _ _
      | exact LeO.none _
      | refine LeO.ite ?_ ?_
      | refine LeO.bind ?_ (fun _ => ?_)
set_option maxHeartbeats 8000000 in
set_option maxRecDepth 100000 in
theorem laws_FnExactBridgesOf.calls (k : Nat) (A0 : Option Addr) (c0 : Nat) (l0 : List (S58)) (r : Bool) (w : World) (hr0 : Kd.C k58 w A0 l0.length l0) (hc0 : l0.length ≤ c0) (h : laws_FnExactBridgesOf.f k l0 = some r) (hL : Net.Sine.Laid w) :
    Calls Tryd.prog 9 #[.slice A0 l0.length c0] w fun e w' => e = .returned (.bool r) ∧ Below w.heap.size w w' := by
  have HL := Aside0.mk hL
  clear hL
  have HR0 := Aside0.mk hr0
  have HC0 := Aside0.mk hc0
  clear hr0 hc0
  have HB := Aside0.mk (Below.refl w.heap.size w)
  have H : ((laws_szLegS.f l0 1048576).bind fun t636 => (if t636 < 0 then (some true) else ((laws_toLegS.f k l0).bind fun t637 => ((spec_BridgesOf.f k t637).bind fun bt640 => ((laws_toLegS.f k l0).bind fun t644 => ((impl_BridgesOf.f t644).bind fun bt647 => ((laws_eqIntS.f k bt647.1 bt640.1).bind fun t651 => (if t651 = true then (laws_FnExactBridgesOf.j0 k l0 bt640.1 bt640.2 t644 bt647.1 bt647.2 (bt647.2 != bt640.2)) else (laws_FnExactBridgesOf.j0 k l0 bt640.1 bt640.2 t644 bt647.1 bt647.2 true))))))))) = some r := h
  clear h
  replace H := Option.bind_eq_some_iff.mp H
  obtain ⟨t636, A20, H⟩ := H
  replace H : (if t636 < 0 then (some true) else ((laws_toLegS.f k l0).bind fun t637 => ((spec_BridgesOf.f k t637).bind fun bt640 => ((laws_toLegS.f k l0).bind fun t644 => ((impl_BridgesOf.f t644).bind fun bt647 => ((laws_eqIntS.f k bt647.1 bt640.1).bind fun t651 => (if t651 = true then (laws_FnExactBridgesOf.j0 k l0 bt640.1 bt640.2 t644 bt647.1 bt647.2 (bt647.2 != bt640.2)) else (laws_FnExactBridgesOf.j0 k l0 bt640.1 bt640.2 t644 bt647.1 bt647.2 true)))))))) = some r := H
  have A2 := Aside0.mk A20
  clear A20
  by_cases c3 : t636 < 0
  · rw [if_pos c3] at H
    have c3b0 : decide (t636 < 0) = true := decide_eq_true c3
    clear c3
    obtain rfl := Option.some.inj H
    go_enter Tryd.func9, Tryd.ntmps9
    go_wp2_with (first | ((with_reducible refine gate_callee (f := 15) rfl ?_); refine goesL_ (some 16) rfl rfl Tryd.func15 (by kernel_rfl) rfl #[.slice A0 l0.length c0, .int .i64 1048576] rfl (by (try simp only [List.map_toArray, List.map_cons, List.map_nil]); first | done | rfl | (simp only [List.length_drop, List.length_take]; rfl)) ?_; (with_reducible refine (laws_szLegS.calls _ _ l0 1048576 t636 _ ?side1 ?side2 A2.out).mono ?_); (case side1 => repeat (first | exact HR0.out | (with_reducible refine Kd.C_alloc ?_ _) | (with_reducible refine Kd.C_drewN ?_ _) | (with_reducible refine Kd.C_drew ?_))); (case side2 => exact HC0.out); rintro e w' ⟨rfl, ⟨nd, rfl⟩⟩; refine ⟨_, rfl, ?_⟩))
    go_ret
    exact ⟨by first | rfl | (simp [errW_none, errW_some] <;> rfl) | (simp [*, errW_none, errW_some] <;> rfl), by repeat (first | (with_reducible first | exact HB.out | apply below_alloc | apply pw_below_drewN | apply below_drew1) | exact HB.out)⟩
  · rw [if_neg c3] at H
    have c3b0 : decide (t636 < 0) = false := decide_eq_false c3
    clear c3
    replace H := Option.bind_eq_some_iff.mp H
    obtain ⟨t637, A40, H⟩ := H
    replace H : ((spec_BridgesOf.f k t637).bind fun bt640 => ((laws_toLegS.f k l0).bind fun t644 => ((impl_BridgesOf.f t644).bind fun bt647 => ((laws_eqIntS.f k bt647.1 bt640.1).bind fun t651 => (if t651 = true then (laws_FnExactBridgesOf.j0 k l0 bt640.1 bt640.2 t644 bt647.1 bt647.2 (bt647.2 != bt640.2)) else (laws_FnExactBridgesOf.j0 k l0 bt640.1 bt640.2 t644 bt647.1 bt647.2 true)))))) = some r := H
    have A4 := Aside0.mk A40
    clear A40
    replace H := Option.bind_eq_some_iff.mp H
    obtain ⟨⟨t640, t641⟩, A50, H⟩ := H
    replace H : ((laws_toLegS.f k l0).bind fun t644 => ((impl_BridgesOf.f t644).bind fun bt647 => ((laws_eqIntS.f k bt647.1 t640).bind fun t651 => (if t651 = true then (laws_FnExactBridgesOf.j0 k l0 t640 t641 t644 bt647.1 bt647.2 (bt647.2 != t641)) else (laws_FnExactBridgesOf.j0 k l0 t640 t641 t644 bt647.1 bt647.2 true))))) = some r := H
    have A5 := Aside0.mk A50
    clear A50
    replace H := Option.bind_eq_some_iff.mp H
    obtain ⟨t644, A60, H⟩ := H
    replace H : ((impl_BridgesOf.f t644).bind fun bt647 => ((laws_eqIntS.f k bt647.1 t640).bind fun t651 => (if t651 = true then (laws_FnExactBridgesOf.j0 k l0 t640 t641 t644 bt647.1 bt647.2 (bt647.2 != t641)) else (laws_FnExactBridgesOf.j0 k l0 t640 t641 t644 bt647.1 bt647.2 true)))) = some r := H
    have A6 := Aside0.mk A60
    clear A60
    replace H := Option.bind_eq_some_iff.mp H
    obtain ⟨⟨t647, t648⟩, A70, H⟩ := H
    replace H : ((laws_eqIntS.f k t647 t640).bind fun t651 => (if t651 = true then (laws_FnExactBridgesOf.j0 k l0 t640 t641 t644 t647 t648 (t648 != t641)) else (laws_FnExactBridgesOf.j0 k l0 t640 t641 t644 t647 t648 true))) = some r := H
    have A7 := Aside0.mk A70
    clear A70
    have HC8 := Aside0.mk H
    clear H
    go_enter Tryd.func9, Tryd.ntmps9
    go_upto_region 8 with (first | ((with_reducible refine gate_callee (f := 15) rfl ?_); refine goesL_ (some 16) rfl rfl Tryd.func15 (by kernel_rfl) rfl #[.slice A0 l0.length c0, .int .i64 1048576] rfl (by (try simp only [List.map_toArray, List.map_cons, List.map_nil]); first | done | rfl | (simp only [List.length_drop, List.length_take]; rfl)) ?_; (with_reducible refine (laws_szLegS.calls _ _ l0 1048576 t636 _ ?side1 ?side2 A2.out).mono ?_); (case side1 => repeat (first | exact HR0.out | (with_reducible refine Kd.C_alloc ?_ _) | (with_reducible refine Kd.C_drewN ?_ _) | (with_reducible refine Kd.C_drew ?_))); (case side2 => exact HC0.out); rintro e w' ⟨rfl, ⟨nd, rfl⟩⟩; refine ⟨_, rfl, ?_⟩) | ((with_reducible refine gate_callee (f := 17) rfl ?_); refine goesL_ (some 21) rfl rfl Tryd.func17 (by kernel_rfl) rfl #[.slice A0 l0.length c0] rfl (by (try simp only [List.map_toArray, List.map_cons, List.map_nil]); first | done | rfl | (simp only [List.length_drop, List.length_take]; rfl)) ?_; (with_reducible refine (laws_toLegS.calls k _ _ l0 t637 _ ?side1 ?side2 A4.out).mono ?_); (case side1 => repeat (first | exact HR0.out | (with_reducible refine Kd.C_alloc ?_ _) | (with_reducible refine Kd.C_drewN ?_ _) | (with_reducible refine Kd.C_drew ?_))); (case side2 => exact HC0.out); rintro e w9 ⟨v638, rfl, ho0, hb⟩; refine ⟨_, rfl, ?_⟩; have n0_ := Aside0.mk (Kd.R_lower ho0 (below_size (by repeat (first | (with_reducible first | exact HB.out | apply below_alloc | apply pw_below_drewN | apply below_drew1) | exact HB.out)))); have n1_ := Aside0.mk (below_step (by repeat (first | (with_reducible first | exact HB.out | apply below_alloc | apply pw_below_drewN | apply below_drew1) | exact HB.out)) hb); clear HB; have HO639 := n0_; have HB := n1_; clear n0_ n1_; (try clear hb); (try clear hb2); (try clear hk); (try clear hi); (try clear ho0); obtain ⟨Ao10, co10, eo10⟩ := Kd.R_slice HO639.out; subst eo10) | ((with_reducible refine gate_callee (f := 35) rfl ?_); refine goesL_ (some 22) rfl rfl Tryd.func35 (by kernel_rfl) rfl #[.slice Ao10 t637.length co10] rfl (by (try simp only [List.map_toArray, List.map_cons, List.map_nil]); first | done | rfl | (simp only [List.length_drop, List.length_take]; rfl)) ?_; (with_reducible refine (spec_BridgesOf.calls k _ _ t637 t640 t641 _ ?side1 ?side2 A5.out).mono ?_); (case side1 => repeat (first | exact (Kd.R_reads' HO639.out).2.2 | (with_reducible refine Kd.C_alloc ?_ _) | (with_reducible refine Kd.C_drewN ?_ _) | (with_reducible refine Kd.C_drew ?_))); (case side2 => exact (Kd.R_reads' HO639.out).2.1); rintro e w11 ⟨v642, rfl, ho0, hb⟩; refine ⟨_, rfl, ?_⟩; have n0_ := Aside0.mk (Kd.R_below (by (with_reducible repeat (first | apply Kd.R_alloc | apply Kd.R_drewN | apply Kd.R_drew)); exact HO639.out) hb); have n1_ := Aside0.mk (Kd.R_lower ho0 (below_size (by repeat (first | (with_reducible first | exact HB.out | apply below_alloc | apply pw_below_drewN | apply below_drew1) | exact HB.out)))); have n2_ := Aside0.mk (below_step (by repeat (first | (with_reducible first | exact HB.out | apply below_alloc | apply pw_below_drewN | apply below_drew1) | exact HB.out)) hb); clear HO639; clear HB; have HO639 := n0_; have HO643 := n1_; have HB := n2_; clear n0_ n1_ n2_; (try clear hb); (try clear hb2); (try clear hk); (try clear hi); (try clear ho0)) | ((with_reducible refine gate_callee (f := 17) rfl ?_); refine goesL_ (some 26) rfl rfl Tryd.func17 (by kernel_rfl) rfl #[.slice A0 l0.length c0] rfl (by (try simp only [List.map_toArray, List.map_cons, List.map_nil]); first | done | rfl | (simp only [List.length_drop, List.length_take]; rfl)) ?_; (with_reducible refine (laws_toLegS.calls k _ _ l0 t644 _ ?side1 ?side2 A6.out).mono ?_); (case side1 => repeat (first | exact (Kd.C_below HR0.out HB.out) | (with_reducible refine Kd.C_alloc ?_ _) | (with_reducible refine Kd.C_drewN ?_ _) | (with_reducible refine Kd.C_drew ?_))); (case side2 => exact HC0.out); rintro e w12 ⟨v645, rfl, ho0, hb⟩; refine ⟨_, rfl, ?_⟩; have n0_ := Aside0.mk (Kd.R_elder' (by (with_reducible repeat (first | apply Kd.R_alloc | apply Kd.R_drewN | apply Kd.R_drew)); exact HO639.out) (Kd.R_base ho0) hb); have n1_ := Aside0.mk (Kd.R_below (by (with_reducible repeat (first | apply Kd.R_alloc | apply Kd.R_drewN | apply Kd.R_drew)); exact HO643.out) hb); have n2_ := Aside0.mk (Kd.R_lower (Kd.R_new' ho0 (Kd.R_lt (by (with_reducible repeat (first | apply Kd.R_alloc | apply Kd.R_drewN | apply Kd.R_drew)); exact HO639.out))) (below_size (by repeat (first | (with_reducible first | exact HB.out | apply below_alloc | apply pw_below_drewN | apply below_drew1) | exact HB.out)))); have n3_ := Aside0.mk (below_step (by repeat (first | (with_reducible first | exact HB.out | apply below_alloc | apply pw_below_drewN | apply below_drew1) | exact HB.out)) hb); clear HO639; clear HO643; clear HB; have HO639 := n0_; have HO643 := n1_; have HO646 := n2_; have HB := n3_; clear n0_ n1_ n2_ n3_; (try clear hb); (try clear hb2); (try clear hk); (try clear hi); (try clear ho0); obtain ⟨Ao13, co13, eo13⟩ := Kd.R_slice HO646.out; subst eo13) | ((with_reducible refine gate_callee (f := 36) rfl ?_); refine goesL_ (some 29) rfl rfl Tryd.func36 (by kernel_rfl) rfl #[.slice Ao13 t644.length co13] rfl (by (try simp only [List.map_toArray, List.map_cons, List.map_nil]); first | done | rfl | (simp only [List.length_drop, List.length_take]; rfl)) ?_; (with_reducible refine (impl_BridgesOf.calls _ _ t644 t647 t648 _ ?side1 ?side2 A7.out ?sideL).mono ?_); (case sideL => exact HL.out.keep (by repeat (first | (with_reducible first | exact HB.out | apply below_alloc | apply pw_below_drewN | apply below_drew1) | exact HB.out))); (case side1 => repeat (first | exact (Kd.R_reads' HO646.out).2.2 | (with_reducible refine Kd.C_alloc ?_ _) | (with_reducible refine Kd.C_drewN ?_ _) | (with_reducible refine Kd.C_drew ?_))); (case side2 => exact (Kd.R_reads' HO646.out).2.1); rintro e w14 ⟨v649, rfl, ho0, hb⟩; refine ⟨_, rfl, ?_⟩; have n0_ := Aside0.mk (Kd.R_below (by (with_reducible repeat (first | apply Kd.R_alloc | apply Kd.R_drewN | apply Kd.R_drew)); exact HO639.out) hb); have n1_ := Aside0.mk (Kd.R_elder' (by (with_reducible repeat (first | apply Kd.R_alloc | apply Kd.R_drewN | apply Kd.R_drew)); exact HO643.out) (Kd.R_base ho0) hb); have n2_ := Aside0.mk (Kd.R_below (by (with_reducible repeat (first | apply Kd.R_alloc | apply Kd.R_drewN | apply Kd.R_drew)); exact HO646.out) hb); have n3_ := Aside0.mk (Kd.R_lower (Kd.R_new' ho0 (Kd.R_lt (by (with_reducible repeat (first | apply Kd.R_alloc | apply Kd.R_drewN | apply Kd.R_drew)); exact HO643.out))) (below_size (by repeat (first | (with_reducible first | exact HB.out | apply below_alloc | apply pw_below_drewN | apply below_drew1) | exact HB.out)))); have n4_ := Aside0.mk (below_step (by repeat (first | (with_reducible first | exact HB.out | apply below_alloc | apply pw_below_drewN | apply below_drew1) | exact HB.out)) hb); clear HO639; clear HO643; clear HO646; clear HB; have HO639 := n0_; have HO643 := n1_; have HO646 := n2_; have HO650 := n3_; have HB := n4_; clear n0_ n1_ n2_ n3_ n4_; (try clear hb); (try clear hb2); (try clear hk); (try clear hi); (try clear ho0)))
    (try simp only [Act.put, List.setIfInBounds_toArray, List.set_cons_zero, List.set_cons_succ])
    go_cut [40] (fun v40 wc => ∃ (kq : Nat) (x40_7 : Bool), v40 = .bool x40_7 ∧ Aside0 (laws_FnExactBridgesOf.j0 kq l0 t640 t641 t644 t647 t648 x40_7 = some r) ∧ Aside0 (kq ≤ k) ∧ Aside0 (Kd.R (Kd.int .i64) 3 wc w.heap.size (fun k_ => some k_ ≠ (v649 : Value).ownBlock) v642 t640) ∧ Aside0 (Kd.R k56 56 wc w.heap.size (fun _ => True) (.slice Ao13 t644.length co13) t644) ∧ Aside0 (Kd.R (Kd.int .i64) 3 wc w.heap.size (fun k_ => some k_ ≠ (v642 : Value).ownBlock) v649 t647) ∧ Aside0 (Below w.heap.size w wc))
    case first =>
      have H := HC8.out
      clear HC8
      replace H := Option.bind_eq_some_iff.mp H
      obtain ⟨t651, A150, H⟩ := H
      replace H : (if t651 = true then (laws_FnExactBridgesOf.j0 k l0 t640 t641 t644 t647 t648 (t648 != t641)) else (laws_FnExactBridgesOf.j0 k l0 t640 t641 t644 t647 t648 true)) = some r := H
      have A15 := Aside0.mk A150
      clear A150
      by_cases c16 : t651 = true
      · subst c16
        have H1 : (laws_FnExactBridgesOf.j0 k l0 t640 t641 t644 t647 t648 (t648 != t641)) = some r := by rw [if_pos rfl] at H; exact H
        clear H
        have H := H1
        clear H1
        have H' := Aside0.mk H
        clear H
        obtain ⟨Ao17, co17, eo17⟩ := Kd.R_slice HO650.out
        subst eo17
        obtain ⟨Ao18, co18, eo18⟩ := Kd.R_slice HO643.out
        subst eo18
        go_wp2_with (first | ((with_reducible refine gate_callee (f := 28) rfl ?_); refine goesL_ (some 34) rfl rfl Tryd.func28 (by kernel_rfl) rfl #[.slice Ao17 t647.length co17, .slice Ao18 t640.length co18] rfl (by (try simp only [List.map_toArray, List.map_cons, List.map_nil]); first | done | rfl | (simp only [List.length_drop, List.length_take]; rfl)) ?_; (with_reducible refine (laws_eqIntS.calls k _ _ t647 _ _ t640 true _ ?side1 ?side2 ?side3 ?side4 A15.out).mono ?_); (case side1 => repeat (first | exact (Kd.R_reads' HO650.out).2.2 | (with_reducible refine Kd.C_alloc ?_ _) | (with_reducible refine Kd.C_drewN ?_ _) | (with_reducible refine Kd.C_drew ?_))); (case side2 => exact (Kd.R_reads' HO650.out).2.1); (case side3 => repeat (first | exact (Kd.R_reads' HO643.out).2.2 | (with_reducible refine Kd.C_alloc ?_ _) | (with_reducible refine Kd.C_drewN ?_ _) | (with_reducible refine Kd.C_drew ?_))); (case side4 => exact (Kd.R_reads' HO643.out).2.1); rintro e w' ⟨rfl, ⟨nd, rfl⟩⟩; refine ⟨_, rfl, ?_⟩))
        go_meet
        case rel => exact ⟨_, ((t648 != t641)), (by first | rfl | (simp; done) | (simp [*]; done)), H', ⟨by first | omega | exact Nat.le_refl _⟩, ⟨by (with_reducible repeat (first | apply Kd.R_alloc | apply Kd.R_drewN | apply Kd.R_drew)); exact Kd.R_mono HO643.out (fun _ hk => hk.2)⟩, ⟨by (with_reducible repeat (first | apply Kd.R_alloc | apply Kd.R_drewN | apply Kd.R_drew)); exact Kd.R_mono HO646.out (fun _ hk => trivial)⟩, ⟨by (with_reducible repeat (first | apply Kd.R_alloc | apply Kd.R_drewN | apply Kd.R_drew)); exact Kd.R_mono HO650.out (fun _ hk => hk.2)⟩, ⟨by repeat (first | (with_reducible first | exact HB.out | apply below_alloc | apply pw_below_drewN | apply below_drew1) | exact HB.out)⟩⟩
      · replace c16 := Bool.eq_false_iff.mpr c16
        subst c16
        have H1 : (laws_FnExactBridgesOf.j0 k l0 t640 t641 t644 t647 t648 true) = some r := by rw [if_neg (show ¬ (false = true) by decide)] at H; exact H
        clear H
        have H := H1
        clear H1
        have H' := Aside0.mk H
        clear H
        obtain ⟨Ao19, co19, eo19⟩ := Kd.R_slice HO650.out
        subst eo19
        obtain ⟨Ao20, co20, eo20⟩ := Kd.R_slice HO643.out
        subst eo20
        go_wp2_with (first | ((with_reducible refine gate_callee (f := 28) rfl ?_); refine goesL_ (some 34) rfl rfl Tryd.func28 (by kernel_rfl) rfl #[.slice Ao19 t647.length co19, .slice Ao20 t640.length co20] rfl (by (try simp only [List.map_toArray, List.map_cons, List.map_nil]); first | done | rfl | (simp only [List.length_drop, List.length_take]; rfl)) ?_; (with_reducible refine (laws_eqIntS.calls k _ _ t647 _ _ t640 false _ ?side1 ?side2 ?side3 ?side4 A15.out).mono ?_); (case side1 => repeat (first | exact (Kd.R_reads' HO650.out).2.2 | (with_reducible refine Kd.C_alloc ?_ _) | (with_reducible refine Kd.C_drewN ?_ _) | (with_reducible refine Kd.C_drew ?_))); (case side2 => exact (Kd.R_reads' HO650.out).2.1); (case side3 => repeat (first | exact (Kd.R_reads' HO643.out).2.2 | (with_reducible refine Kd.C_alloc ?_ _) | (with_reducible refine Kd.C_drewN ?_ _) | (with_reducible refine Kd.C_drew ?_))); (case side4 => exact (Kd.R_reads' HO643.out).2.1); rintro e w' ⟨rfl, ⟨nd, rfl⟩⟩; refine ⟨_, rfl, ?_⟩))
        go_meet
        case rel => exact ⟨_, (true), (by first | rfl | (simp; done) | (simp [*]; done)), H', ⟨by first | omega | exact Nat.le_refl _⟩, ⟨by (with_reducible repeat (first | apply Kd.R_alloc | apply Kd.R_drewN | apply Kd.R_drew)); exact Kd.R_mono HO643.out (fun _ hk => hk.2)⟩, ⟨by (with_reducible repeat (first | apply Kd.R_alloc | apply Kd.R_drewN | apply Kd.R_drew)); exact Kd.R_mono HO646.out (fun _ hk => trivial)⟩, ⟨by (with_reducible repeat (first | apply Kd.R_alloc | apply Kd.R_drewN | apply Kd.R_drew)); exact Kd.R_mono HO650.out (fun _ hk => hk.2)⟩, ⟨by repeat (first | (with_reducible first | exact HB.out | apply below_alloc | apply pw_below_drewN | apply below_drew1) | exact HB.out)⟩⟩
    case rest =>
      clear HC8
      try clear c1
      try clear c2
      try clear p2
      try clear c3
      try clear c3b0
      try clear c9
      try clear c15
      try clear c16
      try clear c17
      obtain ⟨kq, x40_7, rfl, HA, HJ7, HO_4, HO_6, HO_7, HB⟩ := hcut
      cases kq with
      | zero => exact absurd HA.out (by simp [laws_FnExactBridgesOf.j0])
      | succ kj7 =>
        have H := HA.out
        clear HA
        simp only [laws_FnExactBridgesOf.j0] at H
        by_cases c21 : x40_7 = true
        · subst c21
          have H1 : (some false) = some r := by rw [if_pos rfl] at H; exact H
          clear H
          have H := H1
          clear H1
          obtain rfl := Option.some.inj H
          go_wp2
          go_ret
          exact ⟨by first | rfl | (simp [errW_none, errW_some] <;> rfl) | (simp [*, errW_none, errW_some] <;> rfl), by repeat (first | (with_reducible first | exact HB.out | apply below_alloc | apply pw_below_drewN | apply below_drew1) | exact HB.out)⟩
        · replace c21 := Bool.eq_false_iff.mpr c21
          subst c21
          have H1 : ((laws_toLegS.f kj7 l0).bind fun t652 => ((laws_eqLegS.f kj7 t644 t652).bind fun t655 => (if t655 = true then ((laws_markLegS.f kj7 t644 1).bind fun bt656 => (if bt656.1 < 0 then (laws_FnExactBridgesOf.j1 kj7 l0 t640 t641 t647 true) else ((laws_eqIntS.f kj7 t647 t640).bind fun t658 => (if t658 = true then (laws_FnExactBridgesOf.j1 kj7 l0 t640 t641 t647 (t648 != t641)) else (laws_FnExactBridgesOf.j1 kj7 l0 t640 t641 t647 true))))) else (some false)))) = some r := by rw [if_neg (show ¬ (false = true) by decide)] at H; exact H
          clear H
          have H := H1
          clear H1
          replace H := Option.bind_eq_some_iff.mp H
          obtain ⟨t652, A220, H⟩ := H
          replace H : ((laws_eqLegS.f kj7 t644 t652).bind fun t655 => (if t655 = true then ((laws_markLegS.f kj7 t644 1).bind fun bt656 => (if bt656.1 < 0 then (laws_FnExactBridgesOf.j1 kj7 l0 t640 t641 t647 true) else ((laws_eqIntS.f kj7 t647 t640).bind fun t658 => (if t658 = true then (laws_FnExactBridgesOf.j1 kj7 l0 t640 t641 t647 (t648 != t641)) else (laws_FnExactBridgesOf.j1 kj7 l0 t640 t641 t647 true))))) else (some false))) = some r := H
          have A22 := Aside0.mk A220
          clear A220
          replace H := Option.bind_eq_some_iff.mp H
          obtain ⟨t655, A230, H⟩ := H
          replace H : (if t655 = true then ((laws_markLegS.f kj7 t644 1).bind fun bt656 => (if bt656.1 < 0 then (laws_FnExactBridgesOf.j1 kj7 l0 t640 t641 t647 true) else ((laws_eqIntS.f kj7 t647 t640).bind fun t658 => (if t658 = true then (laws_FnExactBridgesOf.j1 kj7 l0 t640 t641 t647 (t648 != t641)) else (laws_FnExactBridgesOf.j1 kj7 l0 t640 t641 t647 true))))) else (some false)) = some r := H
          have A23 := Aside0.mk A230
          clear A230
          by_cases c24 : t655 = true
          · subst c24
            have H1 : ((laws_markLegS.f kj7 t644 1).bind fun bt656 => (if bt656.1 < 0 then (laws_FnExactBridgesOf.j1 kj7 l0 t640 t641 t647 true) else ((laws_eqIntS.f kj7 t647 t640).bind fun t658 => (if t658 = true then (laws_FnExactBridgesOf.j1 kj7 l0 t640 t641 t647 (t648 != t641)) else (laws_FnExactBridgesOf.j1 kj7 l0 t640 t641 t647 true))))) = some r := by rw [if_pos rfl] at H; exact H
            clear H
            have H := H1
            clear H1
            replace H := Option.bind_eq_some_iff.mp H
            obtain ⟨⟨t656, t657⟩, A250, H⟩ := H
            replace H : (if t656 < 0 then (laws_FnExactBridgesOf.j1 kj7 l0 t640 t641 t647 true) else ((laws_eqIntS.f kj7 t647 t640).bind fun t658 => (if t658 = true then (laws_FnExactBridgesOf.j1 kj7 l0 t640 t641 t647 (t648 != t641)) else (laws_FnExactBridgesOf.j1 kj7 l0 t640 t641 t647 true)))) = some r := H
            have A25 := Aside0.mk A250
            clear A250
            have HC26 := Aside0.mk H
            clear H
            go_upto_region 14 with (first | ((with_reducible refine gate_callee (f := 17) rfl ?_); refine goesL_ (some 43) rfl rfl Tryd.func17 (by kernel_rfl) rfl #[.slice A0 l0.length c0] rfl (by (try simp only [List.map_toArray, List.map_cons, List.map_nil]); first | done | rfl | (simp only [List.length_drop, List.length_take]; rfl)) ?_; (with_reducible refine (laws_toLegS.calls kj7 _ _ l0 t652 _ ?side1 ?side2 A22.out).mono ?_); (case side1 => repeat (first | exact (Kd.C_below HR0.out HB.out) | (with_reducible refine Kd.C_alloc ?_ _) | (with_reducible refine Kd.C_drewN ?_ _) | (with_reducible refine Kd.C_drew ?_))); (case side2 => exact HC0.out); rintro e w27 ⟨v653, rfl, ho0, hb⟩; refine ⟨_, rfl, ?_⟩; have n0_ := Aside0.mk (Kd.R_below (by (with_reducible repeat (first | apply Kd.R_alloc | apply Kd.R_drewN | apply Kd.R_drew)); exact HO_4.out) hb); have n1_ := Aside0.mk (Kd.R_elder' (by (with_reducible repeat (first | apply Kd.R_alloc | apply Kd.R_drewN | apply Kd.R_drew)); exact HO_6.out) (Kd.R_base ho0) hb); have n2_ := Aside0.mk (Kd.R_below (by (with_reducible repeat (first | apply Kd.R_alloc | apply Kd.R_drewN | apply Kd.R_drew)); exact HO_7.out) hb); have n3_ := Aside0.mk (Kd.R_lower (Kd.R_new' ho0 (Kd.R_lt (by (with_reducible repeat (first | apply Kd.R_alloc | apply Kd.R_drewN | apply Kd.R_drew)); exact HO_6.out))) (below_size (by repeat (first | (with_reducible first | exact HB.out | apply below_alloc | apply pw_below_drewN | apply below_drew1) | exact HB.out)))); have n4_ := Aside0.mk (below_step (by repeat (first | (with_reducible first | exact HB.out | apply below_alloc | apply pw_below_drewN | apply below_drew1) | exact HB.out)) hb); clear HO_4; clear HO_6; clear HO_7; clear HB; have HO_4 := n0_; have HO_6 := n1_; have HO_7 := n2_; have HO654 := n3_; have HB := n4_; clear n0_ n1_ n2_ n3_ n4_; (try clear hb); (try clear hb2); (try clear hk); (try clear hi); (try clear ho0); obtain ⟨Ao28, co28, eo28⟩ := Kd.R_slice HO654.out; subst eo28) | ((with_reducible refine gate_callee (f := 19) rfl ?_); refine goesL_ (some 44) rfl rfl Tryd.func19 (by kernel_rfl) rfl #[.slice Ao13 t644.length co13, .slice Ao28 t652.length co28] rfl (by (try simp only [List.map_toArray, List.map_cons, List.map_nil]); first | done | rfl | (simp only [List.length_drop, List.length_take]; rfl)) ?_; (with_reducible refine (laws_eqLegS.calls kj7 _ _ t644 _ _ t652 true _ ?side1 ?side2 ?side3 ?side4 A23.out).mono ?_); (case side1 => repeat (first | exact (Kd.R_reads' HO_6.out).2.2 | (with_reducible refine Kd.C_alloc ?_ _) | (with_reducible refine Kd.C_drewN ?_ _) | (with_reducible refine Kd.C_drew ?_))); (case side2 => exact (Kd.R_reads' HO_6.out).2.1); (case side3 => repeat (first | exact (Kd.R_reads' HO654.out).2.2 | (with_reducible refine Kd.C_alloc ?_ _) | (with_reducible refine Kd.C_drewN ?_ _) | (with_reducible refine Kd.C_drew ?_))); (case side4 => exact (Kd.R_reads' HO654.out).2.1); rintro e w29 ⟨rfl, hb⟩; refine ⟨_, rfl, ?_⟩; have n0_ := Aside0.mk (Kd.R_below (by (with_reducible repeat (first | apply Kd.R_alloc | apply Kd.R_drewN | apply Kd.R_drew)); exact HO_4.out) hb); have n1_ := Aside0.mk (Kd.R_below (by (with_reducible repeat (first | apply Kd.R_alloc | apply Kd.R_drewN | apply Kd.R_drew)); exact HO_6.out) hb); have n2_ := Aside0.mk (Kd.R_below (by (with_reducible repeat (first | apply Kd.R_alloc | apply Kd.R_drewN | apply Kd.R_drew)); exact HO_7.out) hb); have n3_ := Aside0.mk (Kd.R_below (by (with_reducible repeat (first | apply Kd.R_alloc | apply Kd.R_drewN | apply Kd.R_drew)); exact HO654.out) hb); have n4_ := Aside0.mk (below_step (by repeat (first | (with_reducible first | exact HB.out | apply below_alloc | apply pw_below_drewN | apply below_drew1) | exact HB.out)) hb); clear HO_4; clear HO_6; clear HO_7; clear HO654; clear HB; have HO_4 := n0_; have HO_6 := n1_; have HO_7 := n2_; have HO654 := n3_; have HB := n4_; clear n0_ n1_ n2_ n3_ n4_; (try clear hb); (try clear hb2); (try clear hk); (try clear hi)) | ((with_reducible refine gate_callee (f := 33) rfl ?_); refine goesL_ (some 48) rfl rfl Tryd.func33 (by kernel_rfl) rfl #[.slice Ao13 t644.length co13, .int .i64 1] rfl (by (try simp only [List.map_toArray, List.map_cons, List.map_nil]); first | done | rfl | (simp only [List.length_drop, List.length_take]; rfl)) ?_; (with_reducible refine (laws_markLegS.calls kj7 (fun k_ => some k_ = (.slice Ao13 t644.length co13 : Value).ownBlock) (.slice Ao13 t644.length co13) t644 1 t656 t657 w _ ?side1 ?side2 A25.out).mono ?_); (case side1 => repeat (first | (with_reducible first | exact HB.out | apply below_alloc | apply pw_below_drewN | apply below_drew1) | exact HB.out)); (case side2 => exact Kd.R_tight rfl HO_6.out); rintro e w30 ⟨rfl, hy0, hb, hkp⟩; refine ⟨_, rfl, ?_⟩; have n0_ := Aside0.mk (Kd.R_mono (ok' := fun k_ => some k_ ≠ (v649 : Value).ownBlock) (Kd.R_keptB ((Kd.R_apart' HO_4.out (Kd.R_typed HO_6.out) (by decide))) hkp (fun k_ hk_ hs_ => (hk_.2) hs_)) (fun k_ hk_ => hk_.1.1)); have n1_ := Aside0.mk (Kd.R_reok rfl hy0 (fun k_ e_ => HO_6.out.1 k_ e_)); have n2_ := Aside0.mk (Kd.R_mono (ok' := fun k_ => some k_ ≠ (v642 : Value).ownBlock) (Kd.R_keptB ((Kd.R_apart' HO_7.out (Kd.R_typed HO_6.out) (by decide))) hkp (fun k_ hk_ hs_ => (hk_.2) hs_)) (fun k_ hk_ => hk_.1.1)); have n3_ := Aside0.mk (Kd.R_mono (ok' := fun k_ => some k_ ≠ (.slice Ao13 t644.length co13 : Value).ownBlock) (Kd.R_keptB (HO654.out) hkp (fun k_ hk_ hs_ => (hk_.2) hs_)) (fun k_ hk_ => hk_.1.2)); have n4_ := Aside0.mk (hb); clear HO_4; clear HO_6; clear HO_7; clear HO654; clear HB; have HO_4 := n0_; have HO_6 := n1_; have HO_7 := n2_; have HO654 := n3_; have HB := n4_; clear n0_ n1_ n2_ n3_ n4_; (try clear hb); (try clear hkp); (try clear hy0)))
            (try simp only [Act.put, List.setIfInBounds_toArray, List.set_cons_zero, List.set_cons_succ])
            go_cut [61] (fun v61 wc => ∃ (kq : Nat) (x61_25 : Bool), v61 = .bool x61_25 ∧ Aside0 (laws_FnExactBridgesOf.j1 kq l0 t640 t641 t647 x61_25 = some r) ∧ Aside0 (kq ≤ kj7) ∧ Aside0 (Kd.R (Kd.int .i64) 3 wc w.heap.size (fun k_ => some k_ ≠ (v649 : Value).ownBlock) v642 t640) ∧ Aside0 (Kd.R (Kd.int .i64) 3 wc w.heap.size (fun k_ => some k_ ≠ (v642 : Value).ownBlock) v649 t647) ∧ Aside0 (Below w.heap.size w wc))
            case first =>
              have H := HC26.out
              clear HC26
              by_cases c31 : t656 < 0
              · rw [if_pos c31] at H
                have c31b0 : decide (t656 < 0) = true := decide_eq_true c31
                clear c31
                (first | rw [c31b0] | (simp only [i64_w, i32_w]; rw [c31b0]) | skip)
                have H' := Aside0.mk H
                clear H
                go_wp2
                go_meet
                case rel => exact ⟨_, (true), (by first | rfl | (simp; done) | (simp [*]; done)), H', ⟨by have := HJ7.out; first | omega | exact Nat.le_refl _⟩, ⟨by (with_reducible repeat (first | apply Kd.R_alloc | apply Kd.R_drewN | apply Kd.R_drew)); exact HO_4.out⟩, ⟨by (with_reducible repeat (first | apply Kd.R_alloc | apply Kd.R_drewN | apply Kd.R_drew)); exact HO_7.out⟩, ⟨by repeat (first | (with_reducible first | exact HB.out | apply below_alloc | apply pw_below_drewN | apply below_drew1) | exact HB.out)⟩⟩
              · rw [if_neg c31] at H
                have c31b0 : decide (t656 < 0) = false := decide_eq_false c31
                clear c31
                (first | rw [c31b0] | (simp only [i64_w, i32_w]; rw [c31b0]) | skip)
                replace H := Option.bind_eq_some_iff.mp H
                obtain ⟨t658, A320, H⟩ := H
                replace H : (if t658 = true then (laws_FnExactBridgesOf.j1 kj7 l0 t640 t641 t647 (t648 != t641)) else (laws_FnExactBridgesOf.j1 kj7 l0 t640 t641 t647 true)) = some r := H
                have A32 := Aside0.mk A320
                clear A320
                by_cases c33 : t658 = true
                · subst c33
                  have H1 : (laws_FnExactBridgesOf.j1 kj7 l0 t640 t641 t647 (t648 != t641)) = some r := by rw [if_pos rfl] at H; exact H
                  clear H
                  have H := H1
                  clear H1
                  have H' := Aside0.mk H
                  clear H
                  obtain ⟨Ao34, co34, eo34⟩ := Kd.R_slice HO_7.out
                  subst eo34
                  obtain ⟨Ao35, co35, eo35⟩ := Kd.R_slice HO_4.out
                  subst eo35
                  go_wp2_with (first | (go_at_call 28; (with_reducible refine (laws_eqIntS.calls kj7 _ _ t647 _ _ t640 true _ ?side1 ?side2 ?side3 ?side4 A32.out).mono ?_); (case side1 => repeat (first | exact (Kd.R_reads' HO_7.out).2.2 | (with_reducible refine Kd.C_alloc ?_ _) | (with_reducible refine Kd.C_drewN ?_ _) | (with_reducible refine Kd.C_drew ?_))); (case side2 => exact (Kd.R_reads' HO_7.out).2.1); (case side3 => repeat (first | exact (Kd.R_reads' HO_4.out).2.2 | (with_reducible refine Kd.C_alloc ?_ _) | (with_reducible refine Kd.C_drewN ?_ _) | (with_reducible refine Kd.C_drew ?_))); (case side4 => exact (Kd.R_reads' HO_4.out).2.1); rintro e w' ⟨rfl, ⟨nd, rfl⟩⟩))
                  go_meet
                  case rel => exact ⟨_, ((t648 != t641)), (by first | rfl | (simp; done) | (simp [*]; done)), H', ⟨by have := HJ7.out; first | omega | exact Nat.le_refl _⟩, ⟨by (with_reducible repeat (first | apply Kd.R_alloc | apply Kd.R_drewN | apply Kd.R_drew)); exact HO_4.out⟩, ⟨by (with_reducible repeat (first | apply Kd.R_alloc | apply Kd.R_drewN | apply Kd.R_drew)); exact HO_7.out⟩, ⟨by repeat (first | (with_reducible first | exact HB.out | apply below_alloc | apply pw_below_drewN | apply below_drew1) | exact HB.out)⟩⟩
                · replace c33 := Bool.eq_false_iff.mpr c33
                  subst c33
                  have H1 : (laws_FnExactBridgesOf.j1 kj7 l0 t640 t641 t647 true) = some r := by rw [if_neg (show ¬ (false = true) by decide)] at H; exact H
                  clear H
                  have H := H1
                  clear H1
                  have H' := Aside0.mk H
                  clear H
                  obtain ⟨Ao36, co36, eo36⟩ := Kd.R_slice HO_7.out
                  subst eo36
                  obtain ⟨Ao37, co37, eo37⟩ := Kd.R_slice HO_4.out
                  subst eo37
                  go_wp2_with (first | (go_at_call 28; (with_reducible refine (laws_eqIntS.calls kj7 _ _ t647 _ _ t640 false _ ?side1 ?side2 ?side3 ?side4 A32.out).mono ?_); (case side1 => repeat (first | exact (Kd.R_reads' HO_7.out).2.2 | (with_reducible refine Kd.C_alloc ?_ _) | (with_reducible refine Kd.C_drewN ?_ _) | (with_reducible refine Kd.C_drew ?_))); (case side2 => exact (Kd.R_reads' HO_7.out).2.1); (case side3 => repeat (first | exact (Kd.R_reads' HO_4.out).2.2 | (with_reducible refine Kd.C_alloc ?_ _) | (with_reducible refine Kd.C_drewN ?_ _) | (with_reducible refine Kd.C_drew ?_))); (case side4 => exact (Kd.R_reads' HO_4.out).2.1); rintro e w' ⟨rfl, ⟨nd, rfl⟩⟩))
                  go_meet
                  case rel => exact ⟨_, (true), (by first | rfl | (simp; done) | (simp [*]; done)), H', ⟨by have := HJ7.out; first | omega | exact Nat.le_refl _⟩, ⟨by (with_reducible repeat (first | apply Kd.R_alloc | apply Kd.R_drewN | apply Kd.R_drew)); exact HO_4.out⟩, ⟨by (with_reducible repeat (first | apply Kd.R_alloc | apply Kd.R_drewN | apply Kd.R_drew)); exact HO_7.out⟩, ⟨by repeat (first | (with_reducible first | exact HB.out | apply below_alloc | apply pw_below_drewN | apply below_drew1) | exact HB.out)⟩⟩
            case rest =>
              clear HC26
              try clear c1
              try clear c2
              try clear p2
              try clear c3
              try clear c3b0
              try clear c9
              try clear c15
              try clear c16
              try clear c17
              try clear c19
              try clear c21
              try clear c24
              try clear c28
              try clear c31
              try clear c31b0
              try clear c33
              try clear c35
              try clear c36
              try clear p2
              obtain ⟨kq, x61_25, rfl, HA, HJ25, HO_4, HO_7, HB⟩ := hcut
              cases kq with
              | zero => exact absurd HA.out (by simp [laws_FnExactBridgesOf.j1])
              | succ kj25 =>
                have H := HA.out
                clear HA
                simp only [laws_FnExactBridgesOf.j1] at H
                by_cases c38 : x61_25 = true
                · subst c38
                  have H1 : (some false) = some r := by rw [if_pos rfl] at H; exact H
                  clear H
                  have H := H1
                  clear H1
                  obtain rfl := Option.some.inj H
                  go_wp2
                  go_ret
                  exact ⟨by first | rfl | (simp [errW_none, errW_some] <;> rfl) | (simp [*, errW_none, errW_some] <;> rfl), by repeat (first | (with_reducible first | exact HB.out | apply below_alloc | apply pw_below_drewN | apply below_drew1) | exact HB.out)⟩
                · replace c38 := Bool.eq_false_iff.mpr c38
                  subst c38
                  have H1 : ((laws_markIntS.f kj25 t647 1).bind fun bt659 => ((laws_heldIntS.f kj25 bt659.2 1).bind fun t661 => (if t661 < 0 then (some false) else (if t661 = bt659.1 then ((laws_toLegS.f kj25 l0).bind fun t662 => ((impl_BridgesOf.f t662).bind fun bt665 => ((laws_eqIntS.f kj25 bt665.1 t640).bind fun t669 => (if t669 = true then (laws_FnExactBridgesOf.j2 kj25 bt659.2 bt659.1 (bt665.2 != t641)) else (laws_FnExactBridgesOf.j2 kj25 bt659.2 bt659.1 true))))) else (some false))))) = some r := by rw [if_neg (show ¬ (false = true) by decide)] at H; exact H
                  clear H
                  have H := H1
                  clear H1
                  replace H := Option.bind_eq_some_iff.mp H
                  obtain ⟨⟨t659, t660⟩, A390, H⟩ := H
                  replace H : ((laws_heldIntS.f kj25 t660 1).bind fun t661 => (if t661 < 0 then (some false) else (if t661 = t659 then ((laws_toLegS.f kj25 l0).bind fun t662 => ((impl_BridgesOf.f t662).bind fun bt665 => ((laws_eqIntS.f kj25 bt665.1 t640).bind fun t669 => (if t669 = true then (laws_FnExactBridgesOf.j2 kj25 t660 t659 (bt665.2 != t641)) else (laws_FnExactBridgesOf.j2 kj25 t660 t659 true))))) else (some false)))) = some r := H
                  have A39 := Aside0.mk A390
                  clear A390
                  replace H := Option.bind_eq_some_iff.mp H
                  obtain ⟨t661, A400, H⟩ := H
                  replace H : (if t661 < 0 then (some false) else (if t661 = t659 then ((laws_toLegS.f kj25 l0).bind fun t662 => ((impl_BridgesOf.f t662).bind fun bt665 => ((laws_eqIntS.f kj25 bt665.1 t640).bind fun t669 => (if t669 = true then (laws_FnExactBridgesOf.j2 kj25 t660 t659 (bt665.2 != t641)) else (laws_FnExactBridgesOf.j2 kj25 t660 t659 true))))) else (some false))) = some r := H
                  have A40 := Aside0.mk A400
                  clear A400
                  by_cases c41 : t661 < 0
                  · rw [if_pos c41] at H
                    have c41b0 : decide (t661 < 0) = true := decide_eq_true c41
                    clear c41
                    obtain rfl := Option.some.inj H
                    obtain ⟨Ao42, co42, eo42⟩ := Kd.R_slice HO_7.out
                    subst eo42
                    go_wp2_with (first | ((with_reducible refine gate_callee (f := 37) rfl ?_); refine goesL_ (some 64) rfl rfl Tryd.func37 (by kernel_rfl) rfl #[.slice Ao42 t647.length co42, .int .i64 1] rfl (by (try simp only [List.map_toArray, List.map_cons, List.map_nil]); first | done | rfl | (simp only [List.length_drop, List.length_take]; rfl)) ?_; (with_reducible refine (laws_markIntS.calls kj25 (fun k_ => some k_ = (.slice Ao42 t647.length co42 : Value).ownBlock) (.slice Ao42 t647.length co42) t647 1 t659 t660 w _ ?side1 ?side2 A39.out).mono ?_); (case side1 => repeat (first | (with_reducible first | exact HB.out | apply below_alloc | apply pw_below_drewN | apply below_drew1) | exact HB.out)); (case side2 => exact Kd.R_tight rfl HO_7.out); rintro e w43 ⟨rfl, hy0, hb, hkp⟩; refine ⟨_, rfl, ?_⟩; have n0_ := Aside0.mk (Kd.R_mono (ok' := fun k_ => some k_ ≠ (.slice Ao42 t647.length co42 : Value).ownBlock) (Kd.R_keptB (HO_4.out) hkp (fun k_ hk_ hs_ => (hk_) hs_)) (fun k_ hk_ => hk_.1)); have n1_ := Aside0.mk (Kd.R_reok rfl hy0 (fun k_ e_ => HO_7.out.1 k_ e_)); have n2_ := Aside0.mk (hb); clear HO_4; clear HO_7; clear HB; have HO_4 := n0_; have HO_7 := n1_; have HB := n2_; clear n0_ n1_ n2_; (try clear hb); (try clear hkp); (try clear hy0)) | ((with_reducible refine gate_callee (f := 38) rfl ?_); refine goesL_ (some 67) rfl rfl Tryd.func38 (by kernel_rfl) rfl #[.slice Ao42 t660.length co42, .int .i64 1] rfl (by (try simp only [List.map_toArray, List.map_cons, List.map_nil]); first | done | (rw [show t660.length = t647.length from (Kd.R_reads' HO_7.out).1.symm] <;> rfl) | rfl | (simp only [List.length_drop, List.length_take]; rfl)) ?_; (with_reducible refine (laws_heldIntS.calls kj25 _ _ t660 1 t661 _ ?side1 ?side2 A40.out).mono ?_); (case side1 => repeat (first | exact (Kd.R_reads' HO_7.out).2.2 | (with_reducible refine Kd.C_alloc ?_ _) | (with_reducible refine Kd.C_drewN ?_ _) | (with_reducible refine Kd.C_drew ?_))); (case side2 => rw [show t660.length = t647.length from (Kd.R_reads' HO_7.out).1.symm]; exact (Kd.R_reads' HO_7.out).2.1); rintro e w' ⟨rfl, ⟨nd, rfl⟩⟩; refine ⟨_, rfl, ?_⟩))
                    go_ret
                    exact ⟨by first | rfl | (simp [errW_none, errW_some] <;> rfl) | (simp [*, errW_none, errW_some] <;> rfl), by repeat (first | (with_reducible first | exact HB.out | apply below_alloc | apply pw_below_drewN | apply below_drew1) | exact HB.out)⟩
                  · rw [if_neg c41] at H
                    have c41b0 : decide (t661 < 0) = false := decide_eq_false c41
                    clear c41
                    by_cases c44 : t661 = t659
                    · rw [if_pos c44] at H
                      have c44b0 : (t661 == t659) = true := beq_iff_eq.mpr c44
                      have c44b1 : (t661 != t659) = false := bne_eq_false_iff_eq.mpr c44
                      clear c44
                      replace H := Option.bind_eq_some_iff.mp H
                      obtain ⟨t662, A450, H⟩ := H
                      replace H : ((impl_BridgesOf.f t662).bind fun bt665 => ((laws_eqIntS.f kj25 bt665.1 t640).bind fun t669 => (if t669 = true then (laws_FnExactBridgesOf.j2 kj25 t660 t659 (bt665.2 != t641)) else (laws_FnExactBridgesOf.j2 kj25 t660 t659 true)))) = some r := H
                      have A45 := Aside0.mk A450
                      clear A450
                      replace H := Option.bind_eq_some_iff.mp H
                      obtain ⟨⟨t665, t666⟩, A460, H⟩ := H
                      replace H : ((laws_eqIntS.f kj25 t665 t640).bind fun t669 => (if t669 = true then (laws_FnExactBridgesOf.j2 kj25 t660 t659 (t666 != t641)) else (laws_FnExactBridgesOf.j2 kj25 t660 t659 true))) = some r := H
                      have A46 := Aside0.mk A460
                      clear A460
                      have HC47 := Aside0.mk H
                      clear H
                      obtain ⟨Ao48, co48, eo48⟩ := Kd.R_slice HO_7.out
                      subst eo48
                      go_upto_region 25 with (first | ((with_reducible refine gate_callee (f := 37) rfl ?_); refine goesL_ (some 64) rfl rfl Tryd.func37 (by kernel_rfl) rfl #[.slice Ao48 t647.length co48, .int .i64 1] rfl (by (try simp only [List.map_toArray, List.map_cons, List.map_nil]); first | done | rfl | (simp only [List.length_drop, List.length_take]; rfl)) ?_; (with_reducible refine (laws_markIntS.calls kj25 (fun k_ => some k_ = (.slice Ao48 t647.length co48 : Value).ownBlock) (.slice Ao48 t647.length co48) t647 1 t659 t660 w _ ?side1 ?side2 A39.out).mono ?_); (case side1 => repeat (first | (with_reducible first | exact HB.out | apply below_alloc | apply pw_below_drewN | apply below_drew1) | exact HB.out)); (case side2 => exact Kd.R_tight rfl HO_7.out); rintro e w49 ⟨rfl, hy0, hb, hkp⟩; refine ⟨_, rfl, ?_⟩; have n0_ := Aside0.mk (Kd.R_mono (ok' := fun k_ => some k_ ≠ (.slice Ao48 t647.length co48 : Value).ownBlock) (Kd.R_keptB (HO_4.out) hkp (fun k_ hk_ hs_ => (hk_) hs_)) (fun k_ hk_ => hk_.1)); have n1_ := Aside0.mk (Kd.R_reok rfl hy0 (fun k_ e_ => HO_7.out.1 k_ e_)); have n2_ := Aside0.mk (hb); clear HO_4; clear HO_7; clear HB; have HO_4 := n0_; have HO_7 := n1_; have HB := n2_; clear n0_ n1_ n2_; (try clear hb); (try clear hkp); (try clear hy0)) | ((with_reducible refine gate_callee (f := 38) rfl ?_); refine goesL_ (some 67) rfl rfl Tryd.func38 (by kernel_rfl) rfl #[.slice Ao48 t660.length co48, .int .i64 1] rfl (by (try simp only [List.map_toArray, List.map_cons, List.map_nil]); first | done | (rw [show t660.length = t647.length from (Kd.R_reads' HO_7.out).1.symm] <;> rfl) | rfl | (simp only [List.length_drop, List.length_take]; rfl)) ?_; (with_reducible refine (laws_heldIntS.calls kj25 _ _ t660 1 t661 _ ?side1 ?side2 A40.out).mono ?_); (case side1 => repeat (first | exact (Kd.R_reads' HO_7.out).2.2 | (with_reducible refine Kd.C_alloc ?_ _) | (with_reducible refine Kd.C_drewN ?_ _) | (with_reducible refine Kd.C_drew ?_))); (case side2 => rw [show t660.length = t647.length from (Kd.R_reads' HO_7.out).1.symm]; exact (Kd.R_reads' HO_7.out).2.1); rintro e w' ⟨rfl, ⟨nd, rfl⟩⟩; refine ⟨_, rfl, ?_⟩) | ((with_reducible refine gate_callee (f := 17) rfl ?_); refine goesL_ (some 75) rfl rfl Tryd.func17 (by kernel_rfl) rfl #[.slice A0 l0.length c0] rfl (by (try simp only [List.map_toArray, List.map_cons, List.map_nil]); first | done | rfl | (simp only [List.length_drop, List.length_take]; rfl)) ?_; (with_reducible refine (laws_toLegS.calls kj25 _ _ l0 t662 _ ?side1 ?side2 A45.out).mono ?_); (case side1 => repeat (first | exact (Kd.C_below HR0.out (by repeat (first | (with_reducible first | exact HB.out | apply below_alloc | apply pw_below_drewN | apply below_drew1) | exact HB.out))) | (with_reducible refine Kd.C_alloc ?_ _) | (with_reducible refine Kd.C_drewN ?_ _) | (with_reducible refine Kd.C_drew ?_))); (case side2 => exact HC0.out); rintro e w50 ⟨v663, rfl, ho0, hb⟩; refine ⟨_, rfl, ?_⟩; have n0_ := Aside0.mk (Kd.R_below (by (with_reducible repeat (first | apply Kd.R_alloc | apply Kd.R_drewN | apply Kd.R_drew)); exact HO_4.out) hb); have n1_ := Aside0.mk (Kd.R_below (by (with_reducible repeat (first | apply Kd.R_alloc | apply Kd.R_drewN | apply Kd.R_drew)); exact HO_7.out) hb); have n2_ := Aside0.mk (Kd.R_lower ho0 (below_size (by repeat (first | (with_reducible first | exact HB.out | apply below_alloc | apply pw_below_drewN | apply below_drew1) | exact HB.out)))); have n3_ := Aside0.mk (below_step (by repeat (first | (with_reducible first | exact HB.out | apply below_alloc | apply pw_below_drewN | apply below_drew1) | exact HB.out)) hb); clear HO_4; clear HO_7; clear HB; have HO_4 := n0_; have HO_7 := n1_; have HO664 := n2_; have HB := n3_; clear n0_ n1_ n2_ n3_; (try clear hb); (try clear hb2); (try clear hk); (try clear hi); (try clear ho0); obtain ⟨Ao51, co51, eo51⟩ := Kd.R_slice HO664.out; subst eo51) | ((with_reducible refine gate_callee (f := 36) rfl ?_); refine goesL_ (some 76) rfl rfl Tryd.func36 (by kernel_rfl) rfl #[.slice Ao51 t662.length co51] rfl (by (try simp only [List.map_toArray, List.map_cons, List.map_nil]); first | done | rfl | (simp only [List.length_drop, List.length_take]; rfl)) ?_; (with_reducible refine (impl_BridgesOf.calls _ _ t662 t665 t666 _ ?side1 ?side2 A46.out ?sideL).mono ?_); (case sideL => exact HL.out.keep (by repeat (first | (with_reducible first | exact HB.out | apply below_alloc | apply pw_below_drewN | apply below_drew1) | exact HB.out))); (case side1 => repeat (first | exact (Kd.R_reads' HO664.out).2.2 | (with_reducible refine Kd.C_alloc ?_ _) | (with_reducible refine Kd.C_drewN ?_ _) | (with_reducible refine Kd.C_drew ?_))); (case side2 => exact (Kd.R_reads' HO664.out).2.1); rintro e w52 ⟨v667, rfl, ho0, hb⟩; refine ⟨_, rfl, ?_⟩; have n0_ := Aside0.mk (Kd.R_elder' (by (with_reducible repeat (first | apply Kd.R_alloc | apply Kd.R_drewN | apply Kd.R_drew)); exact HO_4.out) (Kd.R_base ho0) hb); have n1_ := Aside0.mk (Kd.R_elder' (by (with_reducible repeat (first | apply Kd.R_alloc | apply Kd.R_drewN | apply Kd.R_drew)); exact HO_7.out) (Kd.R_base ho0) hb); have n2_ := Aside0.mk (Kd.R_below (by (with_reducible repeat (first | apply Kd.R_alloc | apply Kd.R_drewN | apply Kd.R_drew)); exact HO664.out) hb); have n3_ := Aside0.mk (Kd.R_lower (Kd.R_new' (Kd.R_new' ho0 (Kd.R_lt (by (with_reducible repeat (first | apply Kd.R_alloc | apply Kd.R_drewN | apply Kd.R_drew)); exact HO_4.out))) (Kd.R_lt (by (with_reducible repeat (first | apply Kd.R_alloc | apply Kd.R_drewN | apply Kd.R_drew)); exact HO_7.out))) (below_size (by repeat (first | (with_reducible first | exact HB.out | apply below_alloc | apply pw_below_drewN | apply below_drew1) | exact HB.out)))); have n4_ := Aside0.mk (below_step (by repeat (first | (with_reducible first | exact HB.out | apply below_alloc | apply pw_below_drewN | apply below_drew1) | exact HB.out)) hb); clear HO_4; clear HO_7; clear HO664; clear HB; have HO_4 := n0_; have HO_7 := n1_; have HO664 := n2_; have HO668 := n3_; have HB := n4_; clear n0_ n1_ n2_ n3_ n4_; (try clear hb); (try clear hb2); (try clear hk); (try clear hi); (try clear ho0)))
                      (try simp only [Act.put, List.setIfInBounds_toArray, List.set_cons_zero, List.set_cons_succ])
                      go_cut [87] (fun v87 wc => ∃ (kq : Nat) (x87_46 : Bool), v87 = .bool x87_46 ∧ Aside0 (laws_FnExactBridgesOf.j2 kq t660 t659 x87_46 = some r) ∧ Aside0 (kq ≤ kj25) ∧ Aside0 (Kd.R (Kd.int .i64) 3 wc w.heap.size (fun _ => True) (.slice Ao48 t647.length co48) t660) ∧ Aside0 (Below w.heap.size w wc))
                      case first =>
                        have H := HC47.out
                        clear HC47
                        replace H := Option.bind_eq_some_iff.mp H
                        obtain ⟨t669, A530, H⟩ := H
                        replace H : (if t669 = true then (laws_FnExactBridgesOf.j2 kj25 t660 t659 (t666 != t641)) else (laws_FnExactBridgesOf.j2 kj25 t660 t659 true)) = some r := H
                        have A53 := Aside0.mk A530
                        clear A530
                        by_cases c54 : t669 = true
                        · subst c54
                          have H1 : (laws_FnExactBridgesOf.j2 kj25 t660 t659 (t666 != t641)) = some r := by rw [if_pos rfl] at H; exact H
                          clear H
                          have H := H1
                          clear H1
                          have H' := Aside0.mk H
                          clear H
                          obtain ⟨Ao55, co55, eo55⟩ := Kd.R_slice HO668.out
                          subst eo55
                          obtain ⟨Ao56, co56, eo56⟩ := Kd.R_slice HO_4.out
                          subst eo56
                          go_wp2_with (first | ((with_reducible refine gate_callee (f := 28) rfl ?_); refine goesL_ (some 81) rfl rfl Tryd.func28 (by kernel_rfl) rfl #[.slice Ao55 t665.length co55, .slice Ao56 t640.length co56] rfl (by (try simp only [List.map_toArray, List.map_cons, List.map_nil]); first | done | rfl | (simp only [List.length_drop, List.length_take]; rfl)) ?_; (with_reducible refine (laws_eqIntS.calls kj25 _ _ t665 _ _ t640 true _ ?side1 ?side2 ?side3 ?side4 A53.out).mono ?_); (case side1 => repeat (first | exact (Kd.R_reads' HO668.out).2.2 | (with_reducible refine Kd.C_alloc ?_ _) | (with_reducible refine Kd.C_drewN ?_ _) | (with_reducible refine Kd.C_drew ?_))); (case side2 => exact (Kd.R_reads' HO668.out).2.1); (case side3 => repeat (first | exact (Kd.R_reads' HO_4.out).2.2 | (with_reducible refine Kd.C_alloc ?_ _) | (with_reducible refine Kd.C_drewN ?_ _) | (with_reducible refine Kd.C_drew ?_))); (case side4 => exact (Kd.R_reads' HO_4.out).2.1); rintro e w' ⟨rfl, ⟨nd, rfl⟩⟩; refine ⟨_, rfl, ?_⟩))
                          go_meet
                          case rel => exact ⟨_, ((t666 != t641)), (by first | rfl | (simp; done) | (simp [*]; done)), H', ⟨by have := HJ7.out; have := HJ25.out; first | omega | exact Nat.le_refl _⟩, ⟨by (with_reducible repeat (first | apply Kd.R_alloc | apply Kd.R_drewN | apply Kd.R_drew)); exact Kd.R_mono HO_7.out (fun _ hk => trivial)⟩, ⟨by repeat (first | (with_reducible first | exact HB.out | apply below_alloc | apply pw_below_drewN | apply below_drew1) | exact HB.out)⟩⟩
                        · replace c54 := Bool.eq_false_iff.mpr c54
                          subst c54
                          have H1 : (laws_FnExactBridgesOf.j2 kj25 t660 t659 true) = some r := by rw [if_neg (show ¬ (false = true) by decide)] at H; exact H
                          clear H
                          have H := H1
                          clear H1
                          have H' := Aside0.mk H
                          clear H
                          obtain ⟨Ao57, co57, eo57⟩ := Kd.R_slice HO668.out
                          subst eo57
                          obtain ⟨Ao58, co58, eo58⟩ := Kd.R_slice HO_4.out
                          subst eo58
                          go_wp2_with (first | ((with_reducible refine gate_callee (f := 28) rfl ?_); refine goesL_ (some 81) rfl rfl Tryd.func28 (by kernel_rfl) rfl #[.slice Ao57 t665.length co57, .slice Ao58 t640.length co58] rfl (by (try simp only [List.map_toArray, List.map_cons, List.map_nil]); first | done | rfl | (simp only [List.length_drop, List.length_take]; rfl)) ?_; (with_reducible refine (laws_eqIntS.calls kj25 _ _ t665 _ _ t640 false _ ?side1 ?side2 ?side3 ?side4 A53.out).mono ?_); (case side1 => repeat (first | exact (Kd.R_reads' HO668.out).2.2 | (with_reducible refine Kd.C_alloc ?_ _) | (with_reducible refine Kd.C_drewN ?_ _) | (with_reducible refine Kd.C_drew ?_))); (case side2 => exact (Kd.R_reads' HO668.out).2.1); (case side3 => repeat (first | exact (Kd.R_reads' HO_4.out).2.2 | (with_reducible refine Kd.C_alloc ?_ _) | (with_reducible refine Kd.C_drewN ?_ _) | (with_reducible refine Kd.C_drew ?_))); (case side4 => exact (Kd.R_reads' HO_4.out).2.1); rintro e w' ⟨rfl, ⟨nd, rfl⟩⟩; refine ⟨_, rfl, ?_⟩))
                          go_meet
                          case rel => exact ⟨_, (true), (by first | rfl | (simp; done) | (simp [*]; done)), H', ⟨by have := HJ7.out; have := HJ25.out; first | omega | exact Nat.le_refl _⟩, ⟨by (with_reducible repeat (first | apply Kd.R_alloc | apply Kd.R_drewN | apply Kd.R_drew)); exact Kd.R_mono HO_7.out (fun _ hk => trivial)⟩, ⟨by repeat (first | (with_reducible first | exact HB.out | apply below_alloc | apply pw_below_drewN | apply below_drew1) | exact HB.out)⟩⟩
                      case rest =>
                        clear HC47
                        try clear c1
                        try clear c2
                        try clear p2
                        try clear c3
                        try clear c3b0
                        try clear c4
                        try clear c5
                        try clear c9
                        try clear c15
                        try clear c16
                        try clear c17
                        try clear c19
                        try clear c21
                        try clear c24
                        try clear c28
                        try clear c31
                        try clear c31b0
                        try clear c33
                        try clear c35
                        try clear c36
                        try clear c37
                        try clear c38
                        try clear c41
                        try clear c41b0
                        try clear c44
                        try clear c44b0
                        try clear c44b1
                        try clear c54
                        try clear p2
                        obtain ⟨kq, x87_46, rfl, HA, HJ46, HO_7, HB⟩ := hcut
                        have hl7_46 := (Kd.R_reads' HO_7.out).1
                        rw [hl7_46] at HO_7
                        (try simp only [hl7_46])
                        cases kq with
                        | zero => exact absurd HA.out (by simp [laws_FnExactBridgesOf.j2])
                        | succ kj46 =>
                          have H := HA.out
                          clear HA
                          simp only [laws_FnExactBridgesOf.j2] at H
                          by_cases c59 : x87_46 = true
                          · subst c59
                            have H1 : (some false) = some r := by rw [if_pos rfl] at H; exact H
                            clear H
                            have H := H1
                            clear H1
                            obtain rfl := Option.some.inj H
                            go_wp2
                            go_ret
                            exact ⟨by first | rfl | (simp [errW_none, errW_some] <;> rfl) | (simp [*, errW_none, errW_some] <;> rfl), by repeat (first | (with_reducible first | exact HB.out | apply below_alloc | apply pw_below_drewN | apply below_drew1) | exact HB.out)⟩
                          · replace c59 := Bool.eq_false_iff.mpr c59
                            subst c59
                            have H1 : ((laws_heldIntS.f kj46 t660 1).bind fun t670 => (if t670 < 0 then (some false) else (if t670 = t659 then (some true) else (some false)))) = some r := by rw [if_neg (show ¬ (false = true) by decide)] at H; exact H
                            clear H
                            have H := H1
                            clear H1
                            replace H := Option.bind_eq_some_iff.mp H
                            obtain ⟨t670, A600, H⟩ := H
                            replace H : (if t670 < 0 then (some false) else (if t670 = t659 then (some true) else (some false))) = some r := H
                            have A60 := Aside0.mk A600
                            clear A600
                            by_cases c61 : t670 < 0
                            · rw [if_pos c61] at H
                              have c61b0 : decide (t670 < 0) = true := decide_eq_true c61
                              clear c61
                              obtain rfl := Option.some.inj H
                              go_wp2_with (first | ((with_reducible refine gate_callee (f := 38) rfl ?_); refine goesL_ (some 90) rfl rfl Tryd.func38 (by kernel_rfl) rfl #[.slice Ao48 t660.length co48, .int .i64 1] rfl (by (try simp only [List.map_toArray, List.map_cons, List.map_nil]); first | done | rfl | (simp only [List.length_drop, List.length_take]; rfl)) ?_; (with_reducible refine (laws_heldIntS.calls kj46 _ _ t660 1 t670 _ ?side1 ?side2 A60.out).mono ?_); (case side1 => repeat (first | exact (Kd.R_reads' HO_7.out).2.2 | (with_reducible refine Kd.C_alloc ?_ _) | (with_reducible refine Kd.C_drewN ?_ _) | (with_reducible refine Kd.C_drew ?_))); (case side2 => exact (Kd.R_reads' HO_7.out).2.1); rintro e w' ⟨rfl, ⟨nd, rfl⟩⟩; refine ⟨_, rfl, ?_⟩))
                              go_ret
                              exact ⟨by first | rfl | (simp [errW_none, errW_some] <;> rfl) | (simp [*, errW_none, errW_some] <;> rfl), by repeat (first | (with_reducible first | exact HB.out | apply below_alloc | apply pw_below_drewN | apply below_drew1) | exact HB.out)⟩
                            · rw [if_neg c61] at H
                              have c61b0 : decide (t670 < 0) = false := decide_eq_false c61
                              clear c61
                              by_cases c62 : t670 = t659
                              · rw [if_pos c62] at H
                                have c62b0 : (t670 == t659) = true := beq_iff_eq.mpr c62
                                have c62b1 : (t670 != t659) = false := bne_eq_false_iff_eq.mpr c62
                                clear c62
                                obtain rfl := Option.some.inj H
                                go_wp2_with (first | ((with_reducible refine gate_callee (f := 38) rfl ?_); refine goesL_ (some 90) rfl rfl Tryd.func38 (by kernel_rfl) rfl #[.slice Ao48 t660.length co48, .int .i64 1] rfl (by (try simp only [List.map_toArray, List.map_cons, List.map_nil]); first | done | rfl | (simp only [List.length_drop, List.length_take]; rfl)) ?_; (with_reducible refine (laws_heldIntS.calls kj46 _ _ t660 1 t670 _ ?side1 ?side2 A60.out).mono ?_); (case side1 => repeat (first | exact (Kd.R_reads' HO_7.out).2.2 | (with_reducible refine Kd.C_alloc ?_ _) | (with_reducible refine Kd.C_drewN ?_ _) | (with_reducible refine Kd.C_drew ?_))); (case side2 => exact (Kd.R_reads' HO_7.out).2.1); rintro e w' ⟨rfl, ⟨nd, rfl⟩⟩; refine ⟨_, rfl, ?_⟩))
                                go_ret
                                exact ⟨by first | rfl | (simp [errW_none, errW_some] <;> rfl) | (simp [*, errW_none, errW_some] <;> rfl), by repeat (first | (with_reducible first | exact HB.out | apply below_alloc | apply pw_below_drewN | apply below_drew1) | exact HB.out)⟩
                              · rw [if_neg c62] at H
                                have c62b0 : (t670 == t659) = false := beq_eq_false_iff_ne.mpr c62
                                have c62b1 : (t670 != t659) = true := bne_iff_ne.mpr c62
                                obtain rfl := Option.some.inj H
                                go_wp2_with (first | ((with_reducible refine gate_callee (f := 38) rfl ?_); refine goesL_ (some 90) rfl rfl Tryd.func38 (by kernel_rfl) rfl #[.slice Ao48 t660.length co48, .int .i64 1] rfl (by (try simp only [List.map_toArray, List.map_cons, List.map_nil]); first | done | rfl | (simp only [List.length_drop, List.length_take]; rfl)) ?_; (with_reducible refine (laws_heldIntS.calls kj46 _ _ t660 1 t670 _ ?side1 ?side2 A60.out).mono ?_); (case side1 => repeat (first | exact (Kd.R_reads' HO_7.out).2.2 | (with_reducible refine Kd.C_alloc ?_ _) | (with_reducible refine Kd.C_drewN ?_ _) | (with_reducible refine Kd.C_drew ?_))); (case side2 => exact (Kd.R_reads' HO_7.out).2.1); rintro e w' ⟨rfl, ⟨nd, rfl⟩⟩; refine ⟨_, rfl, ?_⟩))
                                go_ret
                                exact ⟨by first | rfl | (simp [errW_none, errW_some] <;> rfl) | (simp [*, errW_none, errW_some] <;> rfl), by repeat (first | (with_reducible first | exact HB.out | apply below_alloc | apply pw_below_drewN | apply below_drew1) | exact HB.out)⟩
                    · rw [if_neg c44] at H
                      have c44b0 : (t661 == t659) = false := beq_eq_false_iff_ne.mpr c44
                      have c44b1 : (t661 != t659) = true := bne_iff_ne.mpr c44
                      obtain rfl := Option.some.inj H
                      obtain ⟨Ao63, co63, eo63⟩ := Kd.R_slice HO_7.out
                      subst eo63
                      go_wp2_with (first | ((with_reducible refine gate_callee (f := 37) rfl ?_); refine goesL_ (some 64) rfl rfl Tryd.func37 (by kernel_rfl) rfl #[.slice Ao63 t647.length co63, .int .i64 1] rfl (by (try simp only [List.map_toArray, List.map_cons, List.map_nil]); first | done | rfl | (simp only [List.length_drop, List.length_take]; rfl)) ?_; (with_reducible refine (laws_markIntS.calls kj25 (fun k_ => some k_ = (.slice Ao63 t647.length co63 : Value).ownBlock) (.slice Ao63 t647.length co63) t647 1 t659 t660 w _ ?side1 ?side2 A39.out).mono ?_); (case side1 => repeat (first | (with_reducible first | exact HB.out | apply below_alloc | apply pw_below_drewN | apply below_drew1) | exact HB.out)); (case side2 => exact Kd.R_tight rfl HO_7.out); rintro e w64 ⟨rfl, hy0, hb, hkp⟩; refine ⟨_, rfl, ?_⟩; have n0_ := Aside0.mk (Kd.R_mono (ok' := fun k_ => some k_ ≠ (.slice Ao63 t647.length co63 : Value).ownBlock) (Kd.R_keptB (HO_4.out) hkp (fun k_ hk_ hs_ => (hk_) hs_)) (fun k_ hk_ => hk_.1)); have n1_ := Aside0.mk (Kd.R_reok rfl hy0 (fun k_ e_ => HO_7.out.1 k_ e_)); have n2_ := Aside0.mk (hb); clear HO_4; clear HO_7; clear HB; have HO_4 := n0_; have HO_7 := n1_; have HB := n2_; clear n0_ n1_ n2_; (try clear hb); (try clear hkp); (try clear hy0)) | ((with_reducible refine gate_callee (f := 38) rfl ?_); refine goesL_ (some 67) rfl rfl Tryd.func38 (by kernel_rfl) rfl #[.slice Ao63 t660.length co63, .int .i64 1] rfl (by (try simp only [List.map_toArray, List.map_cons, List.map_nil]); first | done | (rw [show t660.length = t647.length from (Kd.R_reads' HO_7.out).1.symm] <;> rfl) | rfl | (simp only [List.length_drop, List.length_take]; rfl)) ?_; (with_reducible refine (laws_heldIntS.calls kj25 _ _ t660 1 t661 _ ?side1 ?side2 A40.out).mono ?_); (case side1 => repeat (first | exact (Kd.R_reads' HO_7.out).2.2 | (with_reducible refine Kd.C_alloc ?_ _) | (with_reducible refine Kd.C_drewN ?_ _) | (with_reducible refine Kd.C_drew ?_))); (case side2 => rw [show t660.length = t647.length from (Kd.R_reads' HO_7.out).1.symm]; exact (Kd.R_reads' HO_7.out).2.1); rintro e w' ⟨rfl, ⟨nd, rfl⟩⟩; refine ⟨_, rfl, ?_⟩))
                      go_ret
                      exact ⟨by first | rfl | (simp [errW_none, errW_some] <;> rfl) | (simp [*, errW_none, errW_some] <;> rfl), by repeat (first | (with_reducible first | exact HB.out | apply below_alloc | apply pw_below_drewN | apply below_drew1) | exact HB.out)⟩
          · replace c24 := Bool.eq_false_iff.mpr c24
            subst c24
            have H1 : (some false) = some r := by rw [if_neg (show ¬ (false = true) by decide)] at H; exact H
            clear H
            have H := H1
            clear H1
            obtain rfl := Option.some.inj H
            go_wp2_with (first | ((with_reducible refine gate_callee (f := 17) rfl ?_); refine goesL_ (some 43) rfl rfl Tryd.func17 (by kernel_rfl) rfl #[.slice A0 l0.length c0] rfl (by (try simp only [List.map_toArray, List.map_cons, List.map_nil]); first | done | rfl | (simp only [List.length_drop, List.length_take]; rfl)) ?_; (with_reducible refine (laws_toLegS.calls kj7 _ _ l0 t652 _ ?side1 ?side2 A22.out).mono ?_); (case side1 => repeat (first | exact (Kd.C_below HR0.out HB.out) | (with_reducible refine Kd.C_alloc ?_ _) | (with_reducible refine Kd.C_drewN ?_ _) | (with_reducible refine Kd.C_drew ?_))); (case side2 => exact HC0.out); rintro e w65 ⟨v653, rfl, ho0, hb⟩; refine ⟨_, rfl, ?_⟩; have n0_ := Aside0.mk (Kd.R_below (by (with_reducible repeat (first | apply Kd.R_alloc | apply Kd.R_drewN | apply Kd.R_drew)); exact HO_4.out) hb); have n1_ := Aside0.mk (Kd.R_elder' (by (with_reducible repeat (first | apply Kd.R_alloc | apply Kd.R_drewN | apply Kd.R_drew)); exact HO_6.out) (Kd.R_base ho0) hb); have n2_ := Aside0.mk (Kd.R_below (by (with_reducible repeat (first | apply Kd.R_alloc | apply Kd.R_drewN | apply Kd.R_drew)); exact HO_7.out) hb); have n3_ := Aside0.mk (Kd.R_lower (Kd.R_new' ho0 (Kd.R_lt (by (with_reducible repeat (first | apply Kd.R_alloc | apply Kd.R_drewN | apply Kd.R_drew)); exact HO_6.out))) (below_size (by repeat (first | (with_reducible first | exact HB.out | apply below_alloc | apply pw_below_drewN | apply below_drew1) | exact HB.out)))); have n4_ := Aside0.mk (below_step (by repeat (first | (with_reducible first | exact HB.out | apply below_alloc | apply pw_below_drewN | apply below_drew1) | exact HB.out)) hb); clear HO_4; clear HO_6; clear HO_7; clear HB; have HO_4 := n0_; have HO_6 := n1_; have HO_7 := n2_; have HO654 := n3_; have HB := n4_; clear n0_ n1_ n2_ n3_ n4_; (try clear hb); (try clear hb2); (try clear hk); (try clear hi); (try clear ho0); obtain ⟨Ao66, co66, eo66⟩ := Kd.R_slice HO654.out; subst eo66) | ((with_reducible refine gate_callee (f := 19) rfl ?_); refine goesL_ (some 44) rfl rfl Tryd.func19 (by kernel_rfl) rfl #[.slice Ao13 t644.length co13, .slice Ao66 t652.length co66] rfl (by (try simp only [List.map_toArray, List.map_cons, List.map_nil]); first | done | rfl | (simp only [List.length_drop, List.length_take]; rfl)) ?_; (with_reducible refine (laws_eqLegS.calls kj7 _ _ t644 _ _ t652 false _ ?side1 ?side2 ?side3 ?side4 A23.out).mono ?_); (case side1 => repeat (first | exact (Kd.R_reads' HO_6.out).2.2 | (with_reducible refine Kd.C_alloc ?_ _) | (with_reducible refine Kd.C_drewN ?_ _) | (with_reducible refine Kd.C_drew ?_))); (case side2 => exact (Kd.R_reads' HO_6.out).2.1); (case side3 => repeat (first | exact (Kd.R_reads' HO654.out).2.2 | (with_reducible refine Kd.C_alloc ?_ _) | (with_reducible refine Kd.C_drewN ?_ _) | (with_reducible refine Kd.C_drew ?_))); (case side4 => exact (Kd.R_reads' HO654.out).2.1); rintro e w67 ⟨rfl, hb⟩; refine ⟨_, rfl, ?_⟩; have n0_ := Aside0.mk (Kd.R_below (by (with_reducible repeat (first | apply Kd.R_alloc | apply Kd.R_drewN | apply Kd.R_drew)); exact HO_4.out) hb); have n1_ := Aside0.mk (Kd.R_below (by (with_reducible repeat (first | apply Kd.R_alloc | apply Kd.R_drewN | apply Kd.R_drew)); exact HO_6.out) hb); have n2_ := Aside0.mk (Kd.R_below (by (with_reducible repeat (first | apply Kd.R_alloc | apply Kd.R_drewN | apply Kd.R_drew)); exact HO_7.out) hb); have n3_ := Aside0.mk (Kd.R_below (by (with_reducible repeat (first | apply Kd.R_alloc | apply Kd.R_drewN | apply Kd.R_drew)); exact HO654.out) hb); have n4_ := Aside0.mk (below_step (by repeat (first | (with_reducible first | exact HB.out | apply below_alloc | apply pw_below_drewN | apply below_drew1) | exact HB.out)) hb); clear HO_4; clear HO_6; clear HO_7; clear HO654; clear HB; have HO_4 := n0_; have HO_6 := n1_; have HO_7 := n2_; have HO654 := n3_; have HB := n4_; clear n0_ n1_ n2_ n3_ n4_; (try clear hb); (try clear hb2); (try clear hk); (try clear hi)))
            go_ret
            exact ⟨by first | rfl | (simp [errW_none, errW_some] <;> rfl) | (simp [*, errW_none, errW_some] <;> rfl), by repeat (first | (with_reducible first | exact HB.out | apply below_alloc | apply pw_below_drewN | apply below_drew1) | exact HB.out)⟩

end Go.Proofs.YtiooiefjcbooeaaDoor.A

namespace Go.Proofs.YtiooiefjcbooeaaDoor.Legs
open Go.RowKit Go.Proofs.YtiooiefjcbooeaaDoorW.PrintWords Go.Proofs.YtiooiefjcbooeaaDoor.Plain Go.Proofs.YtiooiefjcbooeaaDoor.A
set_option linter.unusedVariables false
set_option linter.unusedSimpArgs false
def cv (x : S58) : S56 := ⟨x.f0, x.f1, x.f2, x.f3, x.f4⟩
theorem toLegs_ev (l : List (S58)) (hb : l.length ≤ 7036874417766) : Ev (fun k => laws_toLegS.f k l) (l.map cv) := by
  unfold laws_toLegS.f
  refine Ev.pos (by omega) ?_
  refine Ev.pos (by omega) ?_
  exact copy_all laws_toLegS.l0 cv z58 _ (fun k x0 x3 x4 => by simp only [laws_toLegS.l0, laws_toLeg.f, Option.bind_some]; rfl) l (by omega)
theorem eqLegs_ev (l : List (S56)) (hb : l.length ≤ 140737488351232) : Ev (fun k => laws_eqLegS.f k l l) true := by
  unfold laws_eqLegS.f
  refine Ev.pos rfl ?_
  exact eq_all laws_eqLegS.l0 (fun k x0 x4 h0 => by
    simp only [laws_eqLegS.l0, laws_eqLeg.f, if_true, Option.bind_some]
    by_cases h : x4 < (x0.length : Int)
    · rw [if_pos h, if_pos h0, if_pos h, if_pos h]
    · rw [if_neg h, if_neg h]) l hb
theorem szLegs_eq (l : List (S58)) (hb : l.length ≤ 140737488351232) : laws_szLegS.f l 1048576 = some (if l.length ≤ 1048576 then 1048576 - (l.length : Int) else -1) := by
  unfold laws_szLegS.f
  rw [w64 (by omega) (by omega)]
  by_cases h : l.length ≤ 1048576
  · rw [if_neg (by omega), if_pos h]
  · rw [if_pos (by omega), if_neg h]
end Go.Proofs.YtiooiefjcbooeaaDoor.Legs
