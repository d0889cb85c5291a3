/- The program's LoopLegs and LoopOf, in the form of the printed functions, over the laid table of sines. -/
import Derived.Test.YtiooiefjcbooeaaDoorKFnExactLoopOf0
import Derived.Test.YtiooiefjcbooeaaDoorKFnExactLoopOf3
import Derived.Test.YtiooiefjcbooeaaDoorKFnExactLoopOfU2
/- The walk of the search for a way (over the function (*loop.example/g00933/impl.network).loop$1). -/
namespace Go.Proofs.YtiooiefjcbooeaaDoor.Net
open Go Go.Maps Go.WideElems Go.ChangeShapes Go.RowKit Go.Proofs.YtiooiefjcbooeaaDoorW.PrintWords Go.Proofs.YtiooiefjcbooeaaDoorW.PrintLast Go.Proofs.YtiooiefjcbooeaaDoorW.PrintMore Go.Proofs.YtiooiefjcbooeaaDoor.A Go.Proofs.YtiooiefjcbooeaaDoor.Plain
open Go.Proofs.YtiooiefjcbooeaaDoor.Tree (verts legs W)
open Go.Proofs.YtiooiefjcbooeaaDoor.Grow (Q)
set_option linter.unusedVariables false
set_option linter.unusedSimpArgs false
set_option maxHeartbeats 4000000 in
set_option maxRecDepth 100000 in
theorem pathTree (A : Option Addr) (c : Nat) (ls : L) (p0 : Addr) (use : Int → Bool) (r dst : Int) (w : World) (hr0 : Kd.C k56 w A ls.length ls) (hc : ls.length ≤ c) (hn : ls.length ≤ 12) (hg : ∀ x ∈ ls, Good x) (hr : 0 ≤ r ∧ r < 8) (hd : 0 ≤ dst ∧ dst < 8)
    (HU : ∀ (i : Nat) (W : World), i < ls.length → Below w.heap.size w W → Calls Tryd.prog 107 #[.int .i64 (i : Int), .pointer (some p0)] W fun e W' => e = .returned (.bool (use i)) ∧ W' = W) (R : Q) (hR : Bfs.run (ends ls) use r ls.length 9 0 [] = R) :
    Calls Tryd.prog 93 #[.slice A ls.length c, .func (Fn.func 107) #[] #[.pointer (some p0)], .int .i64 r, .int .i64 dst] w (PathPost (ends ls) r dst R w) := by
  have HR := Aside0.mk hr0
  have HG := Aside0.mk hg
  have HU' := Aside0.mk HU
  have HB := Aside0.mk (Below.refl w.heap.size w)
  obtain ⟨w1, hrun, hmap, hbel, hsz⟩ := MapAt.new w r hr.1 (by omega)
  have hmk := run_makeMap (P := Tryd.prog) 105 w
  have HM := Aside0.mk hmap
  have HB1 := Aside0.mk hbel
  have HI := Aside0.mk (show OutInv ls use r R 0 [] from ⟨Bfs.Ok.nil _ _ _ _, by simp, 9, hR, by omega⟩)
  clear hr0 hg HU hmap hbel hR
  go_enter Tryd.func93, Tryd.ntmps93
  go_wp2
  have HO := Aside0.mk (R_lits [r] w1 w.heap.size (fun b => b ≠ w.heap.size) (by omega) (by omega) (by simp))
  replace HM := Aside0.mk (HM.out.below (below_alloc (Below.refl w1.heap.size w1) (Obj.cells #[Value.int IntKind.i64 r] 3)))
  replace HB1 := Aside0.mk (below_alloc HB1.out (Obj.cells #[Value.int IntKind.i64 r] 3))
  rw [show ([r].map (Value.int .i64)).toArray = #[Value.int IntKind.i64 r] from rfl] at HO
  clear hmk hrun hsz HB
  go_loopw [12, 13] (fun v12 v13 w' => ∃ (k : Nat) (q : Q), v13 = .int .i64 k ∧ Aside0 (OutInv ls use r R k q) ∧ Aside0 (Kd.R (Kd.int .i64) 3 w' w.heap.size (fun b => b ≠ w.heap.size) v12 (Bfs.queue r q)) ∧ Aside0 (MapAt w' w.heap.size (q.length + 1) (bef r q)) ∧ Aside0 (Below w.heap.size w w')) (fun _ v13 _ => 9 - (intOf v13).toNat)
  case atStart => exact ⟨0, [], rfl, HI, HO, HM, HB1⟩
  case round =>
    obtain ⟨k, q, rfl, HI2, HO2, HM2, HB⟩ := hrel
    clear HI HO HM HB1
    obtain ⟨qA, qC, eq_⟩ := Kd.R_slice HO2.out
    subst eq_
    have HQL := Aside0.mk (Bfs.queue_len r q)
    have HQ7 := Aside0.mk (HI2.out.1.len (ends ls) use r hr (Good.range HG.out))
    by_cases hk : k < (Bfs.queue r q).length
    · have hkI : (k : Int) < ((Bfs.queue r q).length : Int) := by omega
      have HK := Aside0.mk hk
      obtain ⟨a, hqa⟩ : ∃ a, a = (Bfs.queue r q).getD k 0 := ⟨_, rfl⟩
      have HQA := Aside0.mk hqa
      have HAV : Aside0 (a ∈ verts r q) := ⟨by
        rw [hqa, ← Bfs.mem_queue, List.getD_eq_getElem?_getD, List.getElem?_eq_getElem hk]
        exact List.getElem_mem hk⟩
      have HA8 : Aside0 (0 ≤ a ∧ a < 8) := ⟨okRange HI2.out.1 hr (Good.range HG.out) a HAV.out⟩
      have HIn := Aside0.mk (show InInv ls use r a q 0 q from ⟨HI2.out.1, Bfs.Ext.refl q, rfl⟩)
      clear hk hqa
      go_wp2
      go_loopw [12, 38] (fun v12 v38 w' => ∃ (i : Nat) (p : Q), v38 = .int .i64 i ∧ i ≤ ls.length ∧ Aside0 (InInv ls use r a q i p) ∧ Aside0 (Kd.R (Kd.int .i64) 3 w' w.heap.size (fun b => b ≠ w.heap.size) v12 (Bfs.queue r p)) ∧ Aside0 (MapAt w' w.heap.size (p.length + 1) (bef r p)) ∧ Aside0 (Below w.heap.size w w')) (fun _ v38 _ => ls.length - (intOf v38).toNat)
      case atStart => exact ⟨0, q, rfl, Nat.zero_le _, HIn, HO2, HM2, HB⟩
      case round =>
        obtain ⟨i, p, rfl, hi, HJ, HO, HM, HB2⟩ := hrel
        clear HIn HO2 HM2 HB
        have HB := HB2
        clear HB2
        obtain ⟨qA2, qC2, eq_⟩ := Kd.R_slice HO.out
        subst eq_
        by_cases hlt : i < ls.length
        · obtain ⟨_, e2, h0, h1, h2, h3, h4⟩ := at_T56 HR.out (i : Int) (by omega) (by omega)
          cases e2
          have HX : Aside0 (Good (leg ls (i : Int))) := ⟨leg_good HG.out i hlt⟩
          have HE := Aside0.mk (show ends ls i = ((leg ls i).f0, (leg ls i).f1) from rfl)
          rw [Int.toNat_natCast, show rd_T56 ls (i : Int) = leg ls i from rfl] at h0 h1 h2 h3 h4
          have qk : ∃ ad, qA2 = some ad ∧ wr.cell? (ad.add k) = some (.int .i64 a) := by
            obtain ⟨t, ht⟩ := HJ.out.2.1.queue r
            obtain ⟨ad, h1, h2⟩ := Kd.at_int (Kd.R_reads' HO.out).2.2 (k : Int) (by omega) (by rw [ht, List.length_append]; have := HK.out; omega)
            refine ⟨ad, h1, ?_⟩
            rw [Int.toNat_natCast] at h2
            rw [h2]
            show some (Value.int .i64 ((Bfs.queue r p).getD (k : Int).toNat 0)) = _
            rw [Int.toNat_natCast, HQA.out, ← HJ.out.2.1.queue_getD r HK.out]
          obtain ⟨qad, eqa, qk⟩ := qk
          subst eqa
          have hkI2 : (k : Int) < ((Bfs.queue r p).length : Int) := by
            obtain ⟨t, ht⟩ := HJ.out.2.1.queue r
            rw [ht, List.length_append]; have := HK.out; omega
          have hkI0 : (0 : Int) ≤ (k : Int) := by omega
          generalize leg ls (i : Int) = x at *
          replace h0 := Sine.keepc h0 HB.out
          replace h1 := Sine.keepc h1 HB.out
          replace h2 := Sine.keepc h2 HB.out
          replace h3 := Sine.keepc h3 HB.out
          replace h4 := Sine.keepc h4 HB.out
          go_wp2
          have B1 := below_alloc (Below.refl wr.heap.size wr) (Obj.cells #[Value.int IntKind.i64 x.f0, Value.int IntKind.i64 x.f1, Value.int IntKind.i64 x.f2, Value.int IntKind.i64 x.f3, Value.int IntKind.i64 x.f4] 56)
          replace HB := Aside0.mk (below_step HB.out B1)
          replace HM := Aside0.mk (HM.out.below B1)
          replace HO := Aside0.mk (Kd.R_alloc HO.out (Obj.cells #[Value.int IntKind.i64 x.f0, Value.int IntKind.i64 x.f1, Value.int IntKind.i64 x.f2, Value.int IntKind.i64 x.f3, Value.int IntKind.i64 x.f4] 56))
          replace qk := Sine.keepc qk B1
          clear B1 h0 h1 h2 h3 h4
          have h0 : (wr.alloc (Obj.cells #[Value.int IntKind.i64 x.f0, Value.int IntKind.i64 x.f1, Value.int IntKind.i64 x.f2, Value.int IntKind.i64 x.f3, Value.int IntKind.i64 x.f4] 56)).cell? ⟨wr.heap.size, 0, none⟩ = some (.int .i64 x.f0) := by go_simp
          have h1 : (wr.alloc (Obj.cells #[Value.int IntKind.i64 x.f0, Value.int IntKind.i64 x.f1, Value.int IntKind.i64 x.f2, Value.int IntKind.i64 x.f3, Value.int IntKind.i64 x.f4] 56)).cell? ⟨wr.heap.size, 1, none⟩ = some (.int .i64 x.f1) := by go_simp
          generalize wr.alloc (Obj.cells #[Value.int IntKind.i64 x.f0, Value.int IntKind.i64 x.f1, Value.int IntKind.i64 x.f2, Value.int IntKind.i64 x.f3, Value.int IntKind.i64 x.f4] 56) = W1 at *
          generalize wr.heap.size = X at *
          have w0 : wrap64 (x.f0 + x.f1) = x.f0 + x.f1 := by have := HX.out; have a1 := this.1; have a2 := this.2.1; unfold wrap64; omega
          have w2 : wrap64 (x.f0 + x.f1 - a) = x.f0 + x.f1 - a := by have := HX.out; have a1 := this.1; have a2 := this.2.1; have a3 := HA8.out; unfold wrap64; omega
          have na8 := HA8.out
          have nx0 := HX.out.1
          have nx1 := HX.out.2.1
          by_cases c1 : x.f0 = a
          · have v0 : wrap64 (a + x.f1) = a + x.f1 := by rw [← c1]; exact w0
            have v1 : wrap64 (a + x.f1 - a) = x.f1 := by unfold wrap64; omega
            have v2 : a + x.f1 - a = x.f1 := by omega
            go_quiet (fail)
            go_wp2
            have BD := pw_below_drewN (Below.refl W1.heap.size W1) nq
            replace HB := Aside0.mk (below_step HB.out BD)
            replace HM := Aside0.mk (HM.out.below BD)
            replace HO := Aside0.mk (Kd.R_drewN HO.out nq)
            replace h0 := Sine.keepc h0 BD
            replace h1 := Sine.keepc h1 BD
            replace qk := Sine.keepc qk BD
            clear BD
            generalize W1.drewN nq = W2 at *
            cases hu : use (i : Int)
            · have HUi := fun W hb => HU'.out i W hlt hb
              rw [hu] at HUi
              replace HUi := Aside0.mk HUi
              go_quiet (first | (go_at_call 107; refine (HUi.out _ (by (repeat (first | exact HB.out | exact Below.refl _ _ | apply below_alloc | apply pw_below_drewN | apply below_drew1)); done)).mono ?_; rintro e w' ⟨rfl, rfl⟩; exact ⟨rfl, _, rfl⟩))
              go_wp2
              exact ⟨⟨i + 1, p, by go_num, by omega, ⟨HJ.out.skip hlt (Or.inr hu)⟩, ⟨Kd.R_drewN HO.out _⟩, ⟨HM.out.below (pw_below_drewN (Below.refl _ _) _)⟩, ⟨pw_below_drewN HB.out _⟩⟩, by simp [intOf]; omega⟩
            · have HUi := fun W hb => HU'.out i W hlt hb
              rw [hu] at HUi
              replace HUi := Aside0.mk HUi
              go_quiet (first | (go_at_call 107; refine (HUi.out _ (by (repeat (first | exact HB.out | exact Below.refl _ _ | apply below_alloc | apply pw_below_drewN | apply below_drew1)); done)).mono ?_; rintro e w' ⟨rfl, rfl⟩; exact ⟨rfl, _, rfl⟩))
              have BD := pw_below_drewN (Below.refl W2.heap.size W2) nq
              replace HB := Aside0.mk (below_step HB.out BD)
              replace HM := Aside0.mk (HM.out.below BD)
              replace HO := Aside0.mk (Kd.R_drewN HO.out nq)
              replace h0 := Sine.keepc h0 BD
              replace h1 := Sine.keepc h1 BD
              replace qk := Sine.keepc qk BD
              clear BD
              generalize W2.drewN nq = W3 at *
              have hlk := (HM.out.look x.f1 (by omega) (by omega)).1
              have hmem := bef_some (r := r) (q := p) x.f1
              have HSTEP := Aside0.mk (HJ.out.next hlt HAV.out)
              have hot : Bfs.other (ends ls) i a = x.f1 := by unfold Bfs.other; rw [HE.out]; simp only; omega
              have hnsk : ¬ (((ends ls i).1 ≠ a ∧ (ends ls i).2 ≠ a) ∨ use i = false) := by
                rw [HE.out, hu]
                rintro (⟨d1, d2⟩ | d1)
                · first | exact d1 c1 | exact d2 c2
                · cases d1
              by_cases hin : x.f1 ∈ verts r p
              · rw [decide_eq_true hin] at hmem
                have hlook : Bfs.look (ends ls) use r a p i = p := by unfold Bfs.look; rw [if_neg hnsk, hot, if_pos hin]
                rw [hmem] at hlk
                rw [hlook] at HSTEP
                clear hmem hot hnsk hlook hin
                go_wp2
                exact ⟨⟨i + 1, p, by go_num, by omega, HSTEP, HO, HM, HB⟩, by simp [intOf]; omega⟩
              · rw [decide_eq_false hin] at hmem
                have hlook : Bfs.look (ends ls) use r a p i = ((i : Int), a, x.f1) :: p := by unfold Bfs.look; rw [if_neg hnsk, hot, if_neg hin]
                rw [hmem] at hlk
                rw [hlook] at HSTEP
                have HP7 := Aside0.mk (HJ.out.1.len (ends ls) use r hr (Good.range HG.out))
                obtain ⟨W4, hst, hm4, hg4⟩ := HM.out.store (by have := HP7.out; omega) x.f1 (i : Int) (by omega) (by omega) (by omega) (by omega)
                have HM4 := Aside0.mk hm4
                have HG4 := Aside0.mk hg4
                have HNE := Aside0.mk (show x.f1 ≠ r from fun e => hin (by rw [e]; simp [verts]))
                have HBM : Aside0 (bef r (((i : Int), a, x.f1) :: p) = fun y => if y = x.f1 then some (i : Int) else bef r p y) := ⟨by funext y; exact bef_cons HNE.out y⟩
                have HQQ : Aside0 (Bfs.queue r (((i : Int), a, x.f1) :: p) = Bfs.queue r p ++ [x.f1]) := ⟨by simp [Bfs.queue]⟩
                have HMB : Aside0 (w.heap.size < W3.heap.size) := ⟨HM.out.lt⟩
                have HO4 : Aside0 (Kd.R (Kd.int .i64) 3 W4 w.heap.size (fun b => b ≠ w.heap.size) (.slice (some qad) (Bfs.queue r p).length qC2) (Bfs.queue r p)) := ⟨R_blocks HO.out hg4.size (fun b hb hl => hg4.block b hl (fun e => by injection e with e; exact hb e))⟩
                have HB4 : Aside0 (Below w.heap.size w W4) := ⟨HB.out.grown hg4 (by have := HMB.out; omega) (fun b e => by injection e with e; omega)⟩
                clear hmem hot hnsk hlook hin hm4 hg4
                go_wp2_with ((with_reducible refine gate_builtin (b := .append) (xs := #[.tmp 86, .tmp 88]) rfl ?_); at_builtin; refine Kd.R_append (Kd.int .i64) (w0 := w) w.heap.size rfl (.tmp 86) (.tmp 88) 38 3 (.int .i64 0) 8 rfl Tryd.underlying38 info3 rfl (by decide) (by omega) (.slice (some qad) (Bfs.queue r p).length qC2) (Bfs.queue r p) x.f1 [.int .i64 x.f1] (fun b => b ≠ w.heap.size) (fun _ => False) rfl rfl ?aP (fun _ hk => hk.elim) ?aF ?aO ?aB ?aS ?aL ?_; (case aP => exact rfl); (case aF => intro b hb; have := HM4.out.lt; omega); (case aO => exact HO4.out); (case aB => exact HB4.out); (case aS => have := HM4.out.lt; omega); (case aL => rw [Bfs.queue_len]; have := HP7.out; omega); intro v1 w1' ho hb hg hat; rw [← HQQ.out] at ho; have HO5 := Aside0.mk ho; have HB5 := Aside0.mk hb; have HM5 : Aside0 (MapAt w1' w.heap.size (p.length + 1 + 1) (bef r (((i : Int), a, x.f1) :: p))) := ⟨by rw [HBM.out]; exact HM4.out.kept hg (fun e => HO4.out.1 _ e.symm rfl)⟩; clear ho hb hg hat)
                exact ⟨⟨i + 1, ((i : Int), a, x.f1) :: p, by go_num, by omega, HSTEP, HO5, HM5, HB5⟩, by simp [intOf]; omega⟩
          · by_cases c2 : x.f1 = a
            · have v0 : wrap64 (x.f0 + a) = x.f0 + a := by rw [← c2]; exact w0
              have v1 : wrap64 x.f0 = x.f0 := by unfold wrap64; omega
              go_quiet (fail)
              go_wp2
              have BD := pw_below_drewN (Below.refl W1.heap.size W1) nq
              replace HB := Aside0.mk (below_step HB.out BD)
              replace HM := Aside0.mk (HM.out.below BD)
              replace HO := Aside0.mk (Kd.R_drewN HO.out nq)
              replace h0 := Sine.keepc h0 BD
              replace h1 := Sine.keepc h1 BD
              replace qk := Sine.keepc qk BD
              clear BD
              generalize W1.drewN nq = W2 at *
              cases hu : use (i : Int)
              · have HUi := fun W hb => HU'.out i W hlt hb
                rw [hu] at HUi
                replace HUi := Aside0.mk HUi
                go_quiet (first | (go_at_call 107; refine (HUi.out _ (by (repeat (first | exact HB.out | exact Below.refl _ _ | apply below_alloc | apply pw_below_drewN | apply below_drew1)); done)).mono ?_; rintro e w' ⟨rfl, rfl⟩; exact ⟨rfl, _, rfl⟩))
                go_wp2
                exact ⟨⟨i + 1, p, by go_num, by omega, ⟨HJ.out.skip hlt (Or.inr hu)⟩, ⟨Kd.R_drewN HO.out _⟩, ⟨HM.out.below (pw_below_drewN (Below.refl _ _) _)⟩, ⟨pw_below_drewN HB.out _⟩⟩, by simp [intOf]; omega⟩
              · have HUi := fun W hb => HU'.out i W hlt hb
                rw [hu] at HUi
                replace HUi := Aside0.mk HUi
                go_quiet (first | (go_at_call 107; refine (HUi.out _ (by (repeat (first | exact HB.out | exact Below.refl _ _ | apply below_alloc | apply pw_below_drewN | apply below_drew1)); done)).mono ?_; rintro e w' ⟨rfl, rfl⟩; exact ⟨rfl, _, rfl⟩))
                have BD := pw_below_drewN (Below.refl W2.heap.size W2) nq
                replace HB := Aside0.mk (below_step HB.out BD)
                replace HM := Aside0.mk (HM.out.below BD)
                replace HO := Aside0.mk (Kd.R_drewN HO.out nq)
                replace h0 := Sine.keepc h0 BD
                replace h1 := Sine.keepc h1 BD
                replace qk := Sine.keepc qk BD
                clear BD
                generalize W2.drewN nq = W3 at *
                have hlk := (HM.out.look x.f0 (by omega) (by omega)).1
                have hmem := bef_some (r := r) (q := p) x.f0
                have HSTEP := Aside0.mk (HJ.out.next hlt HAV.out)
                have hot : Bfs.other (ends ls) i a = x.f0 := by unfold Bfs.other; rw [HE.out]; simp only; omega
                have hnsk : ¬ (((ends ls i).1 ≠ a ∧ (ends ls i).2 ≠ a) ∨ use i = false) := by
                  rw [HE.out, hu]
                  rintro (⟨d1, d2⟩ | d1)
                  · first | exact d1 c1 | exact d2 c2
                  · cases d1
                by_cases hin : x.f0 ∈ verts r p
                · rw [decide_eq_true hin] at hmem
                  have hlook : Bfs.look (ends ls) use r a p i = p := by unfold Bfs.look; rw [if_neg hnsk, hot, if_pos hin]
                  rw [hmem] at hlk
                  rw [hlook] at HSTEP
                  clear hmem hot hnsk hlook hin
                  go_wp2
                  exact ⟨⟨i + 1, p, by go_num, by omega, HSTEP, HO, HM, HB⟩, by simp [intOf]; omega⟩
                · rw [decide_eq_false hin] at hmem
                  have hlook : Bfs.look (ends ls) use r a p i = ((i : Int), a, x.f0) :: p := by unfold Bfs.look; rw [if_neg hnsk, hot, if_neg hin]
                  rw [hmem] at hlk
                  rw [hlook] at HSTEP
                  have HP7 := Aside0.mk (HJ.out.1.len (ends ls) use r hr (Good.range HG.out))
                  obtain ⟨W4, hst, hm4, hg4⟩ := HM.out.store (by have := HP7.out; omega) x.f0 (i : Int) (by omega) (by omega) (by omega) (by omega)
                  have HM4 := Aside0.mk hm4
                  have HG4 := Aside0.mk hg4
                  have HNE := Aside0.mk (show x.f0 ≠ r from fun e => hin (by rw [e]; simp [verts]))
                  have HBM : Aside0 (bef r (((i : Int), a, x.f0) :: p) = fun y => if y = x.f0 then some (i : Int) else bef r p y) := ⟨by funext y; exact bef_cons HNE.out y⟩
                  have HQQ : Aside0 (Bfs.queue r (((i : Int), a, x.f0) :: p) = Bfs.queue r p ++ [x.f0]) := ⟨by simp [Bfs.queue]⟩
                  have HMB : Aside0 (w.heap.size < W3.heap.size) := ⟨HM.out.lt⟩
                  have HO4 : Aside0 (Kd.R (Kd.int .i64) 3 W4 w.heap.size (fun b => b ≠ w.heap.size) (.slice (some qad) (Bfs.queue r p).length qC2) (Bfs.queue r p)) := ⟨R_blocks HO.out hg4.size (fun b hb hl => hg4.block b hl (fun e => by injection e with e; exact hb e))⟩
                  have HB4 : Aside0 (Below w.heap.size w W4) := ⟨HB.out.grown hg4 (by have := HMB.out; omega) (fun b e => by injection e with e; omega)⟩
                  clear hmem hot hnsk hlook hin hm4 hg4
                  go_wp2_with ((with_reducible refine gate_builtin (b := .append) (xs := #[.tmp 86, .tmp 88]) rfl ?_); at_builtin; refine Kd.R_append (Kd.int .i64) (w0 := w) w.heap.size rfl (.tmp 86) (.tmp 88) 38 3 (.int .i64 0) 8 rfl Tryd.underlying38 info3 rfl (by decide) (by omega) (.slice (some qad) (Bfs.queue r p).length qC2) (Bfs.queue r p) x.f0 [.int .i64 x.f0] (fun b => b ≠ w.heap.size) (fun _ => False) rfl rfl ?aP (fun _ hk => hk.elim) ?aF ?aO ?aB ?aS ?aL ?_; (case aP => exact rfl); (case aF => intro b hb; have := HM4.out.lt; omega); (case aO => exact HO4.out); (case aB => exact HB4.out); (case aS => have := HM4.out.lt; omega); (case aL => rw [Bfs.queue_len]; have := HP7.out; omega); intro v1 w1' ho hb hg hat; rw [← HQQ.out] at ho; have HO5 := Aside0.mk ho; have HB5 := Aside0.mk hb; have HM5 : Aside0 (MapAt w1' w.heap.size (p.length + 1 + 1) (bef r (((i : Int), a, x.f0) :: p))) := ⟨by rw [HBM.out]; exact HM4.out.kept hg (fun e => HO4.out.1 _ e.symm rfl)⟩; clear ho hb hg hat)
                  exact ⟨⟨i + 1, ((i : Int), a, x.f0) :: p, by go_num, by omega, HSTEP, HO5, HM5, HB5⟩, by simp [intOf]; omega⟩
            · go_quiet (fail)
              go_wp2
              go_quiet (fail)
              go_wp2
              exact ⟨⟨i + 1, p, by go_num, by omega, ⟨HJ.out.skip hlt (Or.inl (by rw [HE.out]; exact ⟨c1, c2⟩))⟩, ⟨Kd.R_drewN HO.out _⟩, ⟨HM.out.below (pw_below_drewN (Below.refl _ _) _)⟩, ⟨pw_below_drewN HB.out _⟩⟩, by simp [intOf]; omega⟩
        · obtain rfl : i = ls.length := by omega
          have HN := Aside0.mk (HI2.out.next HJ.out HK.out HQA.out HQ7.out)
          have ek : wrap64 ((k : Int) + 1) = (k : Int) + 1 := by have := HK.out; have := HQL.out; have := HQ7.out; unfold wrap64; omega
          go_wp2
          go_roundw
          case rel => exact ⟨k + 1, p, by go_num, HN, HO, HM, HB⟩
          case measure =>
            try simp only [ek]
            clear ek
            have h1 := HK.out
            have h2 := HQL.out
            have h3 := HQ7.out
            simp [intOf]; omega
    · have hkI : ¬ (k : Int) < ((Bfs.queue r q).length : Int) := by omega
      have hRq := HI2.out.stop hk
      subst hRq
      have hlk := (HM2.out.look dst (by omega) (by omega)).1
      have hmem := bef_some (r := r) (q := R) dst
      by_cases hin : dst ∈ verts r R
      · rw [decide_eq_true hin] at hmem
        rw [hmem] at hlk
        clear hmem
        go_wp2
        have HOk := Aside0.mk HI2.out.1
        have HD7 := Aside0.mk (back_len HI2.out.1 hin)
        have HIN := Aside0.mk hin
        clear hlk hin HO2
        have HV1 : Aside0 (Kd.R (Kd.int .i64) 3 ((wr.alloc (Obj.cells #[Value.int IntKind.i64 dst] 3)).alloc (Obj.cells #[] 3)) w.heap.size (fun b => b ≠ w.heap.size ∧ some b ≠ (Value.slice (some ⟨wr.heap.size + 1, 0, none⟩) 0 0).ownBlock) (.slice (some ⟨wr.heap.size, 0, none⟩) 1 1) [dst]) := ⟨Kd.R_alloc (R_lits [dst] wr w.heap.size (fun b => b ≠ w.heap.size ∧ some b ≠ (Value.slice (some ⟨wr.heap.size + 1, 0, none⟩) 0 0).ownBlock) (by have := HM2.out.lt; omega) ⟨by have := HM2.out.lt; omega, by simp [Value.ownBlock]⟩ (by simp)) _⟩
        have HV2 : Aside0 (Kd.R (Kd.int .i64) 3 ((wr.alloc (Obj.cells #[Value.int IntKind.i64 dst] 3)).alloc (Obj.cells #[] 3)) w.heap.size (fun b => b ≠ w.heap.size ∧ some b ≠ (Value.slice (some ⟨wr.heap.size, 0, none⟩) 1 1).ownBlock) (.slice (some ⟨wr.heap.size + 1, 0, none⟩) 0 0) []) := ⟨by
          have h := R_lits [] (wr.alloc (Obj.cells #[Value.int IntKind.i64 dst] 3)) w.heap.size (fun b => b ≠ w.heap.size ∧ some b ≠ (Value.slice (some ⟨wr.heap.size, 0, none⟩) 1 1).ownBlock) (by have := HM2.out.lt; simp; omega) ⟨by have := HM2.out.lt; simp; omega, by simp [Value.ownBlock]⟩ (by simp)
          simpa using h⟩
        have HM3 := Aside0.mk ((HM2.out.below (below_alloc (Below.refl wr.heap.size wr) (Obj.cells #[Value.int IntKind.i64 dst] 3))).below (below_alloc (Below.refl _ _) (Obj.cells #[] 3)))
        have HB3 := Aside0.mk (below_alloc (below_alloc HB.out (Obj.cells #[Value.int IntKind.i64 dst] 3)) (Obj.cells #[] 3))
        clear HM2 HB
        go_loopg [21, 22, 23] (Bfs.back R dst).length (fun kq v21 v22 v23 w' => ∃ (cur : Int) (st lst : List Int), v23 = .int .i64 cur ∧ Aside0 (BackInv (ends ls) r dst R cur st lst ∧ (Bfs.back R cur).length = kq) ∧ Aside0 (Kd.R (Kd.int .i64) 3 w' w.heap.size (fun b => b ≠ w.heap.size ∧ some b ≠ v22.ownBlock) v21 st) ∧ Aside0 (Kd.R (Kd.int .i64) 3 w' w.heap.size (fun b => b ≠ w.heap.size ∧ some b ≠ v21.ownBlock) v22 lst) ∧ Aside0 (MapAt w' w.heap.size (R.length + 1) (bef r R)) ∧ Aside0 (Below w.heap.size w w'))
        case atStart => exact ⟨dst, [dst], [], rfl, ⟨BackInv.start HIN.out, rfl⟩, HV1, HV2, HM3, HB3⟩
        case round =>
          obtain ⟨cur, st, lst, rfl, HBI, HO1, HO2, HM, HB⟩ := hrel
          clear HV1 HV2 HM3 HB3
          obtain ⟨sA, sC, es_⟩ := Kd.R_slice HO1.out
          obtain ⟨lA, lC, el_⟩ := Kd.R_slice HO2.out
          subst es_
          subst el_
          have HLN := Aside0.mk (HBI.out.1.len HOk.out HIN.out)
          have HR7 := Aside0.mk (HOk.out.len (ends ls) use r hr (Good.range HG.out))
          have HC8 := Aside0.mk (okRange HOk.out hr (Good.range HG.out) cur HBI.out.1.1)
          by_cases hcr : cur = r
          · subst hcr
            have HFIN : Aside0 (lst = Bfs.back R dst ∧ st = trail (ends ls) dst (Bfs.back R dst)) := ⟨by
              obtain ⟨⟨_, f2, f3⟩, _⟩ := HBI.out
              rw [back_root HOk.out] at f2 f3
              exact ⟨by simpa using f2, by simpa [trail] using f3⟩⟩
            obtain ⟨K1, hK1⟩ := rev_ev st (by have := HLN.out; have := HR7.out; omega)
            obtain ⟨K2, hK2⟩ := rev_ev lst (by have := HLN.out; have := HR7.out; omega)
            have HK1 := Aside0.mk (hK1 K1 (Nat.le_refl _))
            have HK2 := Aside0.mk (hK2 K2 (Nat.le_refl _))
            have HA1 : Aside0 (Kd.R (Kd.int .i64) 3 wr w.heap.size (fun b => some b = (Value.slice sA st.length sC).ownBlock ∧ some b ≠ (Value.slice lA lst.length lC).ownBlock) (.slice sA st.length sC) st) := ⟨R_own_ok HO1.out (fun b hb _ => ⟨hb.symm, (HO1.out.1 b hb).2⟩)⟩
            clear hK1 hK2
            go_wp2_with (first
              | (go_at_call 113; (with_reducible refine (slices_Reverse_int_int.calls K1 _ _ _ _ w _ HB.out HA1.out HK1.out).mono ?_); rintro e w' ⟨rfl, hq1, hq2, hq3⟩; have HP1 := Aside0.mk hq1; have HP2 : Aside0 (Kd.R (Kd.int .i64) 3 w' w.heap.size (fun b => b ≠ w.heap.size ∧ some b ≠ (Value.slice sA st.length sC).ownBlock) (.slice lA lst.length lC) lst) := ⟨R_blocks HO2.out hq3.1 (fun b hb hl => hq3.2 b hl (fun hs => hb.2 hs.1))⟩; have HB6 := Aside0.mk hq2; have HA2 : Aside0 (Kd.R (Kd.int .i64) 3 w' w.heap.size (fun b => some b = (Value.slice lA lst.length lC).ownBlock ∧ some b ≠ (Value.slice sA st.length sC).ownBlock) (.slice lA lst.length lC) lst) := ⟨R_own_ok HP2.out (fun b hb _ => ⟨hb.symm, (HP2.out.1 b hb).2⟩)⟩; clear hq1 hq2 hq3)
              | (go_at_call 113; (with_reducible refine (slices_Reverse_int_int.calls K2 _ _ _ _ w _ HB6.out HA2.out HK2.out).mono ?_); rintro e w' ⟨rfl, hq1, hq2, hq3⟩; have HP3 := Aside0.mk hq1; have HB7 := Aside0.mk hq2; have HK3 := Aside0.mk hq3; clear hq1 hq2 hq3))
            have HF1 : Aside0 (Kd.R (Kd.int .i64) 3 w' w.heap.size (fun b => some b ≠ (Value.slice lA lst.length lC).ownBlock) (.slice sA st.length sC) st.reverse) := ⟨R_blocks (R_own_ok HP1.out (ok' := fun b => some b ≠ (Value.slice lA lst.length lC).ownBlock) (fun b hb _ => (HO1.out.1 b hb).2)) HK3.out.1 (fun b hb hl => HK3.out.2 b hl (fun hs => hb hs.1))⟩
            have HF2 : Aside0 (Kd.R (Kd.int .i64) 3 w' w.heap.size (fun b => some b ≠ (Value.slice sA st.length sC).ownBlock) (.slice lA lst.length lC) lst.reverse) := ⟨R_own_ok HP3.out (fun b hb _ => (HP2.out.1 b hb).2)⟩
            exact bodyPost_ret (v := .tuple #[.slice sA st.length sC, .slice lA lst.length lC, .bool true]) (by simp [results, Tryd.results93, go_sem]) rfl (by unfold PathPost; rw [if_pos HIN.out]; exact ⟨_, _, rfl, by rw [← HFIN.out.2]; exact HF1.out, by rw [← HFIN.out.1]; exact HF2.out, HB7.out⟩)
          · obtain ⟨i, u, hb1, hb2, hb3, hb4, hb5, hb6⟩ := back_step HOk.out HBI.out.1.1 hcr
            have hlk := (HM.out.look cur HC8.out.1 (by have := HC8.out.2; omega)).2
            rw [hb1] at hlk
            have hlk2 : (some i).getD 0 = i := rfl
            obtain ⟨ii, rfl⟩ := Int.eq_ofNat_of_zero_le hb5
            obtain ⟨_, e2, h0, h1, h2, h3, h4⟩ := at_T56 HR.out (ii : Int) (by omega) (by omega)
            cases e2
            rw [Int.toNat_natCast, show rd_T56 ls (ii : Int) = leg ls ii from rfl] at h0 h1
            have H0 := Aside0.mk h0
            have H1 := Aside0.mk h1
            have hgx := leg_good HG.out ii (by omega)
            have hu8 := okRange HOk.out hr (Good.range HG.out) u hb3
            have hE : (leg ls ii).f0 + (leg ls ii).f1 - cur = u := hb4
            have HNX : Aside0 (BackInv (ends ls) r dst R u (st ++ [u]) (lst ++ [(ii : Int)])) := ⟨HBI.out.1.next hb2 hb3 hb4⟩
            have HKQ : Aside0 ((Bfs.back R u).length + 1 = gk) := ⟨by have := HBI.out.2; rw [hb2] at this; simpa using this⟩
            have v0 : wrap64 ((leg ls ii).f0 + (leg ls ii).f1) = (leg ls ii).f0 + (leg ls ii).f1 := by have a1 := hgx.1; have a2 := hgx.2.1; unfold wrap64; omega
            have v1 : wrap64 ((leg ls ii).f0 + (leg ls ii).f1 - cur) = u := by rw [hE]; unfold wrap64; omega
            have HMI := Aside0.mk (show 0 ≤ (ii : Int) ∧ (ii : Int) < ls.length from ⟨hb5, hb6⟩)
            generalize leg ls (ii : Int) = x at *
            clear hb1 hb2 hb3 hb4 hgx hu8 hE h0 h1 h2 h3 h4
            obtain ⟨g1, eg1⟩ : ∃ g1, gk = g1 + 1 := ⟨(Bfs.back R u).length, HKQ.out.symm⟩
            subst eg1
            go_wp2_with ((with_reducible refine gate_builtin (b := .append) (xs := #[.tmp 109, .tmp 111]) rfl ?_); at_builtin; refine Kd.R_append (Kd.int .i64) (w0 := w) w.heap.size rfl (.tmp 109) (.tmp 111) 38 3 (.int .i64 0) 8 rfl Tryd.underlying38 info3 rfl (by decide) (by omega) (.slice lA lst.length lC) lst (ii : Int) [.int .i64 (ii : Int)] (fun b => b ≠ w.heap.size ∧ some b ≠ (Value.slice sA st.length sC).ownBlock) (fun _ => False) rfl rfl ?aP (fun _ hk => hk.elim) ?aF ?aO ?aB ?aS ?aL ?_; (case aP => exact rfl); (case aF => intro b hb; exact ⟨by have := HM.out.lt; omega, Kd.fresh' (Kd.R_lt HO1.out) b hb⟩); (case aO => exact HO2.out); (case aB => exact HB.out); (case aS => have := HM.out.lt; omega); (case aL => have := HLN.out; have := HR7.out; omega)
                         intro v1_ w1_ ho hb hg hat
                         have HP1 := Aside0.mk (Kd.R_after (ok := fun b => b ≠ w.heap.size) HO1.out hg hat)
                         have HP2 := Aside0.mk ho
                         have HB6 := Aside0.mk hb
                         have HM6 := Aside0.mk (HM.out.kept hg (fun e => (HO2.out.1 _ e.symm).1 rfl))
                         clear ho hb hg hat)
            have h0 := Sine.keepc H0.out HB6.out
            have h1 := Sine.keepc H1.out HB6.out
            have hm0 := HMI.out.1
            have hm1 := HMI.out.2
            go_quiet (fail)
            go_wp2_with ((with_reducible refine gate_builtin (b := .append) (xs := #[.tmp 126, .tmp 128]) rfl ?_); at_builtin; refine Kd.R_append (Kd.int .i64) (w0 := w) w.heap.size rfl (.tmp 126) (.tmp 128) 38 3 (.int .i64 0) 8 rfl Tryd.underlying38 info3 rfl (by decide) (by omega) (.slice sA st.length sC) st u [.int .i64 u] (fun b => b ≠ w.heap.size ∧ some b ≠ v1_.ownBlock) (fun _ => False) rfl rfl ?aP (fun _ hk => hk.elim) ?aF ?aO ?aB ?aS ?aL ?_; (case aP => exact rfl); (case aF => intro b hb; simp only [World.heap_drewN] at hb; exact ⟨by have := HM6.out.lt; omega, Kd.fresh' (Kd.R_lt HP2.out) b hb⟩); (case aO => exact Kd.R_drewN HP1.out _); (case aB => exact pw_below_drewN HB6.out _); (case aS => simp only [World.heap_drewN]; have := HM6.out.lt; omega); (case aL => have := HLN.out; have := HR7.out; omega)
                         intro v2_ w2_ ho hb hg hat
                         have HQ2 := Aside0.mk (Kd.R_after (ok := fun b => b ≠ w.heap.size) (Kd.R_drewN HP2.out _) hg hat)
                         have HQ1 := Aside0.mk ho
                         have HB8 := Aside0.mk hb
                         have HM8 := Aside0.mk ((HM6.out.below (pw_below_drewN (Below.refl _ _) _)).kept hg (fun e => (HP1.out.1 _ e.symm).1 rfl))
                         clear ho hb hg hat)
            go_roundg g1
            case measure => omega
            case rel => exact ⟨u, st ++ [u], lst ++ [(ii : Int)], by first | rfl | simp, ⟨HNX.out, by have := HKQ.out; omega⟩, HQ1, HQ2, HM8, HB8⟩
      · rw [decide_eq_false hin] at hmem
        rw [hmem] at hlk
        clear hmem
        go_wp2
        exact bodyPost_ret (v := .tuple #[.slice none 0 0, .slice none 0 0, .bool false]) (by simp [results, Tryd.results93, go_sem]) rfl (by unfold PathPost; rw [if_neg hin]; exact ⟨rfl, HB.out⟩)
end Go.Proofs.YtiooiefjcbooeaaDoor.Net

/- The misclosure of a loop is the error of its closing leg, in plain. -/
namespace Go.Proofs.YtiooiefjcbooeaaDoor.Net
open Go.RowKit Go.Proofs.YtiooiefjcbooeaaDoorW.PrintWords Go.Proofs.YtiooiefjcbooeaaDoorW.PrintLast Go.Proofs.YtiooiefjcbooeaaDoorW.PrintMore Go.Proofs.YtiooiefjcbooeaaDoor.A Go.Proofs.YtiooiefjcbooeaaDoor.Plain
open Go.Proofs.YtiooiefjcbooeaaDoor.Tree (verts legs W)
open Go.Proofs.YtiooiefjcbooeaaDoor.Grow (Q sweep grow)
set_option linter.unusedVariables false
set_option linter.unusedSimpArgs false
theorem loopL_range {ls : L} (hg : ∀ x ∈ ls, Good x) {i : Int} (hi : i ∈ closeL ls) : ∀ j ∈ loopL ls i, 0 ≤ j ∧ j < (ls.length : Int) := by
  obtain ⟨h0, h1, h2, h3, _⟩ := mem_closeL hg hi
  intro j hj
  simp only [loopL, List.mem_append, List.mem_singleton] at hj
  rcases hj with hj | rfl
  · have := (Tree.walk_W (RR_ok hg).1.tr h3 h2).legs_mem (RR_ok hg).1.tr j hj
    have := (RR_ok hg).1.legs_ends (ends ls) this
    exact ⟨this.2.2.2.1, this.2.2.2.2⟩
  · exact ⟨h0, h1⟩
theorem loopL_len {ls : L} (hg : ∀ x ∈ ls, Good x) (i : Int) : (loopL ls i).length ≤ 8 := by
  have := Tree.W_len (RR ls) (ends ls i).2 (ends ls i).1
  have hl := RR_len hg
  simp only [loopL, List.length_append, List.length_singleton]
  omega
end Go.Proofs.YtiooiefjcbooeaaDoor.Net

/- The loop of a closing leg, walked: its stations and its legs. -/
namespace Go.Proofs.YtiooiefjcbooeaaDoor.Net
open Go Go.RowKit Go.Proofs.YtiooiefjcbooeaaDoorW.PrintWords Go.Proofs.YtiooiefjcbooeaaDoorW.PrintLast Go.Proofs.YtiooiefjcbooeaaDoorW.PrintMore Go.Proofs.YtiooiefjcbooeaaDoor.A Go.Proofs.YtiooiefjcbooeaaDoor.Plain
open Go.Proofs.YtiooiefjcbooeaaDoor.Tree (verts legs W)
open Go.Proofs.YtiooiefjcbooeaaDoor.Grow (Q)
set_option linter.unusedVariables false
set_option linter.unusedSimpArgs false
theorem loopUse {n T g : Nat} {P : Nat → Bool} {X : Nat → S34} {B : Nat → Bool} {cl : Value} (i : Nat) (p : Addr) (w : World) (hp : w.cell? p = some (.pointer (some ⟨g, 0, none⟩))) (hS : St n T g P X B cl w) (hi : i < n) :
    Calls Tryd.prog 107 #[.int .i64 (i : Int), .pointer (some p)] w fun e w' => e = .returned (.bool (B i)) ∧ w' = w := by
  have tc := hS.tc
  have tb := hS.tb i hi
  have k0 : (0 : Int) ≤ (i : Int) := by omega
  have k1 : (i : Int) < (n : Int) := by omega
  clear hS
  go_enter Tryd.func107, Tryd.ntmps107
  go_wp2
  go_ret
  exact ⟨rfl, rfl⟩
/-- Turning a way round. -/
theorem trail_snoc (e : Int → Int × Int) : ∀ (l : List Int) (a : Int) (i : Int), ∃ b, trail e a (l ++ [i]) = trail e a l ++ [(e i).1 + (e i).2 - b] ∧ (trail e a l).getLast? = some b
  | [], a, i => ⟨a, rfl, rfl⟩
  | j :: l, a, i => by
    obtain ⟨b, h1, h2⟩ := trail_snoc e l ((e j).1 + (e j).2 - a) i
    refine ⟨b, by simp only [List.cons_append, trail, h1], ?_⟩
    simp only [trail]
    rw [trail_cons e _ l] at h2 ⊢
    simpa using h2
theorem trail_rev {e : Int → Int × Int} {q : Q} (hx : ∀ x ∈ q, e x.1 = (x.2.1, x.2.2) ∨ e x.1 = (x.2.2, x.2.1)) {a : Int} {o : Option Int} {l : List Int} {b : Int} (h : Tree.Walk q a o l b) : trail e b l.reverse = (trail e a l).reverse := by
  induction h with
  | nil => rfl
  | cons hj ho hw ih =>
    rename_i a o i c l b
    have he : (e i).1 + (e i).2 - a = c ∧ (e i).1 + (e i).2 - c = a := by
      rcases hj with hj | hj
      · rcases hx _ hj with he | he <;> rw [he] <;> simp only <;> omega
      · rcases hx _ hj with he | he <;> rw [he] <;> simp only <;> omega
    simp only [List.reverse_cons, trail, he.1]
    obtain ⟨d, h1, h2⟩ := trail_snoc e l.reverse b i
    rw [h1, ih]
    rw [ih, List.getLast?_reverse, trail_cons e c l] at h2
    obtain rfl : c = d := by simpa using h2
    rw [he.2]
/-- The stations of the loop of a closing leg. -/
def loopS (ls : L) (i : Int) : List Int := trail (ends ls) (ends ls i).2 (W (RR ls) (ends ls i).2 (ends ls i).1)
theorem loopS_len {ls : L} (hg : ∀ x ∈ ls, Good x) (i : Int) : (loopS ls i).length ≤ 8 := by
  have := Tree.W_len (RR ls) (ends ls i).2 (ends ls i).1
  have hl := RR_len hg
  unfold loopS
  rw [trail_len]
  omega
theorem path_of {ls : L} (hg : ∀ x ∈ ls, Good x) {i : Int} (hi : i ∈ closeL ls) :
    (ends ls i).1 ∈ verts (ends ls i).2 (Bfs.run (ends ls) (fun j => decide (j ∈ legs (RR ls))) (ends ls i).2 ls.length 9 0 []) ∧
      (Bfs.back (Bfs.run (ends ls) (fun j => decide (j ∈ legs (RR ls))) (ends ls i).2 ls.length 9 0 []) (ends ls i).1).reverse = W (RR ls) (ends ls i).2 (ends ls i).1 ∧
      (trail (ends ls) (ends ls i).1 (Bfs.back (Bfs.run (ends ls) (fun j => decide (j ∈ legs (RR ls))) (ends ls i).2 ls.length 9 0 []) (ends ls i).1)).reverse = loopS ls i := by
  obtain ⟨h0, h1, h2, h3, _⟩ := mem_closeL hg hi
  obtain ⟨f1, f2⟩ := Way.found (ends ls) (RR_ok hg).1 (Good.range hg) h3 h2
  refine ⟨f1, by rw [f2, ← Way.W_rev], ?_⟩
  rw [f2]
  unfold loopS
  rw [Way.W_rev (RR ls) (ends ls i).1 (ends ls i).2]
  exact (trail_rev (fun x hx => (RR_ends hg x hx).1) (Tree.walk_W (RR_ok hg).1.tr h2 h3)).symm
set_option maxHeartbeats 2000000 in
set_option maxRecDepth 100000 in
theorem netLoop (A : Option Addr) (c : Nat) (ls : L) (i : Int) (T g : Nat) (cl : Value) (w : World) (hS : St ls.length T g (Pq (RR ls)) (Xq ls (RR ls)) (Bq (RR ls)) cl w) (hr0 : Kd.C k56 w A ls.length ls) (hc : ls.length ≤ c) (hn : ls.length ≤ 12) (hg : ∀ x ∈ ls, Good x) (hi : i ∈ closeL ls) :
    Calls Tryd.prog 85 #[.pointer (some ⟨g, 0, none⟩), .slice A ls.length c, .int .i64 i] w fun e w' => ∃ v1 v2, e = .returned (.tuple #[v1, v2]) ∧ Kd.R (Kd.int .i64) 3 w' w.heap.size (fun _ => True) v1 (loopS ls i) ∧ Kd.R (Kd.int .i64) 3 w' w.heap.size (fun _ => True) v2 (loopL ls i) ∧ Below w.heap.size w w' := by
  have HP := Aside0.mk (path_of hg hi)
  obtain ⟨i0, i1, _⟩ := mem_closeL hg hi
  have HLN := Aside0.mk (loopL_len hg i)
  obtain ⟨k, rfl⟩ := Int.eq_ofNat_of_zero_le i0
  have hgk := leg_good hg k (Int.ofNat_lt.mp i1)
  obtain ⟨w_1, e2, h0, h1, _⟩ := at_T56 hr0 (k : Int) i0 i1
  cases e2
  rw [Int.toNat_natCast, show rd_T56 ls (k : Int) = leg ls k from rfl] at h0 h1
  have HE := Aside0.mk (show ends ls k = ((leg ls k).f0, (leg ls k).f1) from rfl)
  have HR := Aside0.mk hr0
  have HG := Aside0.mk hg
  have HS := Aside0.mk hS
  have hl0 := hgk.1
  have hl1 := hgk.2.1
  clear hr0 hg hS hgk
  generalize leg ls (k : Int) = x at *
  go_enter Tryd.func85, Tryd.ntmps85
  go_wp2
  have HB := Aside0.mk (below_alloc (Below.refl w.heap.size w) (Obj.cells #[Value.pointer (some { block := g, off := 0 })] 64))
  replace h0 := Sine.keepc h0 HB.out
  replace h1 := Sine.keepc h1 HB.out
  replace HS := Aside0.mk (HS.out.keep HB.out)
  have hp0 : (w.alloc (Obj.cells #[Value.pointer (some { block := g, off := 0 })] 64)).cell? ⟨w.heap.size, 0, none⟩ = some (.pointer (some ⟨g, 0, none⟩)) := by go_simp
  have HP0 := Aside0.mk hp0
  have HPP : Aside0 (x.f0 ∈ verts x.f1 (Bfs.run (ends ls) (fun j => decide (j ∈ legs (RR ls))) x.f1 ls.length 9 0 []) ∧
      (Bfs.back (Bfs.run (ends ls) (fun j => decide (j ∈ legs (RR ls))) x.f1 ls.length 9 0 []) x.f0).reverse = W (RR ls) x.f1 x.f0 ∧
      (trail (ends ls) x.f0 (Bfs.back (Bfs.run (ends ls) (fun j => decide (j ∈ legs (RR ls))) x.f1 ls.length 9 0 []) x.f0)).reverse = loopS ls k) := ⟨by have := HP.out; rw [HE.out] at this; exact this⟩
  have HLL : Aside0 (loopL ls k = W (RR ls) x.f1 x.f0 ++ [(k : Int)]) := ⟨by unfold loopL; rw [HE.out]⟩
  clear hp0 HP
  generalize w.alloc (Obj.cells #[Value.pointer (some { block := g, off := 0 })] 64) = W1 at *
  go_region_held3 (fun w' => w'.cell? (w_1.add (k * 5)) = some (.int .i64 x.f0) ∧ w'.cell? { block := (w_1.add (k * 5)).block, off := (w_1.add (k * 5)).off + 1 } = some (.int .i64 x.f1))
    (exact ⟨Sine.keepc (w := W1) h0 (by (repeat (first | exact Below.refl _ _ | apply pw_below_drewN | apply below_drew1 | exact HB.out | refine below_step ?_ (by assumption))); done), Sine.keepc (w := W1) h1 (by (repeat (first | exact Below.refl _ _ | apply pw_below_drewN | apply below_drew1 | exact HB.out | refine below_step ?_ (by assumption))); done)⟩)
    (first | (go_at_call 93; (with_reducible refine (pathTree _ c ls ⟨w.heap.size, 0, none⟩ (fun j => decide (j ∈ legs (RR ls))) x.f1 x.f0 _ ?s1 hc hn HG.out hl1 hl0 ?s2 _ rfl).mono ?_); (case s1 => exact Kd.C_below HR.out (by (repeat (first | exact HB.out | exact Below.refl _ _ | apply below_alloc | apply pw_below_drewN | apply below_drew1)); done)); (case s2 => intro j W hj hb; exact loopUse j ⟨w.heap.size, 0, none⟩ W (Sine.keepc (w := W1) HP0.out (below_step (by (repeat (first | exact Below.refl _ _ | apply pw_below_drewN | apply below_drew1 | exact HB.out | refine below_step ?_ (by assumption))); done) hb)) (HS.out.keep (below_step (by (repeat (first | exact Below.refl _ _ | apply pw_below_drewN | apply below_drew1 | exact HB.out | refine below_step ?_ (by assumption))); done) hb)) hj); rintro e w' hpost; unfold PathPost at hpost; rw [if_pos HPP.out.1] at hpost; obtain ⟨v1, v2, rfl, hv1, hv2, hw1⟩ := hpost))
  rw [HPP.out.2.1] at hv2
  rw [HPP.out.2.2] at hv1
  have hsz : w.heap.size ≤ W1.drew.heap.size := below_size (show Below w.heap.size w W1.drew from by (repeat (first | exact HB.out | exact Below.refl _ _ | apply below_alloc | apply pw_below_drewN | apply below_drew1)); done)
  have HV1 := Aside0.mk (Kd.R_lower hv1 hsz)
  have HV2 := Aside0.mk (Kd.R_lower hv2 hsz)
  replace HB := Aside0.mk (below_step (show Below w.heap.size w W1.drew from by (repeat (first | exact HB.out | exact Below.refl _ _ | apply below_alloc | apply pw_below_drewN | apply below_drew1)); done) hw1)
  clear hv1 hv2 hw1 hsz
  obtain ⟨lA, lC, el⟩ := Kd.R_slice HV2.out
  subst el
  have HLW := Aside0.mk (show (W (RR ls) x.f1 x.f0).length ≤ 7 from by have := HLN.out; rw [HLL.out] at this; simp at this; omega)
  go_wp2_with ((with_reducible refine gate_builtin (b := .append) (xs := #[.tmp 29, .tmp 31]) rfl ?_); at_builtin; refine Kd.R_append (Kd.int .i64) (w0 := w) w.heap.size rfl (.tmp 29) (.tmp 31) 38 3 (.int .i64 0) 8 rfl Tryd.underlying38 info3 rfl (by decide) (by omega) (.slice lA (W (RR ls) x.f1 x.f0).length lC) (W (RR ls) x.f1 x.f0) (k : Int) [.int .i64 (k : Int)] (fun b => some b ≠ v1.ownBlock) (fun _ => False) rfl rfl ?aP (fun _ hk => hk.elim) ?aF ?aO ?aB ?aS ?aL ?_; (case aP => exact rfl); (case aF => intro b hb; exact Kd.fresh' (Kd.R_lt HV1.out) b hb); (case aO => exact HV2.out); (case aB => exact HB.out); (case aS => exact below_size HB.out); (case aL => have := HLW.out; omega)
               intro v2_ w2_ ho hb hg hat
               have HP1 := Aside0.mk (Kd.R_after (ok := fun _ => True) (Kd.R_mono HV1.out (fun k hk => ⟨trivial, hk⟩)) hg hat)
               have HP2 := Aside0.mk ho
               have HB6 := Aside0.mk hb)
  go_ret2
  exact ⟨v1, v2_, rfl, Kd.R_mono HP1.out (fun _ _ => trivial), by rw [HLL.out]; exact Kd.R_mono HP2.out (fun _ _ => trivial), HB6.out⟩
end Go.Proofs.YtiooiefjcbooeaaDoor.Net

namespace Go.Proofs.YtiooiefjcbooeaaDoor.A
open Go.RowKit Go.Proofs.YtiooiefjcbooeaaDoorW.PrintWords Go.Proofs.YtiooiefjcbooeaaDoorW.PrintLast Go.Proofs.YtiooiefjcbooeaaDoorW.PrintMore
open Go.Proofs.YtiooiefjcbooeaaDoor.Net
set_option linter.unusedVariables false
set_option linter.unusedSimpArgs false
def impl_LoopLegs.f (l0 : List (S56)) (a1 : Int) : Option (List Int × Bool) := if l0.length ≤ 140737488351232 then some (if legsB l0 = true ∧ a1 ∈ closeL l0 then (loopL l0 a1, true) else ([], false)) else none
set_option maxHeartbeats 2000000 in
set_option maxRecDepth 100000 in
theorem impl_LoopLegs.calls (A0 : Option Addr) (c0 : Nat) (l0 : List (S56)) (a1 : Int) (r1 : List Int) (r2 : Bool) (w : World) (hr0 : Kd.C k56 w A0 l0.length l0) (hc0 : l0.length ≤ c0) (h : impl_LoopLegs.f l0 a1 = some (r1, r2)) (hL : Sine.Laid w) :
    Calls Tryd.prog 42 #[.slice A0 l0.length c0, .int .i64 a1] w fun e w' => ∃ v0_ : Value, e = .returned (.tuple #[v0_, .bool r2]) ∧ Kd.R (Kd.int .i64) 3 w' w.heap.size (fun _ => True) v0_ r1 ∧ Below w.heap.size w w' := by
  unfold impl_LoopLegs.f at h
  by_cases hb : l0.length ≤ 140737488351232
  · rw [if_pos hb] at h
    have HR := Aside0.mk hr0
    have HL := Aside0.mk hL
    have HB := Aside0.mk (Below.refl w.heap.size w)
    cases hv : legsB l0
    · rw [if_neg (by rw [hv]; simp)] at h
      simp only [Option.some.injEq, Prod.mk.injEq] at h
      obtain ⟨rfl, rfl⟩ := h
      clear hr0 hL
      go_enter Tryd.func42, Tryd.ntmps42
      go_wp2_with (go_at_call 62; (with_reducible refine (closingLeg_no A0 c0 l0 a1 _ ?s1 hc0 hb hv).mono ?_); (case s1 => exact Kd.C_below HR.out (by (repeat (first | exact HB.out | exact Below.refl _ _ | apply below_alloc | apply pw_below_drewN | apply below_drew1)); done)); rintro e w' ⟨rfl, hw⟩; replace HB := Aside0.mk (below_step (show Below w.heap.size w _ from by (repeat (first | exact HB.out | exact Below.refl _ _ | apply below_alloc | apply pw_below_drewN | apply below_drew1)); done) hw); clear hw)
      exact bodyPost_ret (v := .tuple #[.slice none 0 0, .bool false]) (by simp [results, Tryd.results42, go_sem]) rfl ⟨_, rfl, Kd.R_nil _ _ _ _ _, by repeat (first | exact HB.out | apply below_drew1)⟩
    · by_cases hm : a1 ∈ closeL l0
      · rw [if_pos ⟨hv, hm⟩] at h
        simp only [Option.some.injEq, Prod.mk.injEq] at h
        obtain ⟨rfl, rfl⟩ := h
        have HV := Aside0.mk (legsB_iff.mp hv)
        clear hr0 hL
        go_enter Tryd.func42, Tryd.ntmps42
        go_wp2_with (first
          | (go_at_call 62; (with_reducible refine (closingLeg A0 c0 l0 a1 _ ?s0 ?s1 hc0 hv).mono ?_); (case s0 => exact HL.out.keep (by (repeat (first | exact HB.out | exact Below.refl _ _ | apply below_alloc | apply pw_below_drewN | apply below_drew1)); done)); (case s1 => exact Kd.C_below HR.out (by (repeat (first | exact HB.out | exact Below.refl _ _ | apply below_alloc | apply pw_below_drewN | apply below_drew1)); done)); rintro e w' ⟨g, T, cA, cC, rfl, hst, _, hw⟩; rw [decide_eq_true hm]; replace HB := Aside0.mk (below_step (show Below w.heap.size w _ from by (repeat (first | exact HB.out | exact Below.refl _ _ | apply below_alloc | apply pw_below_drewN | apply below_drew1)); done) hw); clear hw; have HS := Aside0.mk hst; clear hst)
          | (go_at_call 85; have hq := netLoop A0 c0 l0 a1 _ _ _ _ (HS.out.keep (by repeat (first | exact Below.refl _ _ | apply below_drew1))) (Kd.C_below HR.out (by (repeat (first | exact HB.out | exact Below.refl _ _ | apply below_alloc | apply pw_below_drewN | apply below_drew1)); done)) hc0 HV.out.2 HV.out.1 hm; (with_reducible refine hq.mono ?_); clear hq; rintro e w' ⟨v1, v2, rfl, hv1, hv2, hw⟩; have HV1 := Aside0.mk (Kd.R_lower hv2 (below_size (show Below w.heap.size w _ from by (repeat (first | exact HB.out | exact Below.refl _ _ | apply below_alloc | apply pw_below_drewN | apply below_drew1)); done))); replace HB := Aside0.mk (below_step (show Below w.heap.size w _ from by (repeat (first | exact HB.out | exact Below.refl _ _ | apply below_alloc | apply pw_below_drewN | apply below_drew1)); done) hw); clear hw hv1 hv2))
        exact bodyPost_ret (v := .tuple #[v2, .bool true]) (by simp [results, Tryd.results42, go_sem]) rfl ⟨_, rfl, by first | exact HV1.out | exact Kd.R_drewN HV1.out _, by repeat (first | exact HB.out | apply below_drew1)⟩
      · rw [if_neg (by rintro ⟨_, h⟩; exact hm h)] at h
        simp only [Option.some.injEq, Prod.mk.injEq] at h
        obtain ⟨rfl, rfl⟩ := h
        clear hr0 hL
        go_enter Tryd.func42, Tryd.ntmps42
        go_wp2_with (go_at_call 62; (with_reducible refine (closingLeg A0 c0 l0 a1 _ ?s0 ?s1 hc0 hv).mono ?_); (case s0 => exact HL.out.keep (by (repeat (first | exact HB.out | exact Below.refl _ _ | apply below_alloc | apply pw_below_drewN | apply below_drew1)); done)); (case s1 => exact Kd.C_below HR.out (by (repeat (first | exact HB.out | exact Below.refl _ _ | apply below_alloc | apply pw_below_drewN | apply below_drew1)); done)); rintro e w' ⟨g, T, cA, cC, rfl, hst, _, hw⟩; rw [decide_eq_false hm]; replace HB := Aside0.mk (below_step (show Below w.heap.size w _ from by (repeat (first | exact HB.out | exact Below.refl _ _ | apply below_alloc | apply pw_below_drewN | apply below_drew1)); done) hw); clear hw hst)
        exact bodyPost_ret (v := .tuple #[.slice none 0 0, .bool false]) (by simp [results, Tryd.results42, go_sem]) rfl ⟨_, rfl, Kd.R_nil _ _ _ _ _, by repeat (first | exact HB.out | apply below_drew1)⟩
  · rw [if_neg hb] at h
    cases h
def impl_LoopOf.f (l0 : List (S56)) (a1 : Int) : Option (List Int × Bool) := if l0.length ≤ 140737488351232 then some (if legsB l0 = true ∧ a1 ∈ closeL l0 then (loopS l0 a1, true) else ([], false)) else none
set_option maxHeartbeats 2000000 in
set_option maxRecDepth 100000 in
theorem impl_LoopOf.calls (A0 : Option Addr) (c0 : Nat) (l0 : List (S56)) (a1 : Int) (r1 : List Int) (r2 : Bool) (w : World) (hr0 : Kd.C k56 w A0 l0.length l0) (hc0 : l0.length ≤ c0) (h : impl_LoopOf.f l0 a1 = some (r1, r2)) (hL : Sine.Laid w) :
    Calls Tryd.prog 46 #[.slice A0 l0.length c0, .int .i64 a1] w fun e w' => ∃ v0_ : Value, e = .returned (.tuple #[v0_, .bool r2]) ∧ Kd.R (Kd.int .i64) 3 w' w.heap.size (fun _ => True) v0_ r1 ∧ Below w.heap.size w w' := by
  unfold impl_LoopOf.f at h
  by_cases hb : l0.length ≤ 140737488351232
  · rw [if_pos hb] at h
    have HR := Aside0.mk hr0
    have HL := Aside0.mk hL
    have HB := Aside0.mk (Below.refl w.heap.size w)
    cases hv : legsB l0
    · rw [if_neg (by rw [hv]; simp)] at h
      simp only [Option.some.injEq, Prod.mk.injEq] at h
      obtain ⟨rfl, rfl⟩ := h
      clear hr0 hL
      go_enter Tryd.func46, Tryd.ntmps46
      go_wp2_with (go_at_call 62; (with_reducible refine (closingLeg_no A0 c0 l0 a1 _ ?s1 hc0 hb hv).mono ?_); (case s1 => exact Kd.C_below HR.out (by (repeat (first | exact HB.out | exact Below.refl _ _ | apply below_alloc | apply pw_below_drewN | apply below_drew1)); done)); rintro e w' ⟨rfl, hw⟩; replace HB := Aside0.mk (below_step (show Below w.heap.size w _ from by (repeat (first | exact HB.out | exact Below.refl _ _ | apply below_alloc | apply pw_below_drewN | apply below_drew1)); done) hw); clear hw)
      exact bodyPost_ret (v := .tuple #[.slice none 0 0, .bool false]) (by simp [results, Tryd.results46, go_sem]) rfl ⟨_, rfl, Kd.R_nil _ _ _ _ _, by repeat (first | exact HB.out | apply below_drew1)⟩
    · by_cases hm : a1 ∈ closeL l0
      · rw [if_pos ⟨hv, hm⟩] at h
        simp only [Option.some.injEq, Prod.mk.injEq] at h
        obtain ⟨rfl, rfl⟩ := h
        have HV := Aside0.mk (legsB_iff.mp hv)
        clear hr0 hL
        go_enter Tryd.func46, Tryd.ntmps46
        go_wp2_with (first
          | (go_at_call 62; (with_reducible refine (closingLeg A0 c0 l0 a1 _ ?s0 ?s1 hc0 hv).mono ?_); (case s0 => exact HL.out.keep (by (repeat (first | exact HB.out | exact Below.refl _ _ | apply below_alloc | apply pw_below_drewN | apply below_drew1)); done)); (case s1 => exact Kd.C_below HR.out (by (repeat (first | exact HB.out | exact Below.refl _ _ | apply below_alloc | apply pw_below_drewN | apply below_drew1)); done)); rintro e w' ⟨g, T, cA, cC, rfl, hst, _, hw⟩; rw [decide_eq_true hm]; replace HB := Aside0.mk (below_step (show Below w.heap.size w _ from by (repeat (first | exact HB.out | exact Below.refl _ _ | apply below_alloc | apply pw_below_drewN | apply below_drew1)); done) hw); clear hw; have HS := Aside0.mk hst; clear hst)
          | (go_at_call 85; have hq := netLoop A0 c0 l0 a1 _ _ _ _ (HS.out.keep (by repeat (first | exact Below.refl _ _ | apply below_drew1))) (Kd.C_below HR.out (by (repeat (first | exact HB.out | exact Below.refl _ _ | apply below_alloc | apply pw_below_drewN | apply below_drew1)); done)) hc0 HV.out.2 HV.out.1 hm; (with_reducible refine hq.mono ?_); clear hq; rintro e w' ⟨v1, v2, rfl, hv1, hv2, hw⟩; have HV1 := Aside0.mk (Kd.R_lower hv1 (below_size (show Below w.heap.size w _ from by (repeat (first | exact HB.out | exact Below.refl _ _ | apply below_alloc | apply pw_below_drewN | apply below_drew1)); done))); replace HB := Aside0.mk (below_step (show Below w.heap.size w _ from by (repeat (first | exact HB.out | exact Below.refl _ _ | apply below_alloc | apply pw_below_drewN | apply below_drew1)); done) hw); clear hw hv1 hv2))
        exact bodyPost_ret (v := .tuple #[v1, .bool true]) (by simp [results, Tryd.results46, go_sem]) rfl ⟨_, rfl, by first | exact HV1.out | exact Kd.R_drewN HV1.out _, by repeat (first | exact HB.out | apply below_drew1)⟩
      · rw [if_neg (by rintro ⟨_, h⟩; exact hm h)] at h
        simp only [Option.some.injEq, Prod.mk.injEq] at h
        obtain ⟨rfl, rfl⟩ := h
        clear hr0 hL
        go_enter Tryd.func46, Tryd.ntmps46
        go_wp2_with (go_at_call 62; (with_reducible refine (closingLeg A0 c0 l0 a1 _ ?s0 ?s1 hc0 hv).mono ?_); (case s0 => exact HL.out.keep (by (repeat (first | exact HB.out | exact Below.refl _ _ | apply below_alloc | apply pw_below_drewN | apply below_drew1)); done)); (case s1 => exact Kd.C_below HR.out (by (repeat (first | exact HB.out | exact Below.refl _ _ | apply below_alloc | apply pw_below_drewN | apply below_drew1)); done)); rintro e w' ⟨g, T, cA, cC, rfl, hst, _, hw⟩; rw [decide_eq_false hm]; replace HB := Aside0.mk (below_step (show Below w.heap.size w _ from by (repeat (first | exact HB.out | exact Below.refl _ _ | apply below_alloc | apply pw_below_drewN | apply below_drew1)); done) hw); clear hw hst)
        exact bodyPost_ret (v := .tuple #[.slice none 0 0, .bool false]) (by simp [results, Tryd.results46, go_sem]) rfl ⟨_, rfl, Kd.R_nil _ _ _ _ _, by repeat (first | exact HB.out | apply below_drew1)⟩
  · rw [if_neg hb] at h
    cases h
end Go.Proofs.YtiooiefjcbooeaaDoor.A
