/- The row of the law FnExactLoopLength: whatever the input, it returns true; its arguments read as they did. No conditions. -/
import Derived.Deep.Slices
import Derived.Deep.Fields
import Derived.ChangeSame
import Derived.SizedLaws
import Derived.Test.YtiooiefjcbooeaaDoorKFnExactLoopLengthVMore
import Derived.Test.YtiooiefjcbooeaaDoorCards
import Derived.Test.YtiooiefjcbooeaaDoorTie
import Derived.OpenVars
import Derived.ChangeVars
import Derived.SevenTiedAt
import Derived.Stop.Joined
import Derived.LaidMore
import Derived.Test.YtiooiefjcbooeaaDoorRows
import Derived.WalkKit
import Derived.ProofKit
import Derived.OpenShut
import Derived.ShutString
import Derived.ChangeOld
import Derived.Below
import Derived.Test.YtiooiefjcbooeaaDoorKFnExactLoopLength0
import Derived.Test.YtiooiefjcbooeaaDoorKFnExactLoopLength1
import Derived.Test.YtiooiefjcbooeaaDoorKFnExactLoopLength2
import Derived.Test.YtiooiefjcbooeaaDoorKFnExactLoopLength3
import Derived.Test.YtiooiefjcbooeaaDoorKFnExactLoopLengthU1
import Derived.Test.YtiooiefjcbooeaaDoorKFnExactLoopLengthU2
/- The walk of the search for a way (over the function (*loop.example/g00933/impl.network).loop$1). -/
namespace Go.Proofs.YtiooiefjcbooeaaDoor.Net
open Go Go.Maps Go.WideElems Go.ChangeShapes Go.RowKit Go.Proofs.YtiooiefjcbooeaaDoorW.PrintWords Go.Proofs.YtiooiefjcbooeaaDoorW.PrintLast Go.Proofs.YtiooiefjcbooeaaDoorW.PrintMore Go.Proofs.YtiooiefjcbooeaaDoor.A Go.Proofs.YtiooiefjcbooeaaDoor.Plain
open Go.Proofs.YtiooiefjcbooeaaDoor.Tree (verts legs W)
open Go.Proofs.YtiooiefjcbooeaaDoor.Grow (Q)
set_option linter.unusedVariables false
set_option linter.unusedSimpArgs false
set_option maxHeartbeats 4000000 in
set_option maxRecDepth 100000 in
theorem pathTree (A : Option Addr) (c : Nat) (ls : L) (p0 : Addr) (use : Int → Bool) (r dst : Int) (w : World) (hr0 : Kd.C k56 w A ls.length ls) (hc : ls.length ≤ c) (hn : ls.length ≤ 12) (hg : ∀ x ∈ ls, Good x) (hr : 0 ≤ r ∧ r < 8) (hd : 0 ≤ dst ∧ dst < 8)
    (HU : ∀ (i : Nat) (W : World), i < ls.length → Below w.heap.size w W → Calls Tryd.prog 107 #[.int .i64 (i : Int), .pointer (some p0)] W fun e W' => e = .returned (.bool (use i)) ∧ W' = W) (R : Q) (hR : Bfs.run (ends ls) use r ls.length 9 0 [] = R) :
    Calls Tryd.prog 93 #[.slice A ls.length c, .func (Fn.func 107) #[] #[.pointer (some p0)], .int .i64 r, .int .i64 dst] w (PathPost (ends ls) r dst R w) := by
  have HR := Aside0.mk hr0
  have HG := Aside0.mk hg
  have HU' := Aside0.mk HU
  have HB := Aside0.mk (Below.refl w.heap.size w)
  obtain ⟨w1, hrun, hmap, hbel, hsz⟩ := MapAt.new w r hr.1 (by omega)
  have hmk := run_makeMap (P := Tryd.prog) 105 w
  have HM := Aside0.mk hmap
  have HB1 := Aside0.mk hbel
  have HI := Aside0.mk (show OutInv ls use r R 0 [] from ⟨Bfs.Ok.nil _ _ _ _, by simp, 9, hR, by omega⟩)
  clear hr0 hg HU hmap hbel hR
  go_enter Tryd.func93, Tryd.ntmps93
  go_wp2
  have HO := Aside0.mk (R_lits [r] w1 w.heap.size (fun b => b ≠ w.heap.size) (by omega) (by omega) (by simp))
  replace HM := Aside0.mk (HM.out.below (below_alloc (Below.refl w1.heap.size w1) (Obj.cells #[Value.int IntKind.i64 r] 3)))
  replace HB1 := Aside0.mk (below_alloc HB1.out (Obj.cells #[Value.int IntKind.i64 r] 3))
  rw [show ([r].map (Value.int .i64)).toArray = #[Value.int IntKind.i64 r] from rfl] at HO
  clear hmk hrun hsz HB
  go_loopw [12, 13] (fun v12 v13 w' => ∃ (k : Nat) (q : Q), v13 = .int .i64 k ∧ Aside0 (OutInv ls use r R k q) ∧ Aside0 (Kd.R (Kd.int .i64) 3 w' w.heap.size (fun b => b ≠ w.heap.size) v12 (Bfs.queue r q)) ∧ Aside0 (MapAt w' w.heap.size (q.length + 1) (bef r q)) ∧ Aside0 (Below w.heap.size w w')) (fun _ v13 _ => 9 - (intOf v13).toNat)
  case atStart => exact ⟨0, [], rfl, HI, HO, HM, HB1⟩
  case round =>
    obtain ⟨k, q, rfl, HI2, HO2, HM2, HB⟩ := hrel
    clear HI HO HM HB1
    obtain ⟨qA, qC, eq_⟩ := Kd.R_slice HO2.out
    subst eq_
    have HQL := Aside0.mk (Bfs.queue_len r q)
    have HQ7 := Aside0.mk (HI2.out.1.len (ends ls) use r hr (Good.range HG.out))
    by_cases hk : k < (Bfs.queue r q).length
    · have hkI : (k : Int) < ((Bfs.queue r q).length : Int) := by omega
      have HK := Aside0.mk hk
      obtain ⟨a, hqa⟩ : ∃ a, a = (Bfs.queue r q).getD k 0 := ⟨_, rfl⟩
      have HQA := Aside0.mk hqa
      have HAV : Aside0 (a ∈ verts r q) := ⟨by
        rw [hqa, ← Bfs.mem_queue, List.getD_eq_getElem?_getD, List.getElem?_eq_getElem hk]
        exact List.getElem_mem hk⟩
      have HA8 : Aside0 (0 ≤ a ∧ a < 8) := ⟨okRange HI2.out.1 hr (Good.range HG.out) a HAV.out⟩
      have HIn := Aside0.mk (show InInv ls use r a q 0 q from ⟨HI2.out.1, Bfs.Ext.refl q, rfl⟩)
      clear hk hqa
      go_wp2
      go_loopw [12, 38] (fun v12 v38 w' => ∃ (i : Nat) (p : Q), v38 = .int .i64 i ∧ i ≤ ls.length ∧ Aside0 (InInv ls use r a q i p) ∧ Aside0 (Kd.R (Kd.int .i64) 3 w' w.heap.size (fun b => b ≠ w.heap.size) v12 (Bfs.queue r p)) ∧ Aside0 (MapAt w' w.heap.size (p.length + 1) (bef r p)) ∧ Aside0 (Below w.heap.size w w')) (fun _ v38 _ => ls.length - (intOf v38).toNat)
      case atStart => exact ⟨0, q, rfl, Nat.zero_le _, HIn, HO2, HM2, HB⟩
      case round =>
        obtain ⟨i, p, rfl, hi, HJ, HO, HM, HB2⟩ := hrel
        clear HIn HO2 HM2 HB
        have HB := HB2
        clear HB2
        obtain ⟨qA2, qC2, eq_⟩ := Kd.R_slice HO.out
        subst eq_
        by_cases hlt : i < ls.length
        · obtain ⟨_, e2, h0, h1, h2, h3, h4⟩ := at_T56 HR.out (i : Int) (by omega) (by omega)
          cases e2
          have HX : Aside0 (Good (leg ls (i : Int))) := ⟨leg_good HG.out i hlt⟩
          have HE := Aside0.mk (show ends ls i = ((leg ls i).f0, (leg ls i).f1) from rfl)
          rw [Int.toNat_natCast, show rd_T56 ls (i : Int) = leg ls i from rfl] at h0 h1 h2 h3 h4
          have qk : ∃ ad, qA2 = some ad ∧ wr.cell? (ad.add k) = some (.int .i64 a) := by
            obtain ⟨t, ht⟩ := HJ.out.2.1.queue r
            obtain ⟨ad, h1, h2⟩ := Kd.at_int (Kd.R_reads' HO.out).2.2 (k : Int) (by omega) (by rw [ht, List.length_append]; have := HK.out; omega)
            refine ⟨ad, h1, ?_⟩
            rw [Int.toNat_natCast] at h2
            rw [h2]
            show some (Value.int .i64 ((Bfs.queue r p).getD (k : Int).toNat 0)) = _
            rw [Int.toNat_natCast, HQA.out, ← HJ.out.2.1.queue_getD r HK.out]
          obtain ⟨qad, eqa, qk⟩ := qk
          subst eqa
          have hkI2 : (k : Int) < ((Bfs.queue r p).length : Int) := by
            obtain ⟨t, ht⟩ := HJ.out.2.1.queue r
            rw [ht, List.length_append]; have := HK.out; omega
          have hkI0 : (0 : Int) ≤ (k : Int) := by omega
          generalize leg ls (i : Int) = x at *
          replace h0 := Sine.keepc h0 HB.out
          replace h1 := Sine.keepc h1 HB.out
          replace h2 := Sine.keepc h2 HB.out
          replace h3 := Sine.keepc h3 HB.out
          replace h4 := Sine.keepc h4 HB.out
          go_wp2
          have B1 := below_alloc (Below.refl wr.heap.size wr) (Obj.cells #[Value.int IntKind.i64 x.f0, Value.int IntKind.i64 x.f1, Value.int IntKind.i64 x.f2, Value.int IntKind.i64 x.f3, Value.int IntKind.i64 x.f4] 56)
          replace HB := Aside0.mk (below_step HB.out B1)
          replace HM := Aside0.mk (HM.out.below B1)
          replace HO := Aside0.mk (Kd.R_alloc HO.out (Obj.cells #[Value.int IntKind.i64 x.f0, Value.int IntKind.i64 x.f1, Value.int IntKind.i64 x.f2, Value.int IntKind.i64 x.f3, Value.int IntKind.i64 x.f4] 56))
          replace qk := Sine.keepc qk B1
          clear B1 h0 h1 h2 h3 h4
          have h0 : (wr.alloc (Obj.cells #[Value.int IntKind.i64 x.f0, Value.int IntKind.i64 x.f1, Value.int IntKind.i64 x.f2, Value.int IntKind.i64 x.f3, Value.int IntKind.i64 x.f4] 56)).cell? ⟨wr.heap.size, 0, none⟩ = some (.int .i64 x.f0) := by go_simp
          have h1 : (wr.alloc (Obj.cells #[Value.int IntKind.i64 x.f0, Value.int IntKind.i64 x.f1, Value.int IntKind.i64 x.f2, Value.int IntKind.i64 x.f3, Value.int IntKind.i64 x.f4] 56)).cell? ⟨wr.heap.size, 1, none⟩ = some (.int .i64 x.f1) := by go_simp
          generalize wr.alloc (Obj.cells #[Value.int IntKind.i64 x.f0, Value.int IntKind.i64 x.f1, Value.int IntKind.i64 x.f2, Value.int IntKind.i64 x.f3, Value.int IntKind.i64 x.f4] 56) = W1 at *
          generalize wr.heap.size = X at *
          have w0 : wrap64 (x.f0 + x.f1) = x.f0 + x.f1 := by have := HX.out; have a1 := this.1; have a2 := this.2.1; unfold wrap64; omega
          have w2 : wrap64 (x.f0 + x.f1 - a) = x.f0 + x.f1 - a := by have := HX.out; have a1 := this.1; have a2 := this.2.1; have a3 := HA8.out; unfold wrap64; omega
          have na8 := HA8.out
          have nx0 := HX.out.1
          have nx1 := HX.out.2.1
          by_cases c1 : x.f0 = a
          · have v0 : wrap64 (a + x.f1) = a + x.f1 := by rw [← c1]; exact w0
            have v1 : wrap64 (a + x.f1 - a) = x.f1 := by unfold wrap64; omega
            have v2 : a + x.f1 - a = x.f1 := by omega
            go_quiet (fail)
            go_wp2
            have BD := pw_below_drewN (Below.refl W1.heap.size W1) nq
            replace HB := Aside0.mk (below_step HB.out BD)
            replace HM := Aside0.mk (HM.out.below BD)
            replace HO := Aside0.mk (Kd.R_drewN HO.out nq)
            replace h0 := Sine.keepc h0 BD
            replace h1 := Sine.keepc h1 BD
            replace qk := Sine.keepc qk BD
            clear BD
            generalize W1.drewN nq = W2 at *
            cases hu : use (i : Int)
            · have HUi := fun W hb => HU'.out i W hlt hb
              rw [hu] at HUi
              replace HUi := Aside0.mk HUi
              go_quiet (first | (go_at_call 107; refine (HUi.out _ (by (repeat (first | exact HB.out | exact Below.refl _ _ | apply below_alloc | apply pw_below_drewN | apply below_drew1)); done)).mono ?_; rintro e w' ⟨rfl, rfl⟩; exact ⟨rfl, _, rfl⟩))
              go_wp2
              exact ⟨⟨i + 1, p, by go_num, by omega, ⟨HJ.out.skip hlt (Or.inr hu)⟩, ⟨Kd.R_drewN HO.out _⟩, ⟨HM.out.below (pw_below_drewN (Below.refl _ _) _)⟩, ⟨pw_below_drewN HB.out _⟩⟩, by simp [intOf]; omega⟩
            · have HUi := fun W hb => HU'.out i W hlt hb
              rw [hu] at HUi
              replace HUi := Aside0.mk HUi
              go_quiet (first | (go_at_call 107; refine (HUi.out _ (by (repeat (first | exact HB.out | exact Below.refl _ _ | apply below_alloc | apply pw_below_drewN | apply below_drew1)); done)).mono ?_; rintro e w' ⟨rfl, rfl⟩; exact ⟨rfl, _, rfl⟩))
              have BD := pw_below_drewN (Below.refl W2.heap.size W2) nq
              replace HB := Aside0.mk (below_step HB.out BD)
              replace HM := Aside0.mk (HM.out.below BD)
              replace HO := Aside0.mk (Kd.R_drewN HO.out nq)
              replace h0 := Sine.keepc h0 BD
              replace h1 := Sine.keepc h1 BD
              replace qk := Sine.keepc qk BD
              clear BD
              generalize W2.drewN nq = W3 at *
              have hlk := (HM.out.look x.f1 (by omega) (by omega)).1
              have hmem := bef_some (r := r) (q := p) x.f1
              have HSTEP := Aside0.mk (HJ.out.next hlt HAV.out)
              have hot : Bfs.other (ends ls) i a = x.f1 := by unfold Bfs.other; rw [HE.out]; simp only; omega
              have hnsk : ¬ (((ends ls i).1 ≠ a ∧ (ends ls i).2 ≠ a) ∨ use i = false) := by
                rw [HE.out, hu]
                rintro (⟨d1, d2⟩ | d1)
                · first | exact d1 c1 | exact d2 c2
                · cases d1
              by_cases hin : x.f1 ∈ verts r p
              · rw [decide_eq_true hin] at hmem
                have hlook : Bfs.look (ends ls) use r a p i = p := by unfold Bfs.look; rw [if_neg hnsk, hot, if_pos hin]
                rw [hmem] at hlk
                rw [hlook] at HSTEP
                clear hmem hot hnsk hlook hin
                go_wp2
                exact ⟨⟨i + 1, p, by go_num, by omega, HSTEP, HO, HM, HB⟩, by simp [intOf]; omega⟩
              · rw [decide_eq_false hin] at hmem
                have hlook : Bfs.look (ends ls) use r a p i = ((i : Int), a, x.f1) :: p := by unfold Bfs.look; rw [if_neg hnsk, hot, if_neg hin]
                rw [hmem] at hlk
                rw [hlook] at HSTEP
                have HP7 := Aside0.mk (HJ.out.1.len (ends ls) use r hr (Good.range HG.out))
                obtain ⟨W4, hst, hm4, hg4⟩ := HM.out.store (by have := HP7.out; omega) x.f1 (i : Int) (by omega) (by omega) (by omega) (by omega)
                have HM4 := Aside0.mk hm4
                have HG4 := Aside0.mk hg4
                have HNE := Aside0.mk (show x.f1 ≠ r from fun e => hin (by rw [e]; simp [verts]))
                have HBM : Aside0 (bef r (((i : Int), a, x.f1) :: p) = fun y => if y = x.f1 then some (i : Int) else bef r p y) := ⟨by funext y; exact bef_cons HNE.out y⟩
                have HQQ : Aside0 (Bfs.queue r (((i : Int), a, x.f1) :: p) = Bfs.queue r p ++ [x.f1]) := ⟨by simp [Bfs.queue]⟩
                have HMB : Aside0 (w.heap.size < W3.heap.size) := ⟨HM.out.lt⟩
                have HO4 : Aside0 (Kd.R (Kd.int .i64) 3 W4 w.heap.size (fun b => b ≠ w.heap.size) (.slice (some qad) (Bfs.queue r p).length qC2) (Bfs.queue r p)) := ⟨R_blocks HO.out hg4.size (fun b hb hl => hg4.block b hl (fun e => by injection e with e; exact hb e))⟩
                have HB4 : Aside0 (Below w.heap.size w W4) := ⟨HB.out.grown hg4 (by have := HMB.out; omega) (fun b e => by injection e with e; omega)⟩
                clear hmem hot hnsk hlook hin hm4 hg4
                go_wp2_with ((with_reducible refine gate_builtin (b := .append) (xs := #[.tmp 86, .tmp 88]) rfl ?_); at_builtin; refine Kd.R_append (Kd.int .i64) (w0 := w) w.heap.size rfl (.tmp 86) (.tmp 88) 38 3 (.int .i64 0) 8 rfl Tryd.underlying38 info3 rfl (by decide) (by omega) (.slice (some qad) (Bfs.queue r p).length qC2) (Bfs.queue r p) x.f1 [.int .i64 x.f1] (fun b => b ≠ w.heap.size) (fun _ => False) rfl rfl ?aP (fun _ hk => hk.elim) ?aF ?aO ?aB ?aS ?aL ?_; (case aP => exact rfl); (case aF => intro b hb; have := HM4.out.lt; omega); (case aO => exact HO4.out); (case aB => exact HB4.out); (case aS => have := HM4.out.lt; omega); (case aL => rw [Bfs.queue_len]; have := HP7.out; omega); intro v1 w1' ho hb hg hat; rw [← HQQ.out] at ho; have HO5 := Aside0.mk ho; have HB5 := Aside0.mk hb; have HM5 : Aside0 (MapAt w1' w.heap.size (p.length + 1 + 1) (bef r (((i : Int), a, x.f1) :: p))) := ⟨by rw [HBM.out]; exact HM4.out.kept hg (fun e => HO4.out.1 _ e.symm rfl)⟩; clear ho hb hg hat)
                exact ⟨⟨i + 1, ((i : Int), a, x.f1) :: p, by go_num, by omega, HSTEP, HO5, HM5, HB5⟩, by simp [intOf]; omega⟩
          · by_cases c2 : x.f1 = a
            · have v0 : wrap64 (x.f0 + a) = x.f0 + a := by rw [← c2]; exact w0
              have v1 : wrap64 x.f0 = x.f0 := by unfold wrap64; omega
              go_quiet (fail)
              go_wp2
              have BD := pw_below_drewN (Below.refl W1.heap.size W1) nq
              replace HB := Aside0.mk (below_step HB.out BD)
              replace HM := Aside0.mk (HM.out.below BD)
              replace HO := Aside0.mk (Kd.R_drewN HO.out nq)
              replace h0 := Sine.keepc h0 BD
              replace h1 := Sine.keepc h1 BD
              replace qk := Sine.keepc qk BD
              clear BD
              generalize W1.drewN nq = W2 at *
              cases hu : use (i : Int)
              · have HUi := fun W hb => HU'.out i W hlt hb
                rw [hu] at HUi
                replace HUi := Aside0.mk HUi
                go_quiet (first | (go_at_call 107; refine (HUi.out _ (by (repeat (first | exact HB.out | exact Below.refl _ _ | apply below_alloc | apply pw_below_drewN | apply below_drew1)); done)).mono ?_; rintro e w' ⟨rfl, rfl⟩; exact ⟨rfl, _, rfl⟩))
                go_wp2
                exact ⟨⟨i + 1, p, by go_num, by omega, ⟨HJ.out.skip hlt (Or.inr hu)⟩, ⟨Kd.R_drewN HO.out _⟩, ⟨HM.out.below (pw_below_drewN (Below.refl _ _) _)⟩, ⟨pw_below_drewN HB.out _⟩⟩, by simp [intOf]; omega⟩
              · have HUi := fun W hb => HU'.out i W hlt hb
                rw [hu] at HUi
                replace HUi := Aside0.mk HUi
                go_quiet (first | (go_at_call 107; refine (HUi.out _ (by (repeat (first | exact HB.out | exact Below.refl _ _ | apply below_alloc | apply pw_below_drewN | apply below_drew1)); done)).mono ?_; rintro e w' ⟨rfl, rfl⟩; exact ⟨rfl, _, rfl⟩))
                have BD := pw_below_drewN (Below.refl W2.heap.size W2) nq
                replace HB := Aside0.mk (below_step HB.out BD)
                replace HM := Aside0.mk (HM.out.below BD)
                replace HO := Aside0.mk (Kd.R_drewN HO.out nq)
                replace h0 := Sine.keepc h0 BD
                replace h1 := Sine.keepc h1 BD
                replace qk := Sine.keepc qk BD
                clear BD
                generalize W2.drewN nq = W3 at *
                have hlk := (HM.out.look x.f0 (by omega) (by omega)).1
                have hmem := bef_some (r := r) (q := p) x.f0
                have HSTEP := Aside0.mk (HJ.out.next hlt HAV.out)
                have hot : Bfs.other (ends ls) i a = x.f0 := by unfold Bfs.other; rw [HE.out]; simp only; omega
                have hnsk : ¬ (((ends ls i).1 ≠ a ∧ (ends ls i).2 ≠ a) ∨ use i = false) := by
                  rw [HE.out, hu]
                  rintro (⟨d1, d2⟩ | d1)
                  · first | exact d1 c1 | exact d2 c2
                  · cases d1
                by_cases hin : x.f0 ∈ verts r p
                · rw [decide_eq_true hin] at hmem
                  have hlook : Bfs.look (ends ls) use r a p i = p := by unfold Bfs.look; rw [if_neg hnsk, hot, if_pos hin]
                  rw [hmem] at hlk
                  rw [hlook] at HSTEP
                  clear hmem hot hnsk hlook hin
                  go_wp2
                  exact ⟨⟨i + 1, p, by go_num, by omega, HSTEP, HO, HM, HB⟩, by simp [intOf]; omega⟩
                · rw [decide_eq_false hin] at hmem
                  have hlook : Bfs.look (ends ls) use r a p i = ((i : Int), a, x.f0) :: p := by unfold Bfs.look; rw [if_neg hnsk, hot, if_neg hin]
                  rw [hmem] at hlk
                  rw [hlook] at HSTEP
                  have HP7 := Aside0.mk (HJ.out.1.len (ends ls) use r hr (Good.range HG.out))
                  obtain ⟨W4, hst, hm4, hg4⟩ := HM.out.store (by have := HP7.out; omega) x.f0 (i : Int) (by omega) (by omega) (by omega) (by omega)
                  have HM4 := Aside0.mk hm4
                  have HG4 := Aside0.mk hg4
                  have HNE := Aside0.mk (show x.f0 ≠ r from fun e => hin (by rw [e]; simp [verts]))
                  have HBM : Aside0 (bef r (((i : Int), a, x.f0) :: p) = fun y => if y = x.f0 then some (i : Int) else bef r p y) := ⟨by funext y; exact bef_cons HNE.out y⟩
                  have HQQ : Aside0 (Bfs.queue r (((i : Int), a, x.f0) :: p) = Bfs.queue r p ++ [x.f0]) := ⟨by simp [Bfs.queue]⟩
                  have HMB : Aside0 (w.heap.size < W3.heap.size) := ⟨HM.out.lt⟩
                  have HO4 : Aside0 (Kd.R (Kd.int .i64) 3 W4 w.heap.size (fun b => b ≠ w.heap.size) (.slice (some qad) (Bfs.queue r p).length qC2) (Bfs.queue r p)) := ⟨R_blocks HO.out hg4.size (fun b hb hl => hg4.block b hl (fun e => by injection e with e; exact hb e))⟩
                  have HB4 : Aside0 (Below w.heap.size w W4) := ⟨HB.out.grown hg4 (by have := HMB.out; omega) (fun b e => by injection e with e; omega)⟩
                  clear hmem hot hnsk hlook hin hm4 hg4
                  go_wp2_with ((with_reducible refine gate_builtin (b := .append) (xs := #[.tmp 86, .tmp 88]) rfl ?_); at_builtin; refine Kd.R_append (Kd.int .i64) (w0 := w) w.heap.size rfl (.tmp 86) (.tmp 88) 38 3 (.int .i64 0) 8 rfl Tryd.underlying38 info3 rfl (by decide) (by omega) (.slice (some qad) (Bfs.queue r p).length qC2) (Bfs.queue r p) x.f0 [.int .i64 x.f0] (fun b => b ≠ w.heap.size) (fun _ => False) rfl rfl ?aP (fun _ hk => hk.elim) ?aF ?aO ?aB ?aS ?aL ?_; (case aP => exact rfl); (case aF => intro b hb; have := HM4.out.lt; omega); (case aO => exact HO4.out); (case aB => exact HB4.out); (case aS => have := HM4.out.lt; omega); (case aL => rw [Bfs.queue_len]; have := HP7.out; omega); intro v1 w1' ho hb hg hat; rw [← HQQ.out] at ho; have HO5 := Aside0.mk ho; have HB5 := Aside0.mk hb; have HM5 : Aside0 (MapAt w1' w.heap.size (p.length + 1 + 1) (bef r (((i : Int), a, x.f0) :: p))) := ⟨by rw [HBM.out]; exact HM4.out.kept hg (fun e => HO4.out.1 _ e.symm rfl)⟩; clear ho hb hg hat)
                  exact ⟨⟨i + 1, ((i : Int), a, x.f0) :: p, by go_num, by omega, HSTEP, HO5, HM5, HB5⟩, by simp [intOf]; omega⟩
            · go_quiet (fail)
              go_wp2
              go_quiet (fail)
              go_wp2
              exact ⟨⟨i + 1, p, by go_num, by omega, ⟨HJ.out.skip hlt (Or.inl (by rw [HE.out]; exact ⟨c1, c2⟩))⟩, ⟨Kd.R_drewN HO.out _⟩, ⟨HM.out.below (pw_below_drewN (Below.refl _ _) _)⟩, ⟨pw_below_drewN HB.out _⟩⟩, by simp [intOf]; omega⟩
        · obtain rfl : i = ls.length := by omega
          have HN := Aside0.mk (HI2.out.next HJ.out HK.out HQA.out HQ7.out)
          have ek : wrap64 ((k : Int) + 1) = (k : Int) + 1 := by have := HK.out; have := HQL.out; have := HQ7.out; unfold wrap64; omega
          go_wp2
          go_roundw
          case rel => exact ⟨k + 1, p, by go_num, HN, HO, HM, HB⟩
          case measure =>
            try simp only [ek]
            clear ek
            have h1 := HK.out
            have h2 := HQL.out
            have h3 := HQ7.out
            simp [intOf]; omega
    · have hkI : ¬ (k : Int) < ((Bfs.queue r q).length : Int) := by omega
      have hRq := HI2.out.stop hk
      subst hRq
      have hlk := (HM2.out.look dst (by omega) (by omega)).1
      have hmem := bef_some (r := r) (q := R) dst
      by_cases hin : dst ∈ verts r R
      · rw [decide_eq_true hin] at hmem
        rw [hmem] at hlk
        clear hmem
        go_wp2
        have HOk := Aside0.mk HI2.out.1
        have HD7 := Aside0.mk (back_len HI2.out.1 hin)
        have HIN := Aside0.mk hin
        clear hlk hin HO2
        have HV1 : Aside0 (Kd.R (Kd.int .i64) 3 ((wr.alloc (Obj.cells #[Value.int IntKind.i64 dst] 3)).alloc (Obj.cells #[] 3)) w.heap.size (fun b => b ≠ w.heap.size ∧ some b ≠ (Value.slice (some ⟨wr.heap.size + 1, 0, none⟩) 0 0).ownBlock) (.slice (some ⟨wr.heap.size, 0, none⟩) 1 1) [dst]) := ⟨Kd.R_alloc (R_lits [dst] wr w.heap.size (fun b => b ≠ w.heap.size ∧ some b ≠ (Value.slice (some ⟨wr.heap.size + 1, 0, none⟩) 0 0).ownBlock) (by have := HM2.out.lt; omega) ⟨by have := HM2.out.lt; omega, by simp [Value.ownBlock]⟩ (by simp)) _⟩
        have HV2 : Aside0 (Kd.R (Kd.int .i64) 3 ((wr.alloc (Obj.cells #[Value.int IntKind.i64 dst] 3)).alloc (Obj.cells #[] 3)) w.heap.size (fun b => b ≠ w.heap.size ∧ some b ≠ (Value.slice (some ⟨wr.heap.size, 0, none⟩) 1 1).ownBlock) (.slice (some ⟨wr.heap.size + 1, 0, none⟩) 0 0) []) := ⟨by
          have h := R_lits [] (wr.alloc (Obj.cells #[Value.int IntKind.i64 dst] 3)) w.heap.size (fun b => b ≠ w.heap.size ∧ some b ≠ (Value.slice (some ⟨wr.heap.size, 0, none⟩) 1 1).ownBlock) (by have := HM2.out.lt; simp; omega) ⟨by have := HM2.out.lt; simp; omega, by simp [Value.ownBlock]⟩ (by simp)
          simpa using h⟩
        have HM3 := Aside0.mk ((HM2.out.below (below_alloc (Below.refl wr.heap.size wr) (Obj.cells #[Value.int IntKind.i64 dst] 3))).below (below_alloc (Below.refl _ _) (Obj.cells #[] 3)))
        have HB3 := Aside0.mk (below_alloc (below_alloc HB.out (Obj.cells #[Value.int IntKind.i64 dst] 3)) (Obj.cells #[] 3))
        clear HM2 HB
        go_loopg [21, 22, 23] (Bfs.back R dst).length (fun kq v21 v22 v23 w' => ∃ (cur : Int) (st lst : List Int), v23 = .int .i64 cur ∧ Aside0 (BackInv (ends ls) r dst R cur st lst ∧ (Bfs.back R cur).length = kq) ∧ Aside0 (Kd.R (Kd.int .i64) 3 w' w.heap.size (fun b => b ≠ w.heap.size ∧ some b ≠ v22.ownBlock) v21 st) ∧ Aside0 (Kd.R (Kd.int .i64) 3 w' w.heap.size (fun b => b ≠ w.heap.size ∧ some b ≠ v21.ownBlock) v22 lst) ∧ Aside0 (MapAt w' w.heap.size (R.length + 1) (bef r R)) ∧ Aside0 (Below w.heap.size w w'))
        case atStart => exact ⟨dst, [dst], [], rfl, ⟨BackInv.start HIN.out, rfl⟩, HV1, HV2, HM3, HB3⟩
        case round =>
          obtain ⟨cur, st, lst, rfl, HBI, HO1, HO2, HM, HB⟩ := hrel
          clear HV1 HV2 HM3 HB3
          obtain ⟨sA, sC, es_⟩ := Kd.R_slice HO1.out
          obtain ⟨lA, lC, el_⟩ := Kd.R_slice HO2.out
          subst es_
          subst el_
          have HLN := Aside0.mk (HBI.out.1.len HOk.out HIN.out)
          have HR7 := Aside0.mk (HOk.out.len (ends ls) use r hr (Good.range HG.out))
          have HC8 := Aside0.mk (okRange HOk.out hr (Good.range HG.out) cur HBI.out.1.1)
          by_cases hcr : cur = r
          · subst hcr
            have HFIN : Aside0 (lst = Bfs.back R dst ∧ st = trail (ends ls) dst (Bfs.back R dst)) := ⟨by
              obtain ⟨⟨_, f2, f3⟩, _⟩ := HBI.out
              rw [back_root HOk.out] at f2 f3
              exact ⟨by simpa using f2, by simpa [trail] using f3⟩⟩
            obtain ⟨K1, hK1⟩ := rev_ev st (by have := HLN.out; have := HR7.out; omega)
            obtain ⟨K2, hK2⟩ := rev_ev lst (by have := HLN.out; have := HR7.out; omega)
            have HK1 := Aside0.mk (hK1 K1 (Nat.le_refl _))
            have HK2 := Aside0.mk (hK2 K2 (Nat.le_refl _))
            have HA1 : Aside0 (Kd.R (Kd.int .i64) 3 wr w.heap.size (fun b => some b = (Value.slice sA st.length sC).ownBlock ∧ some b ≠ (Value.slice lA lst.length lC).ownBlock) (.slice sA st.length sC) st) := ⟨R_own_ok HO1.out (fun b hb _ => ⟨hb.symm, (HO1.out.1 b hb).2⟩)⟩
            clear hK1 hK2
            go_wp2_with (first
              | (go_at_call 113; (with_reducible refine (slices_Reverse_int_int.calls K1 _ _ _ _ w _ HB.out HA1.out HK1.out).mono ?_); rintro e w' ⟨rfl, hq1, hq2, hq3⟩; have HP1 := Aside0.mk hq1; have HP2 : Aside0 (Kd.R (Kd.int .i64) 3 w' w.heap.size (fun b => b ≠ w.heap.size ∧ some b ≠ (Value.slice sA st.length sC).ownBlock) (.slice lA lst.length lC) lst) := ⟨R_blocks HO2.out hq3.1 (fun b hb hl => hq3.2 b hl (fun hs => hb.2 hs.1))⟩; have HB6 := Aside0.mk hq2; have HA2 : Aside0 (Kd.R (Kd.int .i64) 3 w' w.heap.size (fun b => some b = (Value.slice lA lst.length lC).ownBlock ∧ some b ≠ (Value.slice sA st.length sC).ownBlock) (.slice lA lst.length lC) lst) := ⟨R_own_ok HP2.out (fun b hb _ => ⟨hb.symm, (HP2.out.1 b hb).2⟩)⟩; clear hq1 hq2 hq3)
              | (go_at_call 113; (with_reducible refine (slices_Reverse_int_int.calls K2 _ _ _ _ w _ HB6.out HA2.out HK2.out).mono ?_); rintro e w' ⟨rfl, hq1, hq2, hq3⟩; have HP3 := Aside0.mk hq1; have HB7 := Aside0.mk hq2; have HK3 := Aside0.mk hq3; clear hq1 hq2 hq3))
            have HF1 : Aside0 (Kd.R (Kd.int .i64) 3 w' w.heap.size (fun b => some b ≠ (Value.slice lA lst.length lC).ownBlock) (.slice sA st.length sC) st.reverse) := ⟨R_blocks (R_own_ok HP1.out (ok' := fun b => some b ≠ (Value.slice lA lst.length lC).ownBlock) (fun b hb _ => (HO1.out.1 b hb).2)) HK3.out.1 (fun b hb hl => HK3.out.2 b hl (fun hs => hb hs.1))⟩
            have HF2 : Aside0 (Kd.R (Kd.int .i64) 3 w' w.heap.size (fun b => some b ≠ (Value.slice sA st.length sC).ownBlock) (.slice lA lst.length lC) lst.reverse) := ⟨R_own_ok HP3.out (fun b hb _ => (HP2.out.1 b hb).2)⟩
            exact bodyPost_ret (v := .tuple #[.slice sA st.length sC, .slice lA lst.length lC, .bool true]) (by simp [results, Tryd.results93, go_sem]) rfl (by unfold PathPost; rw [if_pos HIN.out]; exact ⟨_, _, rfl, by rw [← HFIN.out.2]; exact HF1.out, by rw [← HFIN.out.1]; exact HF2.out, HB7.out⟩)
          · obtain ⟨i, u, hb1, hb2, hb3, hb4, hb5, hb6⟩ := back_step HOk.out HBI.out.1.1 hcr
            have hlk := (HM.out.look cur HC8.out.1 (by have := HC8.out.2; omega)).2
            rw [hb1] at hlk
            have hlk2 : (some i).getD 0 = i := rfl
            obtain ⟨ii, rfl⟩ := Int.eq_ofNat_of_zero_le hb5
            obtain ⟨_, e2, h0, h1, h2, h3, h4⟩ := at_T56 HR.out (ii : Int) (by omega) (by omega)
            cases e2
            rw [Int.toNat_natCast, show rd_T56 ls (ii : Int) = leg ls ii from rfl] at h0 h1
            have H0 := Aside0.mk h0
            have H1 := Aside0.mk h1
            have hgx := leg_good HG.out ii (by omega)
            have hu8 := okRange HOk.out hr (Good.range HG.out) u hb3
            have hE : (leg ls ii).f0 + (leg ls ii).f1 - cur = u := hb4
            have HNX : Aside0 (BackInv (ends ls) r dst R u (st ++ [u]) (lst ++ [(ii : Int)])) := ⟨HBI.out.1.next hb2 hb3 hb4⟩
            have HKQ : Aside0 ((Bfs.back R u).length + 1 = gk) := ⟨by have := HBI.out.2; rw [hb2] at this; simpa using this⟩
            have v0 : wrap64 ((leg ls ii).f0 + (leg ls ii).f1) = (leg ls ii).f0 + (leg ls ii).f1 := by have a1 := hgx.1; have a2 := hgx.2.1; unfold wrap64; omega
            have v1 : wrap64 ((leg ls ii).f0 + (leg ls ii).f1 - cur) = u := by rw [hE]; unfold wrap64; omega
            have HMI := Aside0.mk (show 0 ≤ (ii : Int) ∧ (ii : Int) < ls.length from ⟨hb5, hb6⟩)
            generalize leg ls (ii : Int) = x at *
            clear hb1 hb2 hb3 hb4 hgx hu8 hE h0 h1 h2 h3 h4
            obtain ⟨g1, eg1⟩ : ∃ g1, gk = g1 + 1 := ⟨(Bfs.back R u).length, HKQ.out.symm⟩
            subst eg1
            go_wp2_with ((with_reducible refine gate_builtin (b := .append) (xs := #[.tmp 109, .tmp 111]) rfl ?_); at_builtin; refine Kd.R_append (Kd.int .i64) (w0 := w) w.heap.size rfl (.tmp 109) (.tmp 111) 38 3 (.int .i64 0) 8 rfl Tryd.underlying38 info3 rfl (by decide) (by omega) (.slice lA lst.length lC) lst (ii : Int) [.int .i64 (ii : Int)] (fun b => b ≠ w.heap.size ∧ some b ≠ (Value.slice sA st.length sC).ownBlock) (fun _ => False) rfl rfl ?aP (fun _ hk => hk.elim) ?aF ?aO ?aB ?aS ?aL ?_; (case aP => exact rfl); (case aF => intro b hb; exact ⟨by have := HM.out.lt; omega, Kd.fresh' (Kd.R_lt HO1.out) b hb⟩); (case aO => exact HO2.out); (case aB => exact HB.out); (case aS => have := HM.out.lt; omega); (case aL => have := HLN.out; have := HR7.out; omega)
                         intro v1_ w1_ ho hb hg hat
                         have HP1 := Aside0.mk (Kd.R_after (ok := fun b => b ≠ w.heap.size) HO1.out hg hat)
                         have HP2 := Aside0.mk ho
                         have HB6 := Aside0.mk hb
                         have HM6 := Aside0.mk (HM.out.kept hg (fun e => (HO2.out.1 _ e.symm).1 rfl))
                         clear ho hb hg hat)
            have h0 := Sine.keepc H0.out HB6.out
            have h1 := Sine.keepc H1.out HB6.out
            have hm0 := HMI.out.1
            have hm1 := HMI.out.2
            go_quiet (fail)
            go_wp2_with ((with_reducible refine gate_builtin (b := .append) (xs := #[.tmp 126, .tmp 128]) rfl ?_); at_builtin; refine Kd.R_append (Kd.int .i64) (w0 := w) w.heap.size rfl (.tmp 126) (.tmp 128) 38 3 (.int .i64 0) 8 rfl Tryd.underlying38 info3 rfl (by decide) (by omega) (.slice sA st.length sC) st u [.int .i64 u] (fun b => b ≠ w.heap.size ∧ some b ≠ v1_.ownBlock) (fun _ => False) rfl rfl ?aP (fun _ hk => hk.elim) ?aF ?aO ?aB ?aS ?aL ?_; (case aP => exact rfl); (case aF => intro b hb; simp only [World.heap_drewN] at hb; exact ⟨by have := HM6.out.lt; omega, Kd.fresh' (Kd.R_lt HP2.out) b hb⟩); (case aO => exact Kd.R_drewN HP1.out _); (case aB => exact pw_below_drewN HB6.out _); (case aS => simp only [World.heap_drewN]; have := HM6.out.lt; omega); (case aL => have := HLN.out; have := HR7.out; omega)
                         intro v2_ w2_ ho hb hg hat
                         have HQ2 := Aside0.mk (Kd.R_after (ok := fun b => b ≠ w.heap.size) (Kd.R_drewN HP2.out _) hg hat)
                         have HQ1 := Aside0.mk ho
                         have HB8 := Aside0.mk hb
                         have HM8 := Aside0.mk ((HM6.out.below (pw_below_drewN (Below.refl _ _) _)).kept hg (fun e => (HP1.out.1 _ e.symm).1 rfl))
                         clear ho hb hg hat)
            go_roundg g1
            case measure => omega
            case rel => exact ⟨u, st ++ [u], lst ++ [(ii : Int)], by first | rfl | simp, ⟨HNX.out, by have := HKQ.out; omega⟩, HQ1, HQ2, HM8, HB8⟩
      · rw [decide_eq_false hin] at hmem
        rw [hmem] at hlk
        clear hmem
        go_wp2
        exact bodyPost_ret (v := .tuple #[.slice none 0 0, .slice none 0 0, .bool false]) (by simp [results, Tryd.results93, go_sem]) rfl (by unfold PathPost; rw [if_neg hin]; exact ⟨rfl, HB.out⟩)
end Go.Proofs.YtiooiefjcbooeaaDoor.Net

/- The misclosure of a loop is the error of its closing leg, in plain. -/
namespace Go.Proofs.YtiooiefjcbooeaaDoor.Net
open Go.RowKit Go.Proofs.YtiooiefjcbooeaaDoorW.PrintWords Go.Proofs.YtiooiefjcbooeaaDoorW.PrintLast Go.Proofs.YtiooiefjcbooeaaDoorW.PrintMore Go.Proofs.YtiooiefjcbooeaaDoor.A Go.Proofs.YtiooiefjcbooeaaDoor.Plain
open Go.Proofs.YtiooiefjcbooeaaDoor.Tree (verts legs W)
open Go.Proofs.YtiooiefjcbooeaaDoor.Grow (Q sweep grow)
set_option linter.unusedVariables false
set_option linter.unusedSimpArgs false
theorem loopL_range {ls : L} (hg : ∀ x ∈ ls, Good x) {i : Int} (hi : i ∈ closeL ls) : ∀ j ∈ loopL ls i, 0 ≤ j ∧ j < (ls.length : Int) := by
  obtain ⟨h0, h1, h2, h3, _⟩ := mem_closeL hg hi
  intro j hj
  simp only [loopL, List.mem_append, List.mem_singleton] at hj
  rcases hj with hj | rfl
  · have := (Tree.walk_W (RR_ok hg).1.tr h3 h2).legs_mem (RR_ok hg).1.tr j hj
    have := (RR_ok hg).1.legs_ends (ends ls) this
    exact ⟨this.2.2.2.1, this.2.2.2.2⟩
  · exact ⟨h0, h1⟩
theorem loopL_len {ls : L} (hg : ∀ x ∈ ls, Good x) (i : Int) : (loopL ls i).length ≤ 8 := by
  have := Tree.W_len (RR ls) (ends ls i).2 (ends ls i).1
  have hl := RR_len hg
  simp only [loopL, List.length_append, List.length_singleton]
  omega
end Go.Proofs.YtiooiefjcbooeaaDoor.Net

/- The loop of a closing leg, walked: its stations and its legs. -/
namespace Go.Proofs.YtiooiefjcbooeaaDoor.Net
open Go Go.RowKit Go.Proofs.YtiooiefjcbooeaaDoorW.PrintWords Go.Proofs.YtiooiefjcbooeaaDoorW.PrintLast Go.Proofs.YtiooiefjcbooeaaDoorW.PrintMore Go.Proofs.YtiooiefjcbooeaaDoor.A Go.Proofs.YtiooiefjcbooeaaDoor.Plain
open Go.Proofs.YtiooiefjcbooeaaDoor.Tree (verts legs W)
open Go.Proofs.YtiooiefjcbooeaaDoor.Grow (Q)
set_option linter.unusedVariables false
set_option linter.unusedSimpArgs false
theorem loopUse {n T g : Nat} {P : Nat → Bool} {X : Nat → S34} {B : Nat → Bool} {cl : Value} (i : Nat) (p : Addr) (w : World) (hp : w.cell? p = some (.pointer (some ⟨g, 0, none⟩))) (hS : St n T g P X B cl w) (hi : i < n) :
    Calls Tryd.prog 107 #[.int .i64 (i : Int), .pointer (some p)] w fun e w' => e = .returned (.bool (B i)) ∧ w' = w := by
  have tc := hS.tc
  have tb := hS.tb i hi
  have k0 : (0 : Int) ≤ (i : Int) := by omega
  have k1 : (i : Int) < (n : Int) := by omega
  clear hS
  go_enter Tryd.func107, Tryd.ntmps107
  go_wp2
  go_ret
  exact ⟨rfl, rfl⟩
/-- Turning a way round. -/
theorem trail_snoc (e : Int → Int × Int) : ∀ (l : List Int) (a : Int) (i : Int), ∃ b, trail e a (l ++ [i]) = trail e a l ++ [(e i).1 + (e i).2 - b] ∧ (trail e a l).getLast? = some b
  | [], a, i => ⟨a, rfl, rfl⟩
  | j :: l, a, i => by
    obtain ⟨b, h1, h2⟩ := trail_snoc e l ((e j).1 + (e j).2 - a) i
    refine ⟨b, by simp only [List.cons_append, trail, h1], ?_⟩
    simp only [trail]
    rw [trail_cons e _ l] at h2 ⊢
    simpa using h2
theorem trail_rev {e : Int → Int × Int} {q : Q} (hx : ∀ x ∈ q, e x.1 = (x.2.1, x.2.2) ∨ e x.1 = (x.2.2, x.2.1)) {a : Int} {o : Option Int} {l : List Int} {b : Int} (h : Tree.Walk q a o l b) : trail e b l.reverse = (trail e a l).reverse := by
  induction h with
  | nil => rfl
  | cons hj ho hw ih =>
    rename_i a o i c l b
    have he : (e i).1 + (e i).2 - a = c ∧ (e i).1 + (e i).2 - c = a := by
      rcases hj with hj | hj
      · rcases hx _ hj with he | he <;> rw [he] <;> simp only <;> omega
      · rcases hx _ hj with he | he <;> rw [he] <;> simp only <;> omega
    simp only [List.reverse_cons, trail, he.1]
    obtain ⟨d, h1, h2⟩ := trail_snoc e l.reverse b i
    rw [h1, ih]
    rw [ih, List.getLast?_reverse, trail_cons e c l] at h2
    obtain rfl : c = d := by simpa using h2
    rw [he.2]
/-- The stations of the loop of a closing leg. -/
def loopS (ls : L) (i : Int) : List Int := trail (ends ls) (ends ls i).2 (W (RR ls) (ends ls i).2 (ends ls i).1)
theorem path_of {ls : L} (hg : ∀ x ∈ ls, Good x) {i : Int} (hi : i ∈ closeL ls) :
    (ends ls i).1 ∈ verts (ends ls i).2 (Bfs.run (ends ls) (fun j => decide (j ∈ legs (RR ls))) (ends ls i).2 ls.length 9 0 []) ∧
      (Bfs.back (Bfs.run (ends ls) (fun j => decide (j ∈ legs (RR ls))) (ends ls i).2 ls.length 9 0 []) (ends ls i).1).reverse = W (RR ls) (ends ls i).2 (ends ls i).1 ∧
      (trail (ends ls) (ends ls i).1 (Bfs.back (Bfs.run (ends ls) (fun j => decide (j ∈ legs (RR ls))) (ends ls i).2 ls.length 9 0 []) (ends ls i).1)).reverse = loopS ls i := by
  obtain ⟨h0, h1, h2, h3, _⟩ := mem_closeL hg hi
  obtain ⟨f1, f2⟩ := Way.found (ends ls) (RR_ok hg).1 (Good.range hg) h3 h2
  refine ⟨f1, by rw [f2, ← Way.W_rev], ?_⟩
  rw [f2]
  unfold loopS
  rw [Way.W_rev (RR ls) (ends ls i).1 (ends ls i).2]
  exact (trail_rev (fun x hx => (RR_ends hg x hx).1) (Tree.walk_W (RR_ok hg).1.tr h2 h3)).symm
set_option maxHeartbeats 2000000 in
set_option maxRecDepth 100000 in
theorem netLoop (A : Option Addr) (c : Nat) (ls : L) (i : Int) (T g : Nat) (cl : Value) (w : World) (hS : St ls.length T g (Pq (RR ls)) (Xq ls (RR ls)) (Bq (RR ls)) cl w) (hr0 : Kd.C k56 w A ls.length ls) (hc : ls.length ≤ c) (hn : ls.length ≤ 12) (hg : ∀ x ∈ ls, Good x) (hi : i ∈ closeL ls) :
    Calls Tryd.prog 85 #[.pointer (some ⟨g, 0, none⟩), .slice A ls.length c, .int .i64 i] w fun e w' => ∃ v1 v2, e = .returned (.tuple #[v1, v2]) ∧ Kd.R (Kd.int .i64) 3 w' w.heap.size (fun _ => True) v1 (loopS ls i) ∧ Kd.R (Kd.int .i64) 3 w' w.heap.size (fun _ => True) v2 (loopL ls i) ∧ Below w.heap.size w w' := by
  have HP := Aside0.mk (path_of hg hi)
  obtain ⟨i0, i1, _⟩ := mem_closeL hg hi
  have HLN := Aside0.mk (loopL_len hg i)
  obtain ⟨k, rfl⟩ := Int.eq_ofNat_of_zero_le i0
  have hgk := leg_good hg k (Int.ofNat_lt.mp i1)
  obtain ⟨w_1, e2, h0, h1, _⟩ := at_T56 hr0 (k : Int) i0 i1
  cases e2
  rw [Int.toNat_natCast, show rd_T56 ls (k : Int) = leg ls k from rfl] at h0 h1
  have HE := Aside0.mk (show ends ls k = ((leg ls k).f0, (leg ls k).f1) from rfl)
  have HR := Aside0.mk hr0
  have HG := Aside0.mk hg
  have HS := Aside0.mk hS
  have hl0 := hgk.1
  have hl1 := hgk.2.1
  clear hr0 hg hS hgk
  generalize leg ls (k : Int) = x at *
  go_enter Tryd.func85, Tryd.ntmps85
  go_wp2
  have HB := Aside0.mk (below_alloc (Below.refl w.heap.size w) (Obj.cells #[Value.pointer (some { block := g, off := 0 })] 64))
  replace h0 := Sine.keepc h0 HB.out
  replace h1 := Sine.keepc h1 HB.out
  replace HS := Aside0.mk (HS.out.keep HB.out)
  have hp0 : (w.alloc (Obj.cells #[Value.pointer (some { block := g, off := 0 })] 64)).cell? ⟨w.heap.size, 0, none⟩ = some (.pointer (some ⟨g, 0, none⟩)) := by go_simp
  have HP0 := Aside0.mk hp0
  have HPP : Aside0 (x.f0 ∈ verts x.f1 (Bfs.run (ends ls) (fun j => decide (j ∈ legs (RR ls))) x.f1 ls.length 9 0 []) ∧
      (Bfs.back (Bfs.run (ends ls) (fun j => decide (j ∈ legs (RR ls))) x.f1 ls.length 9 0 []) x.f0).reverse = W (RR ls) x.f1 x.f0 ∧
      (trail (ends ls) x.f0 (Bfs.back (Bfs.run (ends ls) (fun j => decide (j ∈ legs (RR ls))) x.f1 ls.length 9 0 []) x.f0)).reverse = loopS ls k) := ⟨by have := HP.out; rw [HE.out] at this; exact this⟩
  have HLL : Aside0 (loopL ls k = W (RR ls) x.f1 x.f0 ++ [(k : Int)]) := ⟨by unfold loopL; rw [HE.out]⟩
  clear hp0 HP
  generalize w.alloc (Obj.cells #[Value.pointer (some { block := g, off := 0 })] 64) = W1 at *
  go_region_held3 (fun w' => w'.cell? (w_1.add (k * 5)) = some (.int .i64 x.f0) ∧ w'.cell? { block := (w_1.add (k * 5)).block, off := (w_1.add (k * 5)).off + 1 } = some (.int .i64 x.f1))
    (exact ⟨Sine.keepc (w := W1) h0 (by (repeat (first | exact Below.refl _ _ | apply pw_below_drewN | apply below_drew1 | exact HB.out | refine below_step ?_ (by assumption))); done), Sine.keepc (w := W1) h1 (by (repeat (first | exact Below.refl _ _ | apply pw_below_drewN | apply below_drew1 | exact HB.out | refine below_step ?_ (by assumption))); done)⟩)
    (first | (go_at_call 93; (with_reducible refine (pathTree _ c ls ⟨w.heap.size, 0, none⟩ (fun j => decide (j ∈ legs (RR ls))) x.f1 x.f0 _ ?s1 hc hn HG.out hl1 hl0 ?s2 _ rfl).mono ?_); (case s1 => exact Kd.C_below HR.out (by (repeat (first | exact HB.out | exact Below.refl _ _ | apply below_alloc | apply pw_below_drewN | apply below_drew1)); done)); (case s2 => intro j W hj hb; exact loopUse j ⟨w.heap.size, 0, none⟩ W (Sine.keepc (w := W1) HP0.out (below_step (by (repeat (first | exact Below.refl _ _ | apply pw_below_drewN | apply below_drew1 | exact HB.out | refine below_step ?_ (by assumption))); done) hb)) (HS.out.keep (below_step (by (repeat (first | exact Below.refl _ _ | apply pw_below_drewN | apply below_drew1 | exact HB.out | refine below_step ?_ (by assumption))); done) hb)) hj); rintro e w' hpost; unfold PathPost at hpost; rw [if_pos HPP.out.1] at hpost; obtain ⟨v1, v2, rfl, hv1, hv2, hw1⟩ := hpost))
  rw [HPP.out.2.1] at hv2
  rw [HPP.out.2.2] at hv1
  have hsz : w.heap.size ≤ W1.drew.heap.size := below_size (show Below w.heap.size w W1.drew from by (repeat (first | exact HB.out | exact Below.refl _ _ | apply below_alloc | apply pw_below_drewN | apply below_drew1)); done)
  have HV1 := Aside0.mk (Kd.R_lower hv1 hsz)
  have HV2 := Aside0.mk (Kd.R_lower hv2 hsz)
  replace HB := Aside0.mk (below_step (show Below w.heap.size w W1.drew from by (repeat (first | exact HB.out | exact Below.refl _ _ | apply below_alloc | apply pw_below_drewN | apply below_drew1)); done) hw1)
  clear hv1 hv2 hw1 hsz
  obtain ⟨lA, lC, el⟩ := Kd.R_slice HV2.out
  subst el
  have HLW := Aside0.mk (show (W (RR ls) x.f1 x.f0).length ≤ 7 from by have := HLN.out; rw [HLL.out] at this; simp at this; omega)
  go_wp2_with ((with_reducible refine gate_builtin (b := .append) (xs := #[.tmp 29, .tmp 31]) rfl ?_); at_builtin; refine Kd.R_append (Kd.int .i64) (w0 := w) w.heap.size rfl (.tmp 29) (.tmp 31) 38 3 (.int .i64 0) 8 rfl Tryd.underlying38 info3 rfl (by decide) (by omega) (.slice lA (W (RR ls) x.f1 x.f0).length lC) (W (RR ls) x.f1 x.f0) (k : Int) [.int .i64 (k : Int)] (fun b => some b ≠ v1.ownBlock) (fun _ => False) rfl rfl ?aP (fun _ hk => hk.elim) ?aF ?aO ?aB ?aS ?aL ?_; (case aP => exact rfl); (case aF => intro b hb; exact Kd.fresh' (Kd.R_lt HV1.out) b hb); (case aO => exact HV2.out); (case aB => exact HB.out); (case aS => exact below_size HB.out); (case aL => have := HLW.out; omega)
               intro v2_ w2_ ho hb hg hat
               have HP1 := Aside0.mk (Kd.R_after (ok := fun _ => True) (Kd.R_mono HV1.out (fun k hk => ⟨trivial, hk⟩)) hg hat)
               have HP2 := Aside0.mk ho
               have HB6 := Aside0.mk hb)
  go_ret2
  exact ⟨v1, v2_, rfl, Kd.R_mono HP1.out (fun _ _ => trivial), by rw [HLL.out]; exact Kd.R_mono HP2.out (fun _ _ => trivial), HB6.out⟩
end Go.Proofs.YtiooiefjcbooeaaDoor.Net

/- The length of the loop of a closing leg: walked, and the reference's. -/
namespace Go.Proofs.YtiooiefjcbooeaaDoor.Net
open Go Go.RowKit Go.Proofs.YtiooiefjcbooeaaDoorW.PrintWords Go.Proofs.YtiooiefjcbooeaaDoorW.PrintLast Go.Proofs.YtiooiefjcbooeaaDoorW.PrintMore Go.Proofs.YtiooiefjcbooeaaDoor.A Go.Proofs.YtiooiefjcbooeaaDoor.Plain
open Go.Proofs.YtiooiefjcbooeaaDoor.Tree (verts legs W)
open Go.Proofs.YtiooiefjcbooeaaDoor.Grow (Q)
set_option linter.unusedVariables false
set_option linter.unusedSimpArgs false
def lenS (ls : L) : List Int → Int
  | [] => 0
  | i :: l => (leg ls i).f2 + lenS ls l
def loopLen (ls : L) (i : Int) : Int := lenS ls (loopL ls i)
/-- The sum so far. -/
def LenInv (ls : L) (all : List Int) (j : Nat) (s : Int) : Prop := s + lenS ls (all.drop j) = lenS ls all ∧ 0 ≤ s ∧ s ≤ 500 * (j : Int)
theorem LenInv.next {ls : L} {all : List Int} {j : Nat} {s : Int} (hg : ∀ x ∈ ls, Good x) (ha : ∀ i ∈ all, 0 ≤ i ∧ i < (ls.length : Int)) (hj : j < all.length) (h : LenInv ls all j s) : LenInv ls all (j + 1) (s + (leg ls all[j]).f2) := by
  obtain ⟨h1, h2, h3⟩ := h
  have hin := ha _ (List.getElem_mem hj)
  rw [List.drop_eq_getElem_cons hj] at h1
  obtain ⟨m, hm⟩ := Int.eq_ofNat_of_zero_le hin.1
  rw [hm] at hin h1 ⊢
  have hgi := leg_good hg m (Int.ofNat_lt.mp hin.2)
  have := hgi.2.2.2.1
  have e : lenS ls ((m : Int) :: all.drop (j + 1)) = (leg ls m).f2 + lenS ls (all.drop (j + 1)) := rfl
  rw [e] at h1
  exact ⟨by omega, by omega, by omega⟩
theorem LenInv.end_ {ls : L} {all : List Int} {j : Nat} {s : Int} (hj : ¬ j < all.length) (h : LenInv ls all j s) : s = lenS ls all := by
  have := h.1
  rw [List.drop_eq_nil_of_le (by omega)] at this
  have e : lenS ls [] = 0 := rfl
  rw [e] at this
  rw [← this]; omega
theorem len_loop (ls : L) (hg : ∀ x ∈ ls, Good x) (all : List Int) (ha : ∀ i ∈ all, 0 ≤ i ∧ i < (ls.length : Int)) (hl : all.length ≤ 100) : ∀ (d j : Nat) (s : Int), j + d = all.length → LenInv ls all j s →
    Ev (fun k => spec_l8Length.l0 k ls s all (j : Int)) (lenS ls all) := by
  intro d
  induction d with
  | zero =>
    intro j s hj hs
    rw [← hs.end_ (by omega)]
    refine Ev.step (f := fun _ => some s) (fun k => ?_) (Ev.now _)
    simp only [spec_l8Length.l0]
    rw [if_neg (by omega)]
  | succ d ih =>
    intro j s hj hs
    have hlt : j < all.length := by omega
    have h := ih (j + 1) _ (by omega) (hs.next hg ha hlt)
    have hb := (hs.next hg ha hlt).2
    refine Ev.step (fun k => ?_) h
    have hin := ha _ (List.getElem_mem hlt)
    simp only [spec_l8Length.l0]
    rw [if_pos (by omega), if_pos (by omega), rd_at all j hlt, if_pos hin.1, if_pos hin.2, show rd_T56 ls all[j] = leg ls all[j] from rfl, w64 (x := s + _) (by omega) (by omega), w64 (by omega) (by omega)]
    rfl
theorem length_ev {ls : L} (hn : ls.length ≤ 12) (hg : ∀ x ∈ ls, Good x) {i : Int} (hi : i ∈ closeL ls) : Ev (fun k => spec_l8Length.f k ls i) (loopLen ls i) := by
  unfold spec_l8Length.f
  refine Ev.bind (loop_ev hn hg hi) ?_
  have hle := loopL_len hg i
  exact len_loop ls hg _ (loopL_range hg hi) (by omega) _ 0 0 (Nat.zero_add _) ⟨by rw [List.drop_zero]; omega, by omega, by omega⟩
theorem specLoopLength_ev (ls : L) (i : Int) (hb : ls.length ≤ 140737488351232) : Ev (fun k => spec_LoopLength.f k ls i) (if legsB ls = true ∧ i ∈ closeL ls then (loopLen ls i, true) else (0, false)) := by
  have hc := closingB_ev ls i hb
  unfold spec_LoopLength.f
  by_cases h : legsB ls = true ∧ i ∈ closeL ls
  · rw [if_pos h]
    rw [h.1, decide_eq_true h.2] at hc
    refine Ev.bind hc (Ev.pos rfl ?_)
    have hv := legsB_iff.mp h.1
    exact Ev.bind (length_ev hv.2 hv.1 h.2) (Ev.now _)
  · rw [if_neg h]
    refine Ev.bind hc (Ev.neg ?_ (Ev.now _))
    rw [Bool.and_eq_true, decide_eq_true_eq]
    exact h
set_option maxHeartbeats 2000000 in
set_option maxRecDepth 100000 in
theorem netLen (A : Option Addr) (c : Nat) (ls : L) (i : Int) (T g : Nat) (cl : Value) (w : World) (hS : St ls.length T g (Pq (RR ls)) (Xq ls (RR ls)) (Bq (RR ls)) cl w) (hr0 : Kd.C k56 w A ls.length ls) (hc : ls.length ≤ c) (hn : ls.length ≤ 12) (hg : ∀ x ∈ ls, Good x) (hi : i ∈ closeL ls) :
    Calls Tryd.prog 74 #[.pointer (some ⟨g, 0, none⟩), .slice A ls.length c, .int .i64 i] w fun e w' => e = .returned (.int .i64 (loopLen ls i)) ∧ Below w.heap.size w w' := by
  have HLN := Aside0.mk (loopL_len hg i)
  have HRG := Aside0.mk (loopL_range hg hi)
  have HR := Aside0.mk hr0
  have HG := Aside0.mk hg
  have HS := Aside0.mk hS
  have HB := Aside0.mk (Below.refl w.heap.size w)
  have HI := Aside0.mk hi
  clear hr0 hg hS hi
  have HE0 : Aside0 (loopLen ls i = lenS ls (loopL ls i)) := ⟨rfl⟩
  generalize loopLen ls i = tot at *
  go_enter Tryd.func74, Tryd.ntmps74
  go_wp2_with (go_at_call 85; have hq := netLoop A c ls i _ _ _ _ (HS.out.keep (by repeat (first | exact Below.refl _ _ | apply below_drew1))) (Kd.C_below HR.out (by (repeat (first | exact HB.out | exact Below.refl _ _ | apply below_alloc | apply pw_below_drewN | apply below_drew1)); done)) hc hn HG.out HI.out; (with_reducible refine hq.mono ?_); clear hq; rintro e w' ⟨v1, v2, rfl, hv1, hv2, hw⟩; have HV2 := Aside0.mk (Kd.R_lower hv2 (below_size (show Below w.heap.size w _ from by (repeat (first | exact HB.out | exact Below.refl _ _ | apply below_alloc | apply pw_below_drewN | apply below_drew1)); done))); replace HB := Aside0.mk (below_step (show Below w.heap.size w _ from by (repeat (first | exact HB.out | exact Below.refl _ _ | apply below_alloc | apply pw_below_drewN | apply below_drew1)); done) hw); clear hw hv1 hv2; obtain ⟨vA, vC, ev⟩ := Kd.R_slice HV2.out; subst ev; generalize loopL ls i = all at *)
  go_loopw [9, 21] (fun v9 v21 w' => ∃ (j : Nat) (s : Int), j ≤ all.length ∧ v21 = .int .i64 j ∧ v9 = .int .i64 s ∧ Aside0 (LenInv ls all j s) ∧ Aside0 (Kd.R (Kd.int .i64) 3 w' w.heap.size (fun _ => True) (.slice vA all.length vC) all) ∧ Aside0 (Below w.heap.size w w')) (fun _ v21 _ => all.length - (intOf v21).toNat)
  case atStart => exact ⟨0, 0, Nat.zero_le _, rfl, rfl, ⟨by rw [List.drop_zero]; omega, by omega, by omega⟩, HV2, HB⟩
  case round =>
    obtain ⟨j, s, hj, rfl, rfl, HJ, HV, HB2⟩ := hrel
    clear HV2 HB
    have HB := HB2
    clear HB2
    by_cases hlt : j < all.length
    · have HN := Aside0.mk (HJ.out.next HG.out HRG.out hlt)
      obtain ⟨ad, e1, h1⟩ := Kd.at_int (Kd.R_reads' HV.out).2.2 (j : Int) (by omega) (by omega)
      subst e1
      have hin := HRG.out _ (List.getElem_mem hlt)
      rw [rd_at all j hlt, Int.toNat_natCast] at h1
      obtain ⟨m, hm⟩ := Int.eq_ofNat_of_zero_le hin.1
      rw [hm] at h1 hin HN
      obtain ⟨_, e2, _, _, h2, _, _⟩ := at_T56 HR.out (m : Int) hin.1 hin.2
      cases e2
      rw [Int.toNat_natCast, show rd_T56 ls (m : Int) = leg ls m from rfl] at h2
      replace h2 := Sine.keepc h2 HB.out
      have hb := HN.out.2
      generalize leg ls (m : Int) = x at *
      have hin1 := hin.2
      have ws : wrap64 (s + x.f2) = s + x.f2 := by have := HLN.out; unfold wrap64; omega
      clear hm hin
      have hl8 := HLN.out
      go_wp2
      exact ⟨⟨j + 1, s + x.f2, hlt, rfl, rfl, HN, HV, HB⟩, by simp [intOf]; omega⟩
    · have hs := HJ.out.end_ hlt
      go_wp2
      subst hs
      exact bodyPost_ret (v := .int .i64 (lenS ls all)) (by simp [results, Tryd.results74, go_sem]) rfl ⟨by rw [HE0.out], HB.out⟩
end Go.Proofs.YtiooiefjcbooeaaDoor.Net

/- The program's LoopLength, in the form of the printed functions, over the laid table of sines. -/
namespace Go.Proofs.YtiooiefjcbooeaaDoor.A
open Go.RowKit Go.Proofs.YtiooiefjcbooeaaDoorW.PrintWords Go.Proofs.YtiooiefjcbooeaaDoorW.PrintLast Go.Proofs.YtiooiefjcbooeaaDoorW.PrintMore
open Go.Proofs.YtiooiefjcbooeaaDoor.Net
set_option linter.unusedVariables false
set_option linter.unusedSimpArgs false
def impl_LoopLength.f (l0 : List (S56)) (a1 : Int) : Option (Int × Bool) := if l0.length ≤ 140737488351232 then some (if legsB l0 = true ∧ a1 ∈ closeL l0 then (loopLen l0 a1, true) else (0, false)) else none
set_option maxHeartbeats 2000000 in
set_option maxRecDepth 100000 in
theorem impl_LoopLength.calls (A0 : Option Addr) (c0 : Nat) (l0 : List (S56)) (a1 : Int) (r1 : Int) (r2 : Bool) (w : World) (hr0 : Kd.C k56 w A0 l0.length l0) (hc0 : l0.length ≤ c0) (h : impl_LoopLength.f l0 a1 = some (r1, r2)) (hL : Sine.Laid w) :
    Calls Tryd.prog 30 #[.slice A0 l0.length c0, .int .i64 a1] w fun e w' => e = .returned (.tuple #[.int .i64 r1, .bool r2]) ∧ Below w.heap.size w w' := by
  unfold impl_LoopLength.f at h
  by_cases hb : l0.length ≤ 140737488351232
  · rw [if_pos hb] at h
    have HR := Aside0.mk hr0
    have HL := Aside0.mk hL
    have HB := Aside0.mk (Below.refl w.heap.size w)
    cases hv : legsB l0
    · rw [if_neg (by rw [hv]; simp)] at h
      simp only [Option.some.injEq, Prod.mk.injEq] at h
      obtain ⟨rfl, rfl⟩ := h
      clear hr0 hL
      go_enter Tryd.func30, Tryd.ntmps30
      go_wp2_with (go_at_call 62; (with_reducible refine (closingLeg_no A0 c0 l0 a1 _ ?s1 hc0 hb hv).mono ?_); (case s1 => exact Kd.C_below HR.out (by (repeat (first | exact HB.out | exact Below.refl _ _ | apply below_alloc | apply pw_below_drewN | apply below_drew1)); done)); rintro e w' ⟨rfl, hw⟩; replace HB := Aside0.mk (below_step (show Below w.heap.size w _ from by (repeat (first | exact HB.out | exact Below.refl _ _ | apply below_alloc | apply pw_below_drewN | apply below_drew1)); done) hw); clear hw)
      exact bodyPost_ret (v := .tuple #[.int .i64 0, .bool false]) (by simp [results, Tryd.results30, go_sem]) rfl ⟨rfl, by repeat (first | exact HB.out | apply below_drew1)⟩
    · by_cases hm : a1 ∈ closeL l0
      · rw [if_pos ⟨hv, hm⟩] at h
        simp only [Option.some.injEq, Prod.mk.injEq] at h
        obtain ⟨rfl, rfl⟩ := h
        have HV := Aside0.mk (legsB_iff.mp hv)
        clear hr0 hL
        go_enter Tryd.func30, Tryd.ntmps30
        go_wp2_with (first
          | (go_at_call 62; (with_reducible refine (closingLeg A0 c0 l0 a1 _ ?s0 ?s1 hc0 hv).mono ?_); (case s0 => exact HL.out.keep (by (repeat (first | exact HB.out | exact Below.refl _ _ | apply below_alloc | apply pw_below_drewN | apply below_drew1)); done)); (case s1 => exact Kd.C_below HR.out (by (repeat (first | exact HB.out | exact Below.refl _ _ | apply below_alloc | apply pw_below_drewN | apply below_drew1)); done)); rintro e w' ⟨g, T, cA, cC, rfl, hst, _, hw⟩; rw [decide_eq_true hm]; replace HB := Aside0.mk (below_step (show Below w.heap.size w _ from by (repeat (first | exact HB.out | exact Below.refl _ _ | apply below_alloc | apply pw_below_drewN | apply below_drew1)); done) hw); clear hw; have HS := Aside0.mk hst; clear hst)
          | (go_at_call 74; have hq := netLen A0 c0 l0 a1 _ _ _ _ (HS.out.keep (by repeat (first | exact Below.refl _ _ | apply below_drew1))) (Kd.C_below HR.out (by (repeat (first | exact HB.out | exact Below.refl _ _ | apply below_alloc | apply pw_below_drewN | apply below_drew1)); done)) hc0 HV.out.2 HV.out.1 hm; (with_reducible refine hq.mono ?_); clear hq; rintro e w' ⟨rfl, hw⟩; replace HB := Aside0.mk (below_step (show Below w.heap.size w _ from by (repeat (first | exact HB.out | exact Below.refl _ _ | apply below_alloc | apply pw_below_drewN | apply below_drew1)); done) hw); clear hw))
        exact bodyPost_ret (v := .tuple #[.int .i64 (loopLen l0 a1), .bool true]) (by simp [results, Tryd.results30, go_sem]) rfl ⟨rfl, by repeat (first | exact HB.out | apply below_drew1)⟩
      · rw [if_neg (by rintro ⟨_, h⟩; exact hm h)] at h
        simp only [Option.some.injEq, Prod.mk.injEq] at h
        obtain ⟨rfl, rfl⟩ := h
        clear hr0 hL
        go_enter Tryd.func30, Tryd.ntmps30
        go_wp2_with (go_at_call 62; (with_reducible refine (closingLeg A0 c0 l0 a1 _ ?s0 ?s1 hc0 hv).mono ?_); (case s0 => exact HL.out.keep (by (repeat (first | exact HB.out | exact Below.refl _ _ | apply below_alloc | apply pw_below_drewN | apply below_drew1)); done)); (case s1 => exact Kd.C_below HR.out (by (repeat (first | exact HB.out | exact Below.refl _ _ | apply below_alloc | apply pw_below_drewN | apply below_drew1)); done)); rintro e w' ⟨g, T, cA, cC, rfl, hst, _, hw⟩; rw [decide_eq_false hm]; replace HB := Aside0.mk (below_step (show Below w.heap.size w _ from by (repeat (first | exact HB.out | exact Below.refl _ _ | apply below_alloc | apply pw_below_drewN | apply below_drew1)); done) hw); clear hw hst)
        exact bodyPost_ret (v := .tuple #[.int .i64 0, .bool false]) (by simp [results, Tryd.results30, go_sem]) rfl ⟨rfl, by repeat (first | exact HB.out | apply below_drew1)⟩
  · rw [if_neg hb] at h
    cases h
end Go.Proofs.YtiooiefjcbooeaaDoor.A

/- One Lean function and its proof for each Go function, written by a program out of the translation. No conditions. -/
namespace Go.Proofs.YtiooiefjcbooeaaDoor.A
open Go.Proofs.YtiooiefjcbooeaaDoor Go.RowKit Go.Proofs.YtiooiefjcbooeaaDoorW.PrintWords Go.Proofs.YtiooiefjcbooeaaDoorW.PrintLast Go.Proofs.YtiooiefjcbooeaaDoorW.PrintMore
attribute [local go_sem] max2_int min2_int max_two min_two max_three min_three max_four min_four   -- for this text's walks alone
set_option linter.unusedVariables false
set_option linter.unusedSimpArgs false

/-! ### laws_FnExactLoopLength: function 7 -/
def laws_FnExactLoopLength.j0 : Nat → List (S58) → List (S56) → Bool → Option (Bool)
  | 0, _, _, _ => none
  | k + 1, x0, x8, x38 => if x38 = true then (some false) else ((laws_toLegS.f k x0).bind fun t530 => ((laws_eqLegS.f k x8 t530).bind fun t533 => (if t533 = true then (some true) else (some false))))
def laws_FnExactLoopLength.f (k : Nat) (l0 : List (S58)) (a1 : Int) : Option (Bool) := (laws_szLegS.f l0 1048576).bind fun t519 => (if t519 < 0 then (some true) else ((laws_toLegS.f k l0).bind fun t520 => ((spec_LoopLength.f k t520 a1).bind fun bt523 => ((laws_toLegS.f k l0).bind fun t525 => ((impl_LoopLength.f t525 a1).bind fun bt528 => (if bt528.1 = bt523.1 then (laws_FnExactLoopLength.j0 k l0 t525 (bt528.2 != bt523.2)) else (laws_FnExactLoopLength.j0 k l0 t525 true)))))))
theorem laws_FnExactLoopLength.mono_l : ∀ k, (∀ y0 y1 y2, LeO (laws_FnExactLoopLength.j0 k y0 y1 y2) (laws_FnExactLoopLength.j0 (k + 1) y0 y1 y2))
  | 0 => fun _ _ _ r h => by simp [laws_FnExactLoopLength.j0] at h
  | k + 1 => by
    have ih0 := laws_FnExactLoopLength.mono_l k
    · intro y0 y1 y2
      unfold laws_FnExactLoopLength.j0
      repeat' first
      | (with_reducible exact ih0 _ _ _)
      | (with_reducible exact laws_eqLegS.mono _ _ _)
      | (with_reducible exact laws_toLegS.mono _ _)
      | (with_reducible exact spec_LoopLength.mono _ _ _)
      | (with_reducible exact LeO.refl _)
      | (with_reducible exact LeO.none _)
      | (with_reducible refine LeO.ite ?_ ?_)
      | (with_reducible refine LeO.bind ?_ (fun _ => ?_))
      | exact ih0 _ _ _
      | exact laws_eqLegS.mono _ _ _
      | exact laws_toLegS.mono _ _
      | exact spec_LoopLength.mono _ _ _
      | exact LeO.none _
      | refine LeO.ite ?_ ?_
      | refine LeO.bind ?_ (fun _ => ?_)
theorem laws_FnExactLoopLength.mono : ∀ a0 a1 k, LeO (laws_FnExactLoopLength.f k a0 a1) (laws_FnExactLoopLength.f (k + 1) a0 a1) := by
  intro a0 a1 k
  have ih0 := laws_FnExactLoopLength.mono_l k
  unfold laws_FnExactLoopLength.f
  repeat' first
      | (with_reducible exact ih0 _ _ _)
      | (with_reducible exact laws_eqLegS.mono _ _ _)
      | (with_reducible exact laws_toLegS.mono _ _)
      | (with_reducible exact spec_LoopLength.mono _ _ _)
      | (with_reducible exact LeO.refl _)
      | (with_reducible exact LeO.none _)
      | (with_reducible refine LeO.ite ?_ ?_)
      | (with_reducible refine LeO.bind ?_ (fun _ => ?_))
      | exact ih0 _ _ _
      | exact laws_eqLegS.mono _ _ _
      | exact laws_toLegS.mono _ _
      | exact spec_LoopLength.mono _ _ _
      | exact LeO.none _
      | refine LeO.ite ?_ ?_
      | refine LeO.bind ?_ (fun _ => ?_)
set_option maxHeartbeats 8000000 in
set_option maxRecDepth 100000 in
theorem laws_FnExactLoopLength.calls (k : Nat) (A0 : Option Addr) (c0 : Nat) (l0 : List (S58)) (a1 : Int) (r : Bool) (w : World) (hr0 : Kd.C k58 w A0 l0.length l0) (hc0 : l0.length ≤ c0) (h : laws_FnExactLoopLength.f k l0 a1 = some r) (hL : Net.Sine.Laid w) :
    Calls Tryd.prog 7 #[.slice A0 l0.length c0, .int .i64 a1] w fun e w' => e = .returned (.bool r) ∧ Below w.heap.size w w' := by
  have HL := Aside0.mk hL
  clear hL
  have HR0 := Aside0.mk hr0
  have HC0 := Aside0.mk hc0
  clear hr0 hc0
  have HB := Aside0.mk (Below.refl w.heap.size w)
  have H : ((laws_szLegS.f l0 1048576).bind fun t519 => (if t519 < 0 then (some true) else ((laws_toLegS.f k l0).bind fun t520 => ((spec_LoopLength.f k t520 a1).bind fun bt523 => ((laws_toLegS.f k l0).bind fun t525 => ((impl_LoopLength.f t525 a1).bind fun bt528 => (if bt528.1 = bt523.1 then (laws_FnExactLoopLength.j0 k l0 t525 (bt528.2 != bt523.2)) else (laws_FnExactLoopLength.j0 k l0 t525 true)))))))) = some r := h
  clear h
  replace H := Option.bind_eq_some_iff.mp H
  obtain ⟨t519, A30, H⟩ := H
  replace H : (if t519 < 0 then (some true) else ((laws_toLegS.f k l0).bind fun t520 => ((spec_LoopLength.f k t520 a1).bind fun bt523 => ((laws_toLegS.f k l0).bind fun t525 => ((impl_LoopLength.f t525 a1).bind fun bt528 => (if bt528.1 = bt523.1 then (laws_FnExactLoopLength.j0 k l0 t525 (bt528.2 != bt523.2)) else (laws_FnExactLoopLength.j0 k l0 t525 true))))))) = some r := H
  have A3 := Aside0.mk A30
  clear A30
  by_cases c4 : t519 < 0
  · rw [if_pos c4] at H
    have c4b0 : decide (t519 < 0) = true := decide_eq_true c4
    clear c4
    obtain rfl := Option.some.inj H
    go_enter Tryd.func7, Tryd.ntmps7
    go_wp2_with (first | ((with_reducible refine gate_callee (f := 15) rfl ?_); refine goesL_ (some 13) rfl rfl Tryd.func15 (by kernel_rfl) rfl #[.slice A0 l0.length c0, .int .i64 1048576] rfl (by (try simp only [List.map_toArray, List.map_cons, List.map_nil]); first | done | rfl | (simp only [List.length_drop, List.length_take]; rfl)) ?_; (with_reducible refine (laws_szLegS.calls _ _ l0 1048576 t519 _ ?side1 ?side2 A3.out).mono ?_); (case side1 => repeat (first | exact HR0.out | (with_reducible refine Kd.C_alloc ?_ _) | (with_reducible refine Kd.C_drewN ?_ _) | (with_reducible refine Kd.C_drew ?_))); (case side2 => exact HC0.out); rintro e w' ⟨rfl, ⟨nd, rfl⟩⟩; refine ⟨_, rfl, ?_⟩))
    go_ret
    exact ⟨by first | rfl | (simp [errW_none, errW_some] <;> rfl) | (simp [*, errW_none, errW_some] <;> rfl), by repeat (first | (with_reducible first | exact HB.out | apply below_alloc | apply pw_below_drewN | apply below_drew1) | exact HB.out)⟩
  · rw [if_neg c4] at H
    have c4b0 : decide (t519 < 0) = false := decide_eq_false c4
    clear c4
    replace H := Option.bind_eq_some_iff.mp H
    obtain ⟨t520, A50, H⟩ := H
    replace H : ((spec_LoopLength.f k t520 a1).bind fun bt523 => ((laws_toLegS.f k l0).bind fun t525 => ((impl_LoopLength.f t525 a1).bind fun bt528 => (if bt528.1 = bt523.1 then (laws_FnExactLoopLength.j0 k l0 t525 (bt528.2 != bt523.2)) else (laws_FnExactLoopLength.j0 k l0 t525 true))))) = some r := H
    have A5 := Aside0.mk A50
    clear A50
    replace H := Option.bind_eq_some_iff.mp H
    obtain ⟨⟨t523, t524⟩, A60, H⟩ := H
    replace H : ((laws_toLegS.f k l0).bind fun t525 => ((impl_LoopLength.f t525 a1).bind fun bt528 => (if bt528.1 = t523 then (laws_FnExactLoopLength.j0 k l0 t525 (bt528.2 != t524)) else (laws_FnExactLoopLength.j0 k l0 t525 true)))) = some r := H
    have A6 := Aside0.mk A60
    clear A60
    replace H := Option.bind_eq_some_iff.mp H
    obtain ⟨t525, A70, H⟩ := H
    replace H : ((impl_LoopLength.f t525 a1).bind fun bt528 => (if bt528.1 = t523 then (laws_FnExactLoopLength.j0 k l0 t525 (bt528.2 != t524)) else (laws_FnExactLoopLength.j0 k l0 t525 true))) = some r := H
    have A7 := Aside0.mk A70
    clear A70
    replace H := Option.bind_eq_some_iff.mp H
    obtain ⟨⟨t528, t529⟩, A80, H⟩ := H
    replace H : (if t528 = t523 then (laws_FnExactLoopLength.j0 k l0 t525 (t529 != t524)) else (laws_FnExactLoopLength.j0 k l0 t525 true)) = some r := H
    have A8 := Aside0.mk A80
    clear A80
    have HC9 := Aside0.mk H
    clear H
    go_enter Tryd.func7, Tryd.ntmps7
    go_upto_region 8 with (first | ((with_reducible refine gate_callee (f := 15) rfl ?_); refine goesL_ (some 13) rfl rfl Tryd.func15 (by kernel_rfl) rfl #[.slice A0 l0.length c0, .int .i64 1048576] rfl (by (try simp only [List.map_toArray, List.map_cons, List.map_nil]); first | done | rfl | (simp only [List.length_drop, List.length_take]; rfl)) ?_; (with_reducible refine (laws_szLegS.calls _ _ l0 1048576 t519 _ ?side1 ?side2 A3.out).mono ?_); (case side1 => repeat (first | exact HR0.out | (with_reducible refine Kd.C_alloc ?_ _) | (with_reducible refine Kd.C_drewN ?_ _) | (with_reducible refine Kd.C_drew ?_))); (case side2 => exact HC0.out); rintro e w' ⟨rfl, ⟨nd, rfl⟩⟩; refine ⟨_, rfl, ?_⟩) | ((with_reducible refine gate_callee (f := 17) rfl ?_); refine goesL_ (some 18) rfl rfl Tryd.func17 (by kernel_rfl) rfl #[.slice A0 l0.length c0] rfl (by (try simp only [List.map_toArray, List.map_cons, List.map_nil]); first | done | rfl | (simp only [List.length_drop, List.length_take]; rfl)) ?_; (with_reducible refine (laws_toLegS.calls k _ _ l0 t520 _ ?side1 ?side2 A5.out).mono ?_); (case side1 => repeat (first | exact HR0.out | (with_reducible refine Kd.C_alloc ?_ _) | (with_reducible refine Kd.C_drewN ?_ _) | (with_reducible refine Kd.C_drew ?_))); (case side2 => exact HC0.out); rintro e w10 ⟨v521, rfl, ho0, hb⟩; refine ⟨_, rfl, ?_⟩; have n0_ := Aside0.mk (Kd.R_lower ho0 (below_size (by repeat (first | (with_reducible first | exact HB.out | apply below_alloc | apply pw_below_drewN | apply below_drew1) | exact HB.out)))); have n1_ := Aside0.mk (below_step (by repeat (first | (with_reducible first | exact HB.out | apply below_alloc | apply pw_below_drewN | apply below_drew1) | exact HB.out)) hb); clear HB; have HO522 := n0_; have HB := n1_; clear n0_ n1_; (try clear hb); (try clear hb2); (try clear hk); (try clear hi); (try clear ho0); obtain ⟨Ao11, co11, eo11⟩ := Kd.R_slice HO522.out; subst eo11) | ((with_reducible refine gate_callee (f := 29) rfl ?_); refine goesL_ (some 20) rfl rfl Tryd.func29 (by kernel_rfl) rfl #[.slice Ao11 t520.length co11, .int .i64 a1] rfl (by (try simp only [List.map_toArray, List.map_cons, List.map_nil]); first | done | rfl | (simp only [List.length_drop, List.length_take]; rfl)) ?_; (with_reducible refine (spec_LoopLength.calls k _ _ t520 a1 t523 t524 _ ?side1 ?side2 A6.out).mono ?_); (case side1 => repeat (first | exact (Kd.R_reads' HO522.out).2.2 | (with_reducible refine Kd.C_alloc ?_ _) | (with_reducible refine Kd.C_drewN ?_ _) | (with_reducible refine Kd.C_drew ?_))); (case side2 => exact (Kd.R_reads' HO522.out).2.1); rintro e w12 ⟨rfl, hb⟩; refine ⟨_, rfl, ?_⟩; have n0_ := Aside0.mk (Kd.R_below (by (with_reducible repeat (first | apply Kd.R_alloc | apply Kd.R_drewN | apply Kd.R_drew)); exact HO522.out) hb); have n1_ := Aside0.mk (below_step (by repeat (first | (with_reducible first | exact HB.out | apply below_alloc | apply pw_below_drewN | apply below_drew1) | exact HB.out)) hb); clear HO522; clear HB; have HO522 := n0_; have HB := n1_; clear n0_ n1_; (try clear hb); (try clear hb2); (try clear hk); (try clear hi)) | ((with_reducible refine gate_callee (f := 17) rfl ?_); refine goesL_ (some 24) rfl rfl Tryd.func17 (by kernel_rfl) rfl #[.slice A0 l0.length c0] rfl (by (try simp only [List.map_toArray, List.map_cons, List.map_nil]); first | done | rfl | (simp only [List.length_drop, List.length_take]; rfl)) ?_; (with_reducible refine (laws_toLegS.calls k _ _ l0 t525 _ ?side1 ?side2 A7.out).mono ?_); (case side1 => repeat (first | exact (Kd.C_below HR0.out HB.out) | (with_reducible refine Kd.C_alloc ?_ _) | (with_reducible refine Kd.C_drewN ?_ _) | (with_reducible refine Kd.C_drew ?_))); (case side2 => exact HC0.out); rintro e w13 ⟨v526, rfl, ho0, hb⟩; refine ⟨_, rfl, ?_⟩; have n0_ := Aside0.mk (Kd.R_elder' (by (with_reducible repeat (first | apply Kd.R_alloc | apply Kd.R_drewN | apply Kd.R_drew)); exact HO522.out) (Kd.R_base ho0) hb); have n1_ := Aside0.mk (Kd.R_lower (Kd.R_new' ho0 (Kd.R_lt (by (with_reducible repeat (first | apply Kd.R_alloc | apply Kd.R_drewN | apply Kd.R_drew)); exact HO522.out))) (below_size (by repeat (first | (with_reducible first | exact HB.out | apply below_alloc | apply pw_below_drewN | apply below_drew1) | exact HB.out)))); have n2_ := Aside0.mk (below_step (by repeat (first | (with_reducible first | exact HB.out | apply below_alloc | apply pw_below_drewN | apply below_drew1) | exact HB.out)) hb); clear HO522; clear HB; have HO522 := n0_; have HO527 := n1_; have HB := n2_; clear n0_ n1_ n2_; (try clear hb); (try clear hb2); (try clear hk); (try clear hi); (try clear ho0); obtain ⟨Ao14, co14, eo14⟩ := Kd.R_slice HO527.out; subst eo14) | ((with_reducible refine gate_callee (f := 30) rfl ?_); refine goesL_ (some 28) rfl rfl Tryd.func30 (by kernel_rfl) rfl #[.slice Ao14 t525.length co14, .int .i64 a1] rfl (by (try simp only [List.map_toArray, List.map_cons, List.map_nil]); first | done | rfl | (simp only [List.length_drop, List.length_take]; rfl)) ?_; (with_reducible refine (impl_LoopLength.calls _ _ t525 a1 t528 t529 _ ?side1 ?side2 A8.out ?sideL).mono ?_); (case sideL => exact HL.out.keep (by repeat (first | (with_reducible first | exact HB.out | apply below_alloc | apply pw_below_drewN | apply below_drew1) | exact HB.out))); (case side1 => repeat (first | exact (Kd.R_reads' HO527.out).2.2 | (with_reducible refine Kd.C_alloc ?_ _) | (with_reducible refine Kd.C_drewN ?_ _) | (with_reducible refine Kd.C_drew ?_))); (case side2 => exact (Kd.R_reads' HO527.out).2.1); rintro e w15 ⟨rfl, hb⟩; refine ⟨_, rfl, ?_⟩; have n0_ := Aside0.mk (Kd.R_below (by (with_reducible repeat (first | apply Kd.R_alloc | apply Kd.R_drewN | apply Kd.R_drew)); exact HO522.out) hb); have n1_ := Aside0.mk (Kd.R_below (by (with_reducible repeat (first | apply Kd.R_alloc | apply Kd.R_drewN | apply Kd.R_drew)); exact HO527.out) hb); have n2_ := Aside0.mk (below_step (by repeat (first | (with_reducible first | exact HB.out | apply below_alloc | apply pw_below_drewN | apply below_drew1) | exact HB.out)) hb); clear HO522; clear HO527; clear HB; have HO522 := n0_; have HO527 := n1_; have HB := n2_; clear n0_ n1_ n2_; (try clear hb); (try clear hb2); (try clear hk); (try clear hi)))
    (try simp only [Act.put, List.setIfInBounds_toArray, List.set_cons_zero, List.set_cons_succ])
    go_cut [38] (fun v38 wc => ∃ (kq : Nat) (x38_8 : Bool), v38 = .bool x38_8 ∧ Aside0 (laws_FnExactLoopLength.j0 kq l0 t525 x38_8 = some r) ∧ Aside0 (kq ≤ k) ∧ Aside0 (Kd.R k56 56 wc w.heap.size (fun _ => True) (.slice Ao14 t525.length co14) t525) ∧ Aside0 (Below w.heap.size w wc))
    case first =>
      have H := HC9.out
      clear HC9
      by_cases c16 : t528 = t523
      · rw [if_pos c16] at H
        have c16b0 : (t528 == t523) = true := beq_iff_eq.mpr c16
        have c16b1 : (t528 != t523) = false := bne_eq_false_iff_eq.mpr c16
        clear c16
        (first | rw [c16b0] | (simp only [i64_w, i32_w]; rw [c16b0]) | skip)
        have H' := Aside0.mk H
        clear H
        go_wp2
        go_meet
        case rel => exact ⟨_, ((t529 != t524)), (by first | rfl | (simp; done) | (simp [*]; done)), H', ⟨by first | omega | exact Nat.le_refl _⟩, ⟨by (with_reducible repeat (first | apply Kd.R_alloc | apply Kd.R_drewN | apply Kd.R_drew)); exact Kd.R_mono HO527.out (fun _ hk => trivial)⟩, ⟨by repeat (first | (with_reducible first | exact HB.out | apply below_alloc | apply pw_below_drewN | apply below_drew1) | exact HB.out)⟩⟩
      · rw [if_neg c16] at H
        have c16b0 : (t528 == t523) = false := beq_eq_false_iff_ne.mpr c16
        have c16b1 : (t528 != t523) = true := bne_iff_ne.mpr c16
        (first | rw [c16b0] | (simp only [i64_w, i32_w]; rw [c16b0]) | skip)
        have H' := Aside0.mk H
        clear H
        go_wp2
        go_meet
        case rel => exact ⟨_, (true), (by first | rfl | (simp; done) | (simp [*]; done)), H', ⟨by first | omega | exact Nat.le_refl _⟩, ⟨by (with_reducible repeat (first | apply Kd.R_alloc | apply Kd.R_drewN | apply Kd.R_drew)); exact Kd.R_mono HO527.out (fun _ hk => trivial)⟩, ⟨by repeat (first | (with_reducible first | exact HB.out | apply below_alloc | apply pw_below_drewN | apply below_drew1) | exact HB.out)⟩⟩
    case rest =>
      clear HC9
      try clear c1
      try clear c2
      try clear p2
      try clear c3
      try clear c4
      try clear c4b0
      try clear c7
      try clear c15
      try clear c16
      try clear c16b0
      try clear c16b1
      obtain ⟨kq, x38_8, rfl, HA, HJ8, HO_8, HB⟩ := hcut
      cases kq with
      | zero => exact absurd HA.out (by simp [laws_FnExactLoopLength.j0])
      | succ kj8 =>
        have H := HA.out
        clear HA
        simp only [laws_FnExactLoopLength.j0] at H
        by_cases c17 : x38_8 = true
        · subst c17
          have H1 : (some false) = some r := by rw [if_pos rfl] at H; exact H
          clear H
          have H := H1
          clear H1
          obtain rfl := Option.some.inj H
          go_wp2
          go_ret
          exact ⟨by first | rfl | (simp [errW_none, errW_some] <;> rfl) | (simp [*, errW_none, errW_some] <;> rfl), by repeat (first | (with_reducible first | exact HB.out | apply below_alloc | apply pw_below_drewN | apply below_drew1) | exact HB.out)⟩
        · replace c17 := Bool.eq_false_iff.mpr c17
          subst c17
          have H1 : ((laws_toLegS.f kj8 l0).bind fun t530 => ((laws_eqLegS.f kj8 t525 t530).bind fun t533 => (if t533 = true then (some true) else (some false)))) = some r := by rw [if_neg (show ¬ (false = true) by decide)] at H; exact H
          clear H
          have H := H1
          clear H1
          replace H := Option.bind_eq_some_iff.mp H
          obtain ⟨t530, A180, H⟩ := H
          replace H : ((laws_eqLegS.f kj8 t525 t530).bind fun t533 => (if t533 = true then (some true) else (some false))) = some r := H
          have A18 := Aside0.mk A180
          clear A180
          replace H := Option.bind_eq_some_iff.mp H
          obtain ⟨t533, A190, H⟩ := H
          replace H : (if t533 = true then (some true) else (some false)) = some r := H
          have A19 := Aside0.mk A190
          clear A190
          by_cases c20 : t533 = true
          · subst c20
            have H1 : (some true) = some r := by rw [if_pos rfl] at H; exact H
            clear H
            have H := H1
            clear H1
            obtain rfl := Option.some.inj H
            go_wp2_with (first | ((with_reducible refine gate_callee (f := 17) rfl ?_); refine goesL_ (some 41) rfl rfl Tryd.func17 (by kernel_rfl) rfl #[.slice A0 l0.length c0] rfl (by (try simp only [List.map_toArray, List.map_cons, List.map_nil]); first | done | rfl | (simp only [List.length_drop, List.length_take]; rfl)) ?_; (with_reducible refine (laws_toLegS.calls kj8 _ _ l0 t530 _ ?side1 ?side2 A18.out).mono ?_); (case side1 => repeat (first | exact (Kd.C_below HR0.out HB.out) | (with_reducible refine Kd.C_alloc ?_ _) | (with_reducible refine Kd.C_drewN ?_ _) | (with_reducible refine Kd.C_drew ?_))); (case side2 => exact HC0.out); rintro e w21 ⟨v531, rfl, ho0, hb⟩; refine ⟨_, rfl, ?_⟩; have n0_ := Aside0.mk (Kd.R_elder' (by (with_reducible repeat (first | apply Kd.R_alloc | apply Kd.R_drewN | apply Kd.R_drew)); exact HO_8.out) (Kd.R_base ho0) hb); have n1_ := Aside0.mk (Kd.R_lower (Kd.R_new' ho0 (Kd.R_lt (by (with_reducible repeat (first | apply Kd.R_alloc | apply Kd.R_drewN | apply Kd.R_drew)); exact HO_8.out))) (below_size (by repeat (first | (with_reducible first | exact HB.out | apply below_alloc | apply pw_below_drewN | apply below_drew1) | exact HB.out)))); have n2_ := Aside0.mk (below_step (by repeat (first | (with_reducible first | exact HB.out | apply below_alloc | apply pw_below_drewN | apply below_drew1) | exact HB.out)) hb); clear HO_8; clear HB; have HO_8 := n0_; have HO532 := n1_; have HB := n2_; clear n0_ n1_ n2_; (try clear hb); (try clear hb2); (try clear hk); (try clear hi); (try clear ho0); obtain ⟨Ao22, co22, eo22⟩ := Kd.R_slice HO532.out; subst eo22) | ((with_reducible refine gate_callee (f := 19) rfl ?_); refine goesL_ (some 42) rfl rfl Tryd.func19 (by kernel_rfl) rfl #[.slice Ao14 t525.length co14, .slice Ao22 t530.length co22] rfl (by (try simp only [List.map_toArray, List.map_cons, List.map_nil]); first | done | rfl | (simp only [List.length_drop, List.length_take]; rfl)) ?_; (with_reducible refine (laws_eqLegS.calls kj8 _ _ t525 _ _ t530 true _ ?side1 ?side2 ?side3 ?side4 A19.out).mono ?_); (case side1 => repeat (first | exact (Kd.R_reads' HO_8.out).2.2 | (with_reducible refine Kd.C_alloc ?_ _) | (with_reducible refine Kd.C_drewN ?_ _) | (with_reducible refine Kd.C_drew ?_))); (case side2 => exact (Kd.R_reads' HO_8.out).2.1); (case side3 => repeat (first | exact (Kd.R_reads' HO532.out).2.2 | (with_reducible refine Kd.C_alloc ?_ _) | (with_reducible refine Kd.C_drewN ?_ _) | (with_reducible refine Kd.C_drew ?_))); (case side4 => exact (Kd.R_reads' HO532.out).2.1); rintro e w23 ⟨rfl, hb⟩; refine ⟨_, rfl, ?_⟩; have n0_ := Aside0.mk (Kd.R_below (by (with_reducible repeat (first | apply Kd.R_alloc | apply Kd.R_drewN | apply Kd.R_drew)); exact HO_8.out) hb); have n1_ := Aside0.mk (Kd.R_below (by (with_reducible repeat (first | apply Kd.R_alloc | apply Kd.R_drewN | apply Kd.R_drew)); exact HO532.out) hb); have n2_ := Aside0.mk (below_step (by repeat (first | (with_reducible first | exact HB.out | apply below_alloc | apply pw_below_drewN | apply below_drew1) | exact HB.out)) hb); clear HO_8; clear HO532; clear HB; have HO_8 := n0_; have HO532 := n1_; have HB := n2_; clear n0_ n1_ n2_; (try clear hb); (try clear hb2); (try clear hk); (try clear hi)))
            go_ret
            exact ⟨by first | rfl | (simp [errW_none, errW_some] <;> rfl) | (simp [*, errW_none, errW_some] <;> rfl), by repeat (first | (with_reducible first | exact HB.out | apply below_alloc | apply pw_below_drewN | apply below_drew1) | exact HB.out)⟩
          · replace c20 := Bool.eq_false_iff.mpr c20
            subst c20
            have H1 : (some false) = some r := by rw [if_neg (show ¬ (false = true) by decide)] at H; exact H
            clear H
            have H := H1
            clear H1
            obtain rfl := Option.some.inj H
            go_wp2_with (first | ((with_reducible refine gate_callee (f := 17) rfl ?_); refine goesL_ (some 41) rfl rfl Tryd.func17 (by kernel_rfl) rfl #[.slice A0 l0.length c0] rfl (by (try simp only [List.map_toArray, List.map_cons, List.map_nil]); first | done | rfl | (simp only [List.length_drop, List.length_take]; rfl)) ?_; (with_reducible refine (laws_toLegS.calls kj8 _ _ l0 t530 _ ?side1 ?side2 A18.out).mono ?_); (case side1 => repeat (first | exact (Kd.C_below HR0.out HB.out) | (with_reducible refine Kd.C_alloc ?_ _) | (with_reducible refine Kd.C_drewN ?_ _) | (with_reducible refine Kd.C_drew ?_))); (case side2 => exact HC0.out); rintro e w24 ⟨v531, rfl, ho0, hb⟩; refine ⟨_, rfl, ?_⟩; have n0_ := Aside0.mk (Kd.R_elder' (by (with_reducible repeat (first | apply Kd.R_alloc | apply Kd.R_drewN | apply Kd.R_drew)); exact HO_8.out) (Kd.R_base ho0) hb); have n1_ := Aside0.mk (Kd.R_lower (Kd.R_new' ho0 (Kd.R_lt (by (with_reducible repeat (first | apply Kd.R_alloc | apply Kd.R_drewN | apply Kd.R_drew)); exact HO_8.out))) (below_size (by repeat (first | (with_reducible first | exact HB.out | apply below_alloc | apply pw_below_drewN | apply below_drew1) | exact HB.out)))); have n2_ := Aside0.mk (below_step (by repeat (first | (with_reducible first | exact HB.out | apply below_alloc | apply pw_below_drewN | apply below_drew1) | exact HB.out)) hb); clear HO_8; clear HB; have HO_8 := n0_; have HO532 := n1_; have HB := n2_; clear n0_ n1_ n2_; (try clear hb); (try clear hb2); (try clear hk); (try clear hi); (try clear ho0); obtain ⟨Ao25, co25, eo25⟩ := Kd.R_slice HO532.out; subst eo25) | ((with_reducible refine gate_callee (f := 19) rfl ?_); refine goesL_ (some 42) rfl rfl Tryd.func19 (by kernel_rfl) rfl #[.slice Ao14 t525.length co14, .slice Ao25 t530.length co25] rfl (by (try simp only [List.map_toArray, List.map_cons, List.map_nil]); first | done | rfl | (simp only [List.length_drop, List.length_take]; rfl)) ?_; (with_reducible refine (laws_eqLegS.calls kj8 _ _ t525 _ _ t530 false _ ?side1 ?side2 ?side3 ?side4 A19.out).mono ?_); (case side1 => repeat (first | exact (Kd.R_reads' HO_8.out).2.2 | (with_reducible refine Kd.C_alloc ?_ _) | (with_reducible refine Kd.C_drewN ?_ _) | (with_reducible refine Kd.C_drew ?_))); (case side2 => exact (Kd.R_reads' HO_8.out).2.1); (case side3 => repeat (first | exact (Kd.R_reads' HO532.out).2.2 | (with_reducible refine Kd.C_alloc ?_ _) | (with_reducible refine Kd.C_drewN ?_ _) | (with_reducible refine Kd.C_drew ?_))); (case side4 => exact (Kd.R_reads' HO532.out).2.1); rintro e w26 ⟨rfl, hb⟩; refine ⟨_, rfl, ?_⟩; have n0_ := Aside0.mk (Kd.R_below (by (with_reducible repeat (first | apply Kd.R_alloc | apply Kd.R_drewN | apply Kd.R_drew)); exact HO_8.out) hb); have n1_ := Aside0.mk (Kd.R_below (by (with_reducible repeat (first | apply Kd.R_alloc | apply Kd.R_drewN | apply Kd.R_drew)); exact HO532.out) hb); have n2_ := Aside0.mk (below_step (by repeat (first | (with_reducible first | exact HB.out | apply below_alloc | apply pw_below_drewN | apply below_drew1) | exact HB.out)) hb); clear HO_8; clear HO532; clear HB; have HO_8 := n0_; have HO532 := n1_; have HB := n2_; clear n0_ n1_ n2_; (try clear hb); (try clear hb2); (try clear hk); (try clear hi)))
            go_ret
            exact ⟨by first | rfl | (simp [errW_none, errW_some] <;> rfl) | (simp [*, errW_none, errW_some] <;> rfl), by repeat (first | (with_reducible first | exact HB.out | apply below_alloc | apply pw_below_drewN | apply below_drew1) | exact HB.out)⟩

end Go.Proofs.YtiooiefjcbooeaaDoor.A

/- Slices of legs that a law copies and compares. No conditions. -/
namespace Go.Proofs.YtiooiefjcbooeaaDoor.Legs
open Go.RowKit Go.Proofs.YtiooiefjcbooeaaDoorW.PrintWords Go.Proofs.YtiooiefjcbooeaaDoor.Plain Go.Proofs.YtiooiefjcbooeaaDoor.A
set_option linter.unusedVariables false
set_option linter.unusedSimpArgs false
def cv (x : S58) : S56 := ⟨x.f0, x.f1, x.f2, x.f3, x.f4⟩
theorem toLegs_ev (l : List (S58)) (hb : l.length ≤ 7036874417766) : Ev (fun k => laws_toLegS.f k l) (l.map cv) := by
  unfold laws_toLegS.f
  refine Ev.pos (by omega) ?_
  refine Ev.pos (by omega) ?_
  exact copy_all laws_toLegS.l0 cv z58 _ (fun k x0 x3 x4 => by simp only [laws_toLegS.l0, laws_toLeg.f, Option.bind_some]; rfl) l (by omega)
theorem eqLegs_ev (l : List (S56)) (hb : l.length ≤ 140737488351232) : Ev (fun k => laws_eqLegS.f k l l) true := by
  unfold laws_eqLegS.f
  refine Ev.pos rfl ?_
  exact eq_all laws_eqLegS.l0 (fun k x0 x4 h0 => by
    simp only [laws_eqLegS.l0, laws_eqLeg.f, if_true, Option.bind_some]
    by_cases h : x4 < (x0.length : Int)
    · rw [if_pos h, if_pos h0, if_pos h, if_pos h]
    · rw [if_neg h, if_neg h]) l hb
theorem szLegs_eq (l : List (S58)) (hb : l.length ≤ 140737488351232) : laws_szLegS.f l 1048576 = some (if l.length ≤ 1048576 then 1048576 - (l.length : Int) else -1) := by
  unfold laws_szLegS.f
  rw [w64 (by omega) (by omega)]
  by_cases h : l.length ≤ 1048576
  · rw [if_neg (by omega), if_pos h]
  · rw [if_pos (by omega), if_neg h]
end Go.Proofs.YtiooiefjcbooeaaDoor.Legs

/- The law FnExactLoopLength, as a plain statement: the program's LoopLength answers what the reference's answers. Conditions: those of the row's own reading. -/
namespace Go.Proofs.YtiooiefjcbooeaaDoor.Pure
open Go.RowKit Go.Proofs.YtiooiefjcbooeaaDoorW.PrintWords Go.Proofs.YtiooiefjcbooeaaDoor.Plain Go.Proofs.YtiooiefjcbooeaaDoor.A Go.Proofs.YtiooiefjcbooeaaDoor.Legs
set_option linter.unusedVariables false
set_option linter.unusedSimpArgs false
theorem FnExactLoopLength (l0 : List (S58)) (a1 : Int) (hb : l0.length * 40 ≤ 140737488351232) (_ : ∀ x ∈ l0, (Lit.int .i64 x.f0).wf = true ∧ (Lit.int .i64 x.f1).wf = true ∧ (Lit.int .i64 x.f2).wf = true ∧ (Lit.int .i64 x.f3).wf = true ∧ (Lit.int .i64 x.f4).wf = true) (_ : (Lit.int .i64 a1).wf = true) : ∃ k, laws_FnExactLoopLength.f k l0 a1 = some true := by
  refine Ev.rounds ?_
  have hl : (l0.map cv).length = l0.length := by simp
  have hsz := szLegs_eq l0 (by omega)
  by_cases c : l0.length ≤ 1048576
  · rw [if_pos c] at hsz
    obtain ⟨B, hB⟩ : ∃ B : Int × Bool, B = if Net.legsB (l0.map cv) = true ∧ a1 ∈ Net.closeL (l0.map cv) then (Net.loopLen (l0.map cv) a1, true) else (0, false) := ⟨_, rfl⟩
    have hi : impl_LoopLength.f (l0.map cv) a1 = some (B.1, B.2) := by unfold impl_LoopLength.f; rw [if_pos (by omega), hB]
    have hs : Ev (fun k => spec_LoopLength.f k (l0.map cv) a1) B := by rw [hB]; exact Net.specLoopLength_ev _ a1 (by omega)
    clear hB
    have hlegs := toLegs_ev l0 (by omega)
    refine Ev.bindc hsz (Ev.neg (by omega) ?_)
    refine Ev.bind hlegs (Ev.bind hs (Ev.bind hlegs (Ev.bindc hi (Ev.pos rfl ?_))))
    refine Ev.step (f := fun k => (laws_toLegS.f k l0).bind fun t => (laws_eqLegS.f k (l0.map cv) t).bind fun t' => if t' = true then some true else some false) (fun k => ?_) ?_
    · simp only [laws_FnExactLoopLength.j0, bne_self_eq_false, Bool.false_eq_true, if_false]
    · exact Ev.bind hlegs (Ev.bind (eqLegs_ev _ (by omega)) (Ev.pos rfl (Ev.now _)))
  · rw [if_neg c] at hsz
    exact Ev.bindc hsz (Ev.pos (by decide) (Ev.now _))
end Go.Proofs.YtiooiefjcbooeaaDoor.Pure

/- General laws by which a law's arguments are opened: a slice of structs whose fields are integers or bools, as a row of the print's kinds; a struct by value. No conditions. -/
namespace Go.Proofs.YtiooiefjcbooeaaDoor.Opens
open Go.ChangeShapes Go.WideShapes Go.Deep Go.RowKit Go.Proofs.YtiooiefjcbooeaaDoorW.PrintWords

theorem list_of {α : Type} {P : Nat → α → Prop} : ∀ (n : Nat), (∀ i, i < n → ∃ x, P i x) → ∃ xs : List α, xs.length = n ∧ ∀ i x, xs[i]? = some x → P i x
  | 0, _ => ⟨[], rfl, fun i x h => by simp at h⟩
  | n + 1, h => by
    obtain ⟨xs, hl, hx⟩ := list_of n (fun i hi => h i (Nat.lt_succ_of_lt hi))
    obtain ⟨y, hy⟩ := h n (Nat.lt_succ_self n)
    refine ⟨xs ++ [y], by simp [hl], fun i x hi => ?_⟩
    by_cases hlt : i < xs.length
    · rw [List.getElem?_append_left hlt] at hi
      exact hx i x hi
    · rw [List.getElem?_append_right (by omega)] at hi
      have h0 : i - xs.length = 0 := by
        have := (List.getElem?_eq_some_iff.1 hi).1
        simp at this
        omega
      rw [h0] at hi
      simp at hi
      subst hi
      have : i = n := by omega
      subst this
      exact hy

section
variable {H : Type} {enc : TypeId × Value → H} {P : Program} {w : World} {base : Nat} {spare : Nat → Bool} {held : Bool}
/-- A slice of structs, opened: the list of what its elements are, each by the kind's own reading. -/
theorem open_row {α : Type} (d : Kd α) {Q : α → Prop} {t e : TypeId} {a : Option Addr} {len cap : Nat} {dd : DataW H} {ps : List MemPlace} (ht : P.underlying t = some (.slice e)) (hC : P.cellsOf e = d.sz)
    (hd : ∀ n cs y, DataW.trod enc P w base spare held n e cs = some y → ∃ x, d.K w x cs ∧ Q x)
    (h : DataW.Trod enc P w base spare held t (.slice a len cap) dd ps) : ∃ xs : List α, xs.length = len ∧ len ≤ cap ∧ d.C w a len xs ∧ ∀ x ∈ xs, Q x := by
  obtain ⟨fuel, hf⟩ := h
  rcases open_slice ht hf with ⟨hcs, _⟩ | ⟨x, l, c, m, n, D, Pl, hcs, _, hl, hm, hmm, _, hi⟩
  · simp [Value.cells] at hcs
    obtain ⟨rfl, rfl, rfl⟩ := hcs
    exact ⟨[], rfl, Nat.le_refl _, ⟨rfl, by omega, fun h => by omega⟩, fun x hx => by simp at hx⟩
  · simp [Value.cells] at hcs
    obtain ⟨rfl, rfl, rfl⟩ := hcs
    have hle : len ≤ m := by subst hmm; split <;> omega
    obtain ⟨xs, hxl, hx⟩ := list_of (P := fun i (z : α) => Q z ∧ ∃ cs, d.K w z cs ∧ w.cells? base (x.add (i * d.sz)) d.sz = some cs) len (fun i hil => by
      obtain ⟨cs, h1, h2⟩ := hi i (by omega)
      rw [hC] at h1
      obtain ⟨z, h3, h4⟩ := hd _ _ _ h2
      exact ⟨z, h4, cs, h3, h1⟩)
    refine ⟨xs, hxl, hl, ⟨hxl, by unfold maxLen at hm; omega, fun _ => ⟨x, rfl, fun j p hp => ?_⟩⟩, fun z hz => ?_⟩
    · obtain ⟨_, cs, h1, h2⟩ := hx j p hp
      obtain ⟨_, hlen, hat⟩ := World.cells?_some h2
      refine ⟨cs, hlen, h1, fun i u hu => ?_⟩
      have hil : i < d.sz := by have := (List.getElem?_eq_some_iff.1 hu).1; omega
      rw [← Go.Deep.add_add, hat i hil, hu]
    · obtain ⟨j, hj⟩ := List.getElem?_of_mem hz
      exact (hx j z hj).1

theorem sized_row {t e : TypeId} {a : Option Addr} {len cap : Nat} {d : DataW H} {ps : List MemPlace} {ts : List TypeId} {ds : List (DataW H)} {j : Nat}
    (hsz : (DataW.weightsEach P ts ds).all (· ≤ reachBytes) = true) (ht : ts[j]? = some t) (hd : ds[j]? = some d) (hu : P.underlying t = some (.slice e)) {B : Nat} (hB : P.bytesOf e = B)
    (h : DataW.Trod enc P w base spare held t (.slice a len cap) d ps) : len * B ≤ 140737488351232 := by
  obtain ⟨fuel, hf⟩ := h
  rcases open_slice hu hf with ⟨hcs, _⟩ | ⟨x, l, c, m, n, D, Pl, hcs, _, hl, hm, hmm, hx, hi⟩
  · simp [Value.cells] at hcs
    obtain ⟨rfl, rfl, rfl⟩ := hcs
    simp
  · simp [Value.cells] at hcs
    obtain ⟨rfl, rfl, rfl⟩ := hcs
    obtain ⟨hx, _⟩ := Prod.mk.inj hx
    subst hx
    have z := sized_slice hsz ht hd hu
    rw [hB] at z
    simp only [List.length_map, List.length_range] at z
    have hle : len ≤ m := by subst hmm; split <;> omega
    rw [show len + (m - len) = m by omega] at z
    exact Nat.le_trans (Nat.mul_le_mul_right _ hle) z

theorem one_field {f : Field} {cs : List Value} {o c : Nat} (ho : f.offset = o) (hc : P.cellsOf f.type = c) {n : Nat} {y : Option (DataW H × List MemPlace)} (h : DataW.trod enc P w base spare held n f.type ((cs.drop f.offset).take (P.cellsOf f.type)) = y) : DataW.trod enc P w base spare held n f.type ((cs.drop o).take c) = y := by rw [← ho, ← hc]; exact h
end
theorem len5 {α : Type} : ∀ {l : List α}, l.length = 5 → ∃ x0 x1 x2 x3 x4, l = [x0, x1, x2, x3, x4]
  | [x0, x1, x2, x3, x4], _ => ⟨x0, x1, x2, x3, x4, rfl⟩
end Go.Proofs.YtiooiefjcbooeaaDoor.Opens

namespace Go.Proofs.YtiooiefjcbooeaaDoor.fnExactLoopLength
open Go.ChangeShapes Go.WideShapes Go.ChangeAt Go.RowKit
open Go.ChangeMaps (open_string shut_string)
open Go.Proofs.YtiooiefjcbooeaaDoor.A Go.Proofs.YtiooiefjcbooeaaDoorW.PrintWords Go.Proofs.YtiooiefjcbooeaaDoor.Opens
set_option linter.unusedVariables false
theorem own : ownKnob Tryd.prog.godebug = none := by kernel_rfl
theorem laidOut : laidOutB Tryd.prog = true := by kernel_rfl
theorem open_58 {H : Type} {enc : TypeId × Value → H} {w : World} {base : Nat} {spare : Nat → Bool} {held : Bool} {n : Nat} {cs : List Value} {y : DataW H × List MemPlace} (h : DataW.trod enc Tryd.prog w base spare held n 58 cs = some y) : ∃ (x0 : Int) (x1 : Int) (x2 : Int) (x3 : Int) (x4 : Int), cs = [.int .i64 x0, .int .i64 x1, .int .i64 x2, .int .i64 x3, .int .i64 x4] ∧ (Lit.int .i64 x0).wf = true ∧ (Lit.int .i64 x1).wf = true ∧ (Lit.int .i64 x2).wf = true ∧ (Lit.int .i64 x3).wf = true ∧ (Lit.int .i64 x4).wf = true := by
  obtain ⟨ys, n', _, _, hlen, hys, hf⟩ := DataW.trod_struct Tryd.underlying58 h
  replace hlen : cs.length = 5 := hlen.trans (by kernel_rfl)
  replace hys : ys.length = 5 := hys.trans (by kernel_rfl)
  clear h
  obtain ⟨c0, c1, c2, c3, c4, rfl⟩ := len5 hlen
  obtain ⟨y0, y1, y2, y3, y4, rfl⟩ := len5 hys
  have h0 : DataW.trod enc Tryd.prog w base spare held n' 3 [c0] = some y0 := one_field (c := 1) (o := 0) rfl (by kernel_rfl) (hf 0 _ rfl)
  obtain ⟨x0, e0, _, w0⟩ := DataW.trod_int Tryd.underlying3 h0
  obtain rfl : c0 = _ := (List.cons.inj e0).1
  have h1 : DataW.trod enc Tryd.prog w base spare held n' 3 [c1] = some y1 := one_field (c := 1) (o := 1) rfl (by kernel_rfl) (hf 1 _ rfl)
  obtain ⟨x1, e1, _, w1⟩ := DataW.trod_int Tryd.underlying3 h1
  obtain rfl : c1 = _ := (List.cons.inj e1).1
  have h2 : DataW.trod enc Tryd.prog w base spare held n' 3 [c2] = some y2 := one_field (c := 1) (o := 2) rfl (by kernel_rfl) (hf 2 _ rfl)
  obtain ⟨x2, e2, _, w2⟩ := DataW.trod_int Tryd.underlying3 h2
  obtain rfl : c2 = _ := (List.cons.inj e2).1
  have h3 : DataW.trod enc Tryd.prog w base spare held n' 3 [c3] = some y3 := one_field (c := 1) (o := 3) rfl (by kernel_rfl) (hf 3 _ rfl)
  obtain ⟨x3, e3, _, w3⟩ := DataW.trod_int Tryd.underlying3 h3
  obtain rfl : c3 = _ := (List.cons.inj e3).1
  have h4 : DataW.trod enc Tryd.prog w base spare held n' 3 [c4] = some y4 := one_field (c := 1) (o := 4) rfl (by kernel_rfl) (hf 4 _ rfl)
  obtain ⟨x4, e4, _, w4⟩ := DataW.trod_int Tryd.underlying3 h4
  obtain rfl : c4 = _ := (List.cons.inj e4).1
  exact ⟨x0, x1, x2, x3, x4, rfl, w0, w1, w2, w3, w4⟩
set_option maxRecDepth 100000 in
theorem lifted (os : Os) (started : os.Started) (H : Type) (enc : TypeId × Value → H) :
    ReturnsInHanded {} Tryd.checked os 7 .any (fun w args => (Rows.fnExactLoopLengthSpec.pre enc Tryd.prog Tryd.f7 [] false w args ∧ laidMetH Tryd.prog LaidT.list w) ∧ sizedMet enc Tryd.prog Tryd.f7 (OpenSpec.ofChange Rows.fnExactLoopLengthSpec) false w args) (Rows.fnExactLoopLengthSpec.post enc Tryd.prog Tryd.f7 false true false false) := by
  refine returnsInHanded_of_change_and (C := Tryd.checked) (X := fun w _ => laidMetH Tryd.prog LaidT.list w) (fun _ _ _ hh h => h.of_heap hh) own started (by kernel_rfl) Tryd.func7
    (ChangeSpec.witness_shaped (enc := enc) (C := Tryd.checked) (os := os) (X := fun w _ => laidMetH Tryd.prog LaidT.list w) false (World.doorLaid Tryd.prog 400 os) #[.slice none 0 0, .int .i64 0] 8 rfl (World.shaped_of_RefB (by kernel_rfl) (by kernel_rfl)) (by kernel_rfl) (by kernel_rfl) (by kernel_rfl) (LaidT.door_met os _)) ?_
  intro W base args ds gs before hval0 hW hcnd hsz0 hL _
  have hsz : (DataW.weightsEach Tryd.prog (Tryd.f7.params.toList ++ Rows.fnExactLoopLengthSpec.plain.varTypes Tryd.prog) (ds ++ gs)).all (· ≤ reachBytes) = true := hsz0
  have hval : ∀ (j : Nat) t v, Tryd.f7.params[j]? = some t → args[j]? = some v → Value.okWide Tryd.prog W .any base t v := hval0
  have hW' := hW
  obtain ⟨p, q, hA0, hV, rfl, hfz, hnd⟩ := hW
  have hA : DataW.TrodAll enc Tryd.prog W 0 (fun _ => true) true Tryd.f7.params.toList args.toList ds p := hA0
  rw [Tryd.params7] at hA hval hsz
  obtain ⟨v0, vs0, d0, ds0, p0, q0, hargs, rfl, rfl, h0, r0⟩ := trodAll_cons hA
  obtain ⟨v1, vs1, d1, ds1, p1, q1, rfl, rfl, rfl, h1, r1⟩ := trodAll_cons r0
  obtain ⟨rfl, rfl, rfl⟩ := trodAll_nil r1
  obtain rfl : args = #[v0, v1] := by cases args; simp_all
  have hV2 := hV
  obtain ⟨_, _, _, _, gd, _, rfl, _, _, _, _, _⟩ := trodVars_one hV
  have k0 := h0
  have lt0 : ∀ x ∈ p0, x.block < W.heap.size := by obtain ⟨m, hm⟩ := k0; exact DataW.trod_lt m _ _ _ hm
  obtain ⟨a0, len0, cap0, rfl⟩ := okWide_slice Tryd.underlying22 (hval 0 22 v0 rfl rfl)
  obtain ⟨l0, hl0, hc0, hr0, hw0⟩ := Opens.open_row k58 (Q := fun x => (Lit.int .i64 x.f0).wf = true ∧ (Lit.int .i64 x.f1).wf = true ∧ (Lit.int .i64 x.f2).wf = true ∧ (Lit.int .i64 x.f3).wf = true ∧ (Lit.int .i64 x.f4).wf = true) (e := 58) Tryd.underlying22 (by kernel_rfl) (fun _ _ _ h => by obtain ⟨x0, x1, x2, x3, x4, rfl, hw⟩ := open_58 h; exact ⟨⟨x0, x1, x2, x3, x4⟩, k58_mk _ _, hw⟩) h0
  have y0 : len0 * 40 ≤ 140737488351232 := Opens.sized_row hsz (j := 0) (t := 22) rfl rfl Tryd.underlying22 (by kernel_rfl) h0
  subst hl0
  obtain ⟨a1, rfl, rfl, rfl, w1⟩ := open_int Tryd.underlying3 (hval 1 3 v1 rfl rfl) h1
  clear hA0 hval0 hsz0 hsz
  obtain ⟨k, hk⟩ := Pure.FnExactLoopLength l0 a1 y0 hw0 w1
  refine (laws_FnExactLoopLength.calls k _ _ l0 a1 true W hr0 hc0 hk (LaidT.of_laid hL)).mono fun e W' ⟨he, hb⟩ => ?_
  have bel : Below W.heap.size W W' := hb
  subst he
  exact ⟨_, rfl, _, _, _, [], _, _, hW', trodAll_mk1 (shut_bool Tryd.underlying4 _), (trodAll_cons_mk (Below.trod laidOut (by kernel_rfl) (of_decide_eq_true (by kernel_rfl)) k0 bel lt0) (trodAll_cons_mk (shut_int Tryd.underlying3 w1) trodAll_mk0)), Below.trodVars laidOut bel (by kernel_rfl) hV2, bel.frame _, fun h => by cases h⟩
theorem over : Rows.fnExactLoopLengthRow.holds Tryd.pinned (OpenSpec.ofChange Rows.fnExactLoopLengthSpec) :=
  OpenClaim.holds_of_wide 7 Tryd.f7 rfl rfl rfl rfl rfl rfl rfl ⟨rfl, rfl, rfl, rfl, rfl⟩ rfl rfl rfl rfl rfl (by kernel_rfl) Tryd.func7 (by kernel_rfl)
    (of_decide_eq_true (by kernel_rfl)) (by unfold Func.isWrapper; first | (rw [if_pos (by decide +kernel)]; kernel_rfl) | (rw [if_neg (by decide +kernel)]; exact ⟨rfl, rfl⟩))
    (fun os started H enc _ => lifted os started H enc)
theorem proved : Rows.FnExactLoopLengthSaid := over
theorem card_holds : Rows.FnExactLoopLengthCardSaid :=
  Claim7.holds_tied_plain_at .later [] [.data] true (true, "f7459f8bb7d25b8a76c6a5470673fe8532312535b90f7e9f3582109fee47265b") false
    over (fun _ h => by cases h) (by kernel_rfl) (fun _ h => by cases h) fnExactLoopLength_row_tie rfl ⟨rfl, rfl⟩ (by kernel_rfl) rfl
    (fun f fn hf hfn => by
      obtain rfl : f = 7 := Option.some.inj ((show Tryd.prog.funcNamed "loop.example/g00933/laws.FnExactLoopLength" = some 7 by kernel_rfl).symm.trans hf) |>.symm
      obtain rfl : fn = Tryd.f7 := (Option.some.inj (Tryd.func7.symm.trans hfn)).symm
      exact ⟨by kernel_rfl, fun j t ht => by
        rw [Tryd.params7] at ht
        have hm : t ∈ [22, 3] := by simpa using Array.mem_of_getElem? ht
        have hall : ([22, 3].all fun u => !Tryd.prog.wantsStandIn u) = true := by kernel_rfl
        exact (show Tryd.prog.wantsStandIn t = false by simpa using List.all_eq_true.1 hall t hm)⟩)
    (by kernel_rfl)
#print axioms card_holds
end Go.Proofs.YtiooiefjcbooeaaDoor.fnExactLoopLength
namespace Go.Proofs.YtiooiefjcbooeaaDoor
/-- The row, under a short name, for the claim. -/
theorem fnExactLoopLength_holds : Rows.FnExactLoopLengthCardSaid := fnExactLoopLength.card_holds
end Go.Proofs.YtiooiefjcbooeaaDoor
