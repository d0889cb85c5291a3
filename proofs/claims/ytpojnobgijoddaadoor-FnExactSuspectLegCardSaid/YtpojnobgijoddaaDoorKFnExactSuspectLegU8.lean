/- The law FnExactSuspectLeg, as a plain statement: the program's SuspectLeg answers what the reference's answers. Conditions: those of the row's own reading. -/
import Derived.Test.YtpojnobgijoddaaDoorKFnExactSuspectLegU7
set_option maxHeartbeats 8000000
set_option maxRecDepth 100000
set_option linter.unusedSimpArgs false
set_option linter.unusedVariables false
namespace Go.Proofs.YtpojnobgijoddaaDoor.Net
open Go Go.Maps Go.WideElems Go.ChangeShapes Go.RowKit YtpojnobgijoddaaDoorW.PrintWords YtpojnobgijoddaaDoorW.PrintLast YtpojnobgijoddaaDoorW.PrintMore A Plain
open Tree (verts legs W)
open Grow (Q)
theorem pathBridge (A : Option Addr) (c : Nat) (ls : L) (p0 : Addr) (use : Int → Bool) (r dst : Int) (w : World) (hr0 : Kd.C k45 w A ls.length ls) (hc : ls.length ≤ c) (hn : ls.length ≤ 12) (hg : ∀ x ∈ ls, Good x) (hr : 0 ≤ r ∧ r < 8) (hd : 0 ≤ dst ∧ dst < 8)
    (HU : ∀ (i : Nat) (W : World), i < ls.length → Below w.heap.size w W → Calls Tryd.prog 66 #[.int .i64 (i : Int), .pointer (some p0)] W fun e W' => e = .returned (.bool (use i)) ∧ W' = W) (R : Q) (hR : Bfs.run (ends ls) use r ls.length 9 0 [] = R) :
    Calls Tryd.prog 65 #[.slice A ls.length c, .func (Fn.func 66) #[] #[.pointer (some p0)], .int .i64 r, .int .i64 dst] w (PathPost (ends ls) r dst R w) := by
  have HR := Aside0.mk hr0
  have HG := Aside0.mk hg
  have HU' := Aside0.mk HU
  have HB := Aside0.mk (Below.refl w.heap.size w)
  obtain ⟨w1, hrun, hmap, hbel, hsz⟩ := MapAt.new w r hr.1 (by omega)
  have hmk := run_makeMap (P := Tryd.prog) 106 w
  have HM := Aside0.mk hmap
  have HB1 := Aside0.mk hbel
  have HI := Aside0.mk (show OutInv ls use r R 0 [] from ⟨Bfs.Ok.nil _ _ _ _, by simp, 9, hR, by omega⟩)
  clear hr0 hg HU hmap hbel hR
  go_enter Tryd.func65, Tryd.ntmps65
  go_wp2
  have HO := Aside0.mk (R_lits [r] w1 w.heap.size (fun b => b ≠ w.heap.size) (by omega) (by omega) (by simp))
  replace HM := Aside0.mk (HM.out.below (below_alloc (Below.refl w1.heap.size w1) (Obj.cells #[Value.int IntKind.i64 r] 3)))
  replace HB1 := Aside0.mk (below_alloc HB1.out (Obj.cells #[Value.int IntKind.i64 r] 3))
  rw [show ([r].map (Value.int .i64)).toArray = #[Value.int IntKind.i64 r] from rfl] at HO
  clear hmk hrun hsz HB
  go_loopw [12, 13] (fun v12 v13 w' => ∃ (k : Nat) (q : Q), v13 = .int .i64 k ∧ Aside0 (OutInv ls use r R k q) ∧ Aside0 (Kd.R (Kd.int .i64) 3 w' w.heap.size (fun b => b ≠ w.heap.size) v12 (Bfs.queue r q)) ∧ Aside0 (MapAt w' w.heap.size (q.length + 1) (bef r q)) ∧ Aside0 (Below w.heap.size w w')) (fun _ v13 _ => 9 - (intOf v13).toNat)
  case atStart => exact ⟨0, [], rfl, HI, HO, HM, HB1⟩
  case round =>
    obtain ⟨k, q, rfl, HI2, HO2, HM2, HB⟩ := hrel
    clear HI HO HM HB1
    obtain ⟨qA, qC, eq_⟩ := Kd.R_slice HO2.out
    subst eq_
    have HQL := Aside0.mk (Bfs.queue_len r q)
    have HQ7 := Aside0.mk (HI2.out.1.len (ends ls) use r hr (Good.range HG.out))
    by_cases hk : k < (Bfs.queue r q).length
    · have hkI : (k : Int) < ((Bfs.queue r q).length : Int) := by omega
      have HK := Aside0.mk hk
      obtain ⟨a, hqa⟩ : ∃ a, a = (Bfs.queue r q).getD k 0 := ⟨_, rfl⟩
      have HQA := Aside0.mk hqa
      have HAV : Aside0 (a ∈ verts r q) := ⟨by
        rw [hqa, ← Bfs.mem_queue, List.getD_eq_getElem?_getD, List.getElem?_eq_getElem hk]
        exact List.getElem_mem hk⟩
      have HA8 : Aside0 (0 ≤ a ∧ a < 8) := ⟨okRange HI2.out.1 hr (Good.range HG.out) a HAV.out⟩
      have HIn := Aside0.mk (show InInv ls use r a q 0 q from ⟨HI2.out.1, Bfs.Ext.refl q, rfl⟩)
      clear hk hqa
      go_wp2
      go_loopw [12, 38] (fun v12 v38 w' => ∃ (i : Nat) (p : Q), v38 = .int .i64 i ∧ i ≤ ls.length ∧ Aside0 (InInv ls use r a q i p) ∧ Aside0 (Kd.R (Kd.int .i64) 3 w' w.heap.size (fun b => b ≠ w.heap.size) v12 (Bfs.queue r p)) ∧ Aside0 (MapAt w' w.heap.size (p.length + 1) (bef r p)) ∧ Aside0 (Below w.heap.size w w')) (fun _ v38 _ => ls.length - (intOf v38).toNat)
      case atStart => exact ⟨0, q, rfl, Nat.zero_le _, HIn, HO2, HM2, HB⟩
      case round =>
        obtain ⟨i, p, rfl, hi, HJ, HO, HM, HB2⟩ := hrel
        clear HIn HO2 HM2 HB
        have HB := HB2
        clear HB2
        obtain ⟨qA2, qC2, eq_⟩ := Kd.R_slice HO.out
        subst eq_
        by_cases hlt : i < ls.length
        · obtain ⟨_, e2, h0, h1, h2, h3, h4⟩ := at_T45 HR.out (i : Int) (by omega) (by omega)
          cases e2
          have HX : Aside0 (Good (leg ls (i : Int))) := ⟨leg_good HG.out i hlt⟩
          have HE := Aside0.mk (show ends ls i = ((leg ls i).f0, (leg ls i).f1) from rfl)
          rw [Int.toNat_natCast, show rd_T45 ls (i : Int) = leg ls i from rfl] at h0 h1 h2 h3 h4
          have qk : ∃ ad, qA2 = some ad ∧ wr.cell? (ad.add k) = some (.int .i64 a) := by
            obtain ⟨t, ht⟩ := HJ.out.2.1.queue r
            obtain ⟨ad, h1, h2⟩ := Kd.at_int (Kd.R_reads' HO.out).2.2 (k : Int) (by omega) (by rw [ht, List.length_append]; have := HK.out; omega)
            refine ⟨ad, h1, ?_⟩
            rw [Int.toNat_natCast] at h2
            rw [h2]
            show some (Value.int .i64 ((Bfs.queue r p).getD (k : Int).toNat 0)) = _
            rw [Int.toNat_natCast, HQA.out, ← HJ.out.2.1.queue_getD r HK.out]
          obtain ⟨qad, eqa, qk⟩ := qk
          subst eqa
          have hkI2 : (k : Int) < ((Bfs.queue r p).length : Int) := by
            obtain ⟨t, ht⟩ := HJ.out.2.1.queue r
            rw [ht, List.length_append]; have := HK.out; omega
          have hkI0 : (0 : Int) ≤ (k : Int) := by omega
          generalize leg ls (i : Int) = x at *
          replace h0 := Sine.keepc h0 HB.out
          replace h1 := Sine.keepc h1 HB.out
          replace h2 := Sine.keepc h2 HB.out
          replace h3 := Sine.keepc h3 HB.out
          replace h4 := Sine.keepc h4 HB.out
          go_wp2
          have B1 := below_alloc (Below.refl wr.heap.size wr) (Obj.cells #[Value.int IntKind.i64 x.f0, Value.int IntKind.i64 x.f1, Value.int IntKind.i64 x.f2, Value.int IntKind.i64 x.f3, Value.int IntKind.i64 x.f4] 45)
          replace HB := Aside0.mk (below_step HB.out B1)
          replace HM := Aside0.mk (HM.out.below B1)
          replace HO := Aside0.mk (Kd.R_alloc HO.out (Obj.cells #[Value.int IntKind.i64 x.f0, Value.int IntKind.i64 x.f1, Value.int IntKind.i64 x.f2, Value.int IntKind.i64 x.f3, Value.int IntKind.i64 x.f4] 45))
          replace qk := Sine.keepc qk B1
          clear B1 h0 h1 h2 h3 h4
          have h0 : (wr.alloc (Obj.cells #[Value.int IntKind.i64 x.f0, Value.int IntKind.i64 x.f1, Value.int IntKind.i64 x.f2, Value.int IntKind.i64 x.f3, Value.int IntKind.i64 x.f4] 45)).cell? ⟨wr.heap.size, 0, none⟩ = some (.int .i64 x.f0) := by go_simp
          have h1 : (wr.alloc (Obj.cells #[Value.int IntKind.i64 x.f0, Value.int IntKind.i64 x.f1, Value.int IntKind.i64 x.f2, Value.int IntKind.i64 x.f3, Value.int IntKind.i64 x.f4] 45)).cell? ⟨wr.heap.size, 1, none⟩ = some (.int .i64 x.f1) := by go_simp
          generalize wr.alloc (Obj.cells #[Value.int IntKind.i64 x.f0, Value.int IntKind.i64 x.f1, Value.int IntKind.i64 x.f2, Value.int IntKind.i64 x.f3, Value.int IntKind.i64 x.f4] 45) = W1 at *
          generalize wr.heap.size = X at *
          have w0 : wrap64 (x.f0 + x.f1) = x.f0 + x.f1 := by have := HX.out; have a1 := this.1; have a2 := this.2.1; unfold wrap64; omega
          have w2 : wrap64 (x.f0 + x.f1 - a) = x.f0 + x.f1 - a := by have := HX.out; have a1 := this.1; have a2 := this.2.1; have a3 := HA8.out; unfold wrap64; omega
          have na8 := HA8.out
          have nx0 := HX.out.1
          have nx1 := HX.out.2.1
          by_cases c1 : x.f0 = a
          · have v0 : wrap64 (a + x.f1) = a + x.f1 := by rw [← c1]; exact w0
            have v1 : wrap64 (a + x.f1 - a) = x.f1 := by unfold wrap64; omega
            have v2 : a + x.f1 - a = x.f1 := by omega
            go_quiet (fail)
            go_wp2
            have BD := pw_below_drewN (Below.refl W1.heap.size W1) nq
            replace HB := Aside0.mk (below_step HB.out BD)
            replace HM := Aside0.mk (HM.out.below BD)
            replace HO := Aside0.mk (Kd.R_drewN HO.out nq)
            replace h0 := Sine.keepc h0 BD
            replace h1 := Sine.keepc h1 BD
            replace qk := Sine.keepc qk BD
            clear BD
            generalize W1.drewN nq = W2 at *
            cases hu : use (i : Int)
            · have HUi := fun W hb => HU'.out i W hlt hb
              rw [hu] at HUi
              replace HUi := Aside0.mk HUi
              go_quiet (first | (go_at_call 66; refine (HUi.out _ qz6).mono ?_; rintro e w' ⟨rfl, rfl⟩; exact ⟨rfl, _, rfl⟩))
              go_wp2
              exact ⟨⟨i + 1, p, by go_num, by omega, ⟨HJ.out.skip hlt (Or.inr hu)⟩, ⟨Kd.R_drewN HO.out _⟩, ⟨HM.out.below (pw_below_drewN (Below.refl _ _) _)⟩, ⟨pw_below_drewN HB.out _⟩⟩, by simp [intOf]; omega⟩
            · have HUi := fun W hb => HU'.out i W hlt hb
              rw [hu] at HUi
              replace HUi := Aside0.mk HUi
              go_quiet (first | (go_at_call 66; refine (HUi.out _ qz6).mono ?_; rintro e w' ⟨rfl, rfl⟩; exact ⟨rfl, _, rfl⟩))
              have BD := pw_below_drewN (Below.refl W2.heap.size W2) nq
              replace HB := Aside0.mk (below_step HB.out BD)
              replace HM := Aside0.mk (HM.out.below BD)
              replace HO := Aside0.mk (Kd.R_drewN HO.out nq)
              replace h0 := Sine.keepc h0 BD
              replace h1 := Sine.keepc h1 BD
              replace qk := Sine.keepc qk BD
              clear BD
              generalize W2.drewN nq = W3 at *
              have hlk := (HM.out.look x.f1 (by omega) (by omega)).1
              have hmem := bef_some (r := r) (q := p) x.f1
              have HSTEP := Aside0.mk (HJ.out.next hlt HAV.out)
              have hot : Bfs.other (ends ls) i a = x.f1 := by unfold Bfs.other; rw [HE.out]; simp only; omega
              have hnsk : ¬ (((ends ls i).1 ≠ a ∧ (ends ls i).2 ≠ a) ∨ use i = false) := by
                rw [HE.out, hu]
                rintro (⟨d1, d2⟩ | d1)
                · first | exact d1 c1 | exact d2 c2
                · cases d1
              by_cases hin : x.f1 ∈ verts r p
              · rw [decide_eq_true hin] at hmem
                have hlook : Bfs.look (ends ls) use r a p i = p := by unfold Bfs.look; rw [if_neg hnsk, hot, if_pos hin]
                rw [hmem] at hlk
                rw [hlook] at HSTEP
                clear hmem hot hnsk hlook hin
                go_wp2
                exact ⟨⟨i + 1, p, by go_num, by omega, HSTEP, HO, HM, HB⟩, by simp [intOf]; omega⟩
              · rw [decide_eq_false hin] at hmem
                have hlook : Bfs.look (ends ls) use r a p i = ((i : Int), a, x.f1) :: p := by unfold Bfs.look; rw [if_neg hnsk, hot, if_neg hin]
                rw [hmem] at hlk
                rw [hlook] at HSTEP
                have HP7 := Aside0.mk (HJ.out.1.len (ends ls) use r hr (Good.range HG.out))
                obtain ⟨W4, hst, hm4, hg4⟩ := HM.out.store (by have := HP7.out; omega) x.f1 (i : Int) (by omega) (by omega) (by omega) (by omega)
                have HM4 := Aside0.mk hm4
                have HG4 := Aside0.mk hg4
                have HNE := Aside0.mk (show x.f1 ≠ r from fun e => hin (by rw [e]; simp [verts]))
                have HBM : Aside0 (bef r (((i : Int), a, x.f1) :: p) = fun y => if y = x.f1 then some (i : Int) else bef r p y) := ⟨by funext y; exact bef_cons HNE.out y⟩
                have HQQ : Aside0 (Bfs.queue r (((i : Int), a, x.f1) :: p) = Bfs.queue r p ++ [x.f1]) := ⟨by simp [Bfs.queue]⟩
                have HMB : Aside0 (w.heap.size < W3.heap.size) := ⟨HM.out.lt⟩
                have HO4 : Aside0 (Kd.R (Kd.int .i64) 3 W4 w.heap.size (fun b => b ≠ w.heap.size) (.slice (some qad) (Bfs.queue r p).length qC2) (Bfs.queue r p)) := ⟨R_blocks HO.out hg4.size (fun b hb hl => hg4.block b hl (fun e => by injection e with e; exact hb e))⟩
                have HB4 : Aside0 (Below w.heap.size w W4) := ⟨HB.out.grown hg4 (by have := HMB.out; omega) (fun b e => by injection e with e; omega)⟩
                clear hmem hot hnsk hlook hin hm4 hg4
                go_wp2_with ((with_reducible refine gate_builtin (b := .append) (xs := #[.tmp 86, .tmp 88]) rfl ?_); at_builtin; refine Kd.R_append (Kd.int .i64) (w0 := w) w.heap.size rfl (.tmp 86) (.tmp 88) 63 3 (.int .i64 0) 8 rfl Tryd.underlying63 info3 rfl (by decide) (by omega) (.slice (some qad) (Bfs.queue r p).length qC2) (Bfs.queue r p) x.f1 [.int .i64 x.f1] (fun b => b ≠ w.heap.size) (fun _ => False) rfl rfl ?aP (fun _ hk => hk.elim) ?aF ?aO ?aB ?aS ?aL ?_; (case aP => exact rfl); (case aF => intro b hb; have := HM4.out.lt; omega); (case aO => exact HO4.out); (case aB => exact HB4.out); (case aS => have := HM4.out.lt; omega); (case aL => rw [Bfs.queue_len]; have := HP7.out; omega); intro v1 w1' ho hb hg hat; rw [← HQQ.out] at ho; have HO5 := Aside0.mk ho; have HB5 := Aside0.mk hb; have HM5 : Aside0 (MapAt w1' w.heap.size (p.length + 1 + 1) (bef r (((i : Int), a, x.f1) :: p))) := ⟨by rw [HBM.out]; exact HM4.out.kept hg (fun e => HO4.out.1 _ e.symm rfl)⟩; clear ho hb hg hat)
                exact ⟨⟨i + 1, ((i : Int), a, x.f1) :: p, by go_num, by omega, HSTEP, HO5, HM5, HB5⟩, by simp [intOf]; omega⟩
          · by_cases c2 : x.f1 = a
            · have v0 : wrap64 (x.f0 + a) = x.f0 + a := by rw [← c2]; exact w0
              have v1 : wrap64 x.f0 = x.f0 := by unfold wrap64; omega
              go_quiet (fail)
              go_wp2
              have BD := pw_below_drewN (Below.refl W1.heap.size W1) nq
              replace HB := Aside0.mk (below_step HB.out BD)
              replace HM := Aside0.mk (HM.out.below BD)
              replace HO := Aside0.mk (Kd.R_drewN HO.out nq)
              replace h0 := Sine.keepc h0 BD
              replace h1 := Sine.keepc h1 BD
              replace qk := Sine.keepc qk BD
              clear BD
              generalize W1.drewN nq = W2 at *
              cases hu : use (i : Int)
              · have HUi := fun W hb => HU'.out i W hlt hb
                rw [hu] at HUi
                replace HUi := Aside0.mk HUi
                go_quiet (first | (go_at_call 66; refine (HUi.out _ qz6).mono ?_; rintro e w' ⟨rfl, rfl⟩; exact ⟨rfl, _, rfl⟩))
                go_wp2
                exact ⟨⟨i + 1, p, by go_num, by omega, ⟨HJ.out.skip hlt (Or.inr hu)⟩, ⟨Kd.R_drewN HO.out _⟩, ⟨HM.out.below (pw_below_drewN (Below.refl _ _) _)⟩, ⟨pw_below_drewN HB.out _⟩⟩, by simp [intOf]; omega⟩
              · have HUi := fun W hb => HU'.out i W hlt hb
                rw [hu] at HUi
                replace HUi := Aside0.mk HUi
                go_quiet (first | (go_at_call 66; refine (HUi.out _ qz6).mono ?_; rintro e w' ⟨rfl, rfl⟩; exact ⟨rfl, _, rfl⟩))
                have BD := pw_below_drewN (Below.refl W2.heap.size W2) nq
                replace HB := Aside0.mk (below_step HB.out BD)
                replace HM := Aside0.mk (HM.out.below BD)
                replace HO := Aside0.mk (Kd.R_drewN HO.out nq)
                replace h0 := Sine.keepc h0 BD
                replace h1 := Sine.keepc h1 BD
                replace qk := Sine.keepc qk BD
                clear BD
                generalize W2.drewN nq = W3 at *
                have hlk := (HM.out.look x.f0 (by omega) (by omega)).1
                have hmem := bef_some (r := r) (q := p) x.f0
                have HSTEP := Aside0.mk (HJ.out.next hlt HAV.out)
                have hot : Bfs.other (ends ls) i a = x.f0 := by unfold Bfs.other; rw [HE.out]; simp only; omega
                have hnsk : ¬ (((ends ls i).1 ≠ a ∧ (ends ls i).2 ≠ a) ∨ use i = false) := by
                  rw [HE.out, hu]
                  rintro (⟨d1, d2⟩ | d1)
                  · first | exact d1 c1 | exact d2 c2
                  · cases d1
                by_cases hin : x.f0 ∈ verts r p
                · rw [decide_eq_true hin] at hmem
                  have hlook : Bfs.look (ends ls) use r a p i = p := by unfold Bfs.look; rw [if_neg hnsk, hot, if_pos hin]
                  rw [hmem] at hlk
                  rw [hlook] at HSTEP
                  clear hmem hot hnsk hlook hin
                  go_wp2
                  exact ⟨⟨i + 1, p, by go_num, by omega, HSTEP, HO, HM, HB⟩, by simp [intOf]; omega⟩
                · rw [decide_eq_false hin] at hmem
                  have hlook : Bfs.look (ends ls) use r a p i = ((i : Int), a, x.f0) :: p := by unfold Bfs.look; rw [if_neg hnsk, hot, if_neg hin]
                  rw [hmem] at hlk
                  rw [hlook] at HSTEP
                  have HP7 := Aside0.mk (HJ.out.1.len (ends ls) use r hr (Good.range HG.out))
                  obtain ⟨W4, hst, hm4, hg4⟩ := HM.out.store (by have := HP7.out; omega) x.f0 (i : Int) (by omega) (by omega) (by omega) (by omega)
                  have HM4 := Aside0.mk hm4
                  have HG4 := Aside0.mk hg4
                  have HNE := Aside0.mk (show x.f0 ≠ r from fun e => hin (by rw [e]; simp [verts]))
                  have HBM : Aside0 (bef r (((i : Int), a, x.f0) :: p) = fun y => if y = x.f0 then some (i : Int) else bef r p y) := ⟨by funext y; exact bef_cons HNE.out y⟩
                  have HQQ : Aside0 (Bfs.queue r (((i : Int), a, x.f0) :: p) = Bfs.queue r p ++ [x.f0]) := ⟨by simp [Bfs.queue]⟩
                  have HMB : Aside0 (w.heap.size < W3.heap.size) := ⟨HM.out.lt⟩
                  have HO4 : Aside0 (Kd.R (Kd.int .i64) 3 W4 w.heap.size (fun b => b ≠ w.heap.size) (.slice (some qad) (Bfs.queue r p).length qC2) (Bfs.queue r p)) := ⟨R_blocks HO.out hg4.size (fun b hb hl => hg4.block b hl (fun e => by injection e with e; exact hb e))⟩
                  have HB4 : Aside0 (Below w.heap.size w W4) := ⟨HB.out.grown hg4 (by have := HMB.out; omega) (fun b e => by injection e with e; omega)⟩
                  clear hmem hot hnsk hlook hin hm4 hg4
                  go_wp2_with ((with_reducible refine gate_builtin (b := .append) (xs := #[.tmp 86, .tmp 88]) rfl ?_); at_builtin; refine Kd.R_append (Kd.int .i64) (w0 := w) w.heap.size rfl (.tmp 86) (.tmp 88) 63 3 (.int .i64 0) 8 rfl Tryd.underlying63 info3 rfl (by decide) (by omega) (.slice (some qad) (Bfs.queue r p).length qC2) (Bfs.queue r p) x.f0 [.int .i64 x.f0] (fun b => b ≠ w.heap.size) (fun _ => False) rfl rfl ?aP (fun _ hk => hk.elim) ?aF ?aO ?aB ?aS ?aL ?_; (case aP => exact rfl); (case aF => intro b hb; have := HM4.out.lt; omega); (case aO => exact HO4.out); (case aB => exact HB4.out); (case aS => have := HM4.out.lt; omega); (case aL => rw [Bfs.queue_len]; have := HP7.out; omega); intro v1 w1' ho hb hg hat; rw [← HQQ.out] at ho; have HO5 := Aside0.mk ho; have HB5 := Aside0.mk hb; have HM5 : Aside0 (MapAt w1' w.heap.size (p.length + 1 + 1) (bef r (((i : Int), a, x.f0) :: p))) := ⟨by rw [HBM.out]; exact HM4.out.kept hg (fun e => HO4.out.1 _ e.symm rfl)⟩; clear ho hb hg hat)
                  exact ⟨⟨i + 1, ((i : Int), a, x.f0) :: p, by go_num, by omega, HSTEP, HO5, HM5, HB5⟩, by simp [intOf]; omega⟩
            · go_quiet (fail)
              go_wp2
              go_quiet (fail)
              go_wp2
              exact ⟨⟨i + 1, p, by go_num, by omega, ⟨HJ.out.skip hlt (Or.inl (by rw [HE.out]; exact ⟨c1, c2⟩))⟩, ⟨Kd.R_drewN HO.out _⟩, ⟨HM.out.below (pw_below_drewN (Below.refl _ _) _)⟩, ⟨pw_below_drewN HB.out _⟩⟩, by simp [intOf]; omega⟩
        · obtain rfl : i = ls.length := by omega
          have HN := Aside0.mk (HI2.out.next HJ.out HK.out HQA.out HQ7.out)
          have ek : wrap64 ((k : Int) + 1) = (k : Int) + 1 := by have := HK.out; have := HQL.out; have := HQ7.out; unfold wrap64; omega
          go_wp2
          go_roundw
          case rel => exact ⟨k + 1, p, by go_num, HN, HO, HM, HB⟩
          case measure =>
            try simp only [ek]
            clear ek
            have h1 := HK.out
            have h2 := HQL.out
            have h3 := HQ7.out
            simp [intOf]; omega
    · have hkI : ¬ (k : Int) < ((Bfs.queue r q).length : Int) := by omega
      have hRq := HI2.out.stop hk
      subst hRq
      have hlk := (HM2.out.look dst (by omega) (by omega)).1
      have hmem := bef_some (r := r) (q := R) dst
      by_cases hin : dst ∈ verts r R
      · rw [decide_eq_true hin] at hmem
        rw [hmem] at hlk
        clear hmem
        go_wp2
        have HOk := Aside0.mk HI2.out.1
        have HD7 := Aside0.mk (back_len HI2.out.1 hin)
        have HIN := Aside0.mk hin
        clear hlk hin HO2
        have HV1 : Aside0 (Kd.R (Kd.int .i64) 3 ((wr.alloc (Obj.cells #[Value.int IntKind.i64 dst] 3)).alloc (Obj.cells #[] 3)) w.heap.size (fun b => b ≠ w.heap.size ∧ some b ≠ (Value.slice (some ⟨wr.heap.size + 1, 0, none⟩) 0 0).ownBlock) (.slice (some ⟨wr.heap.size, 0, none⟩) 1 1) [dst]) := ⟨Kd.R_alloc (R_lits [dst] wr w.heap.size (fun b => b ≠ w.heap.size ∧ some b ≠ (Value.slice (some ⟨wr.heap.size + 1, 0, none⟩) 0 0).ownBlock) (by have := HM2.out.lt; omega) ⟨by have := HM2.out.lt; omega, by simp [Value.ownBlock]⟩ (by simp)) _⟩
        have HV2 : Aside0 (Kd.R (Kd.int .i64) 3 ((wr.alloc (Obj.cells #[Value.int IntKind.i64 dst] 3)).alloc (Obj.cells #[] 3)) w.heap.size (fun b => b ≠ w.heap.size ∧ some b ≠ (Value.slice (some ⟨wr.heap.size, 0, none⟩) 1 1).ownBlock) (.slice (some ⟨wr.heap.size + 1, 0, none⟩) 0 0) []) := ⟨by
          have h := R_lits [] (wr.alloc (Obj.cells #[Value.int IntKind.i64 dst] 3)) w.heap.size (fun b => b ≠ w.heap.size ∧ some b ≠ (Value.slice (some ⟨wr.heap.size, 0, none⟩) 1 1).ownBlock) (by have := HM2.out.lt; simp; omega) ⟨by have := HM2.out.lt; simp; omega, by simp [Value.ownBlock]⟩ (by simp)
          simpa using h⟩
        have HM3 := Aside0.mk ((HM2.out.below (below_alloc (Below.refl wr.heap.size wr) (Obj.cells #[Value.int IntKind.i64 dst] 3))).below (below_alloc (Below.refl _ _) (Obj.cells #[] 3)))
        have HB3 := Aside0.mk (below_alloc (below_alloc HB.out (Obj.cells #[Value.int IntKind.i64 dst] 3)) (Obj.cells #[] 3))
        clear HM2 HB
        go_loopg [21, 22, 23] (Bfs.back R dst).length (fun kq v21 v22 v23 w' => ∃ (cur : Int) (st lst : List Int), v23 = .int .i64 cur ∧ Aside0 (BackInv (ends ls) r dst R cur st lst ∧ (Bfs.back R cur).length = kq) ∧ Aside0 (Kd.R (Kd.int .i64) 3 w' w.heap.size (fun b => b ≠ w.heap.size ∧ some b ≠ v22.ownBlock) v21 st) ∧ Aside0 (Kd.R (Kd.int .i64) 3 w' w.heap.size (fun b => b ≠ w.heap.size ∧ some b ≠ v21.ownBlock) v22 lst) ∧ Aside0 (MapAt w' w.heap.size (R.length + 1) (bef r R)) ∧ Aside0 (Below w.heap.size w w'))
        case atStart => exact ⟨dst, [dst], [], rfl, ⟨BackInv.start HIN.out, rfl⟩, HV1, HV2, HM3, HB3⟩
        case round =>
          obtain ⟨cur, st, lst, rfl, HBI, HO1, HO2, HM, HB⟩ := hrel
          clear HV1 HV2 HM3 HB3
          obtain ⟨sA, sC, es_⟩ := Kd.R_slice HO1.out
          obtain ⟨lA, lC, el_⟩ := Kd.R_slice HO2.out
          subst es_
          subst el_
          have HLN := Aside0.mk (HBI.out.1.len HOk.out HIN.out)
          have HR7 := Aside0.mk (HOk.out.len (ends ls) use r hr (Good.range HG.out))
          have HC8 := Aside0.mk (okRange HOk.out hr (Good.range HG.out) cur HBI.out.1.1)
          by_cases hcr : cur = r
          · subst hcr
            have HFIN : Aside0 (lst = Bfs.back R dst ∧ st = trail (ends ls) dst (Bfs.back R dst)) := ⟨by
              obtain ⟨⟨_, f2, f3⟩, _⟩ := HBI.out
              rw [back_root HOk.out] at f2 f3
              exact ⟨by simpa using f2, by simpa [trail] using f3⟩⟩
            obtain ⟨K1, hK1⟩ := rev_ev st (by have := HLN.out; have := HR7.out; omega)
            obtain ⟨K2, hK2⟩ := rev_ev lst (by have := HLN.out; have := HR7.out; omega)
            have HK1 := Aside0.mk (hK1 K1 (Nat.le_refl _))
            have HK2 := Aside0.mk (hK2 K2 (Nat.le_refl _))
            have HA1 : Aside0 (Kd.R (Kd.int .i64) 3 wr w.heap.size (fun b => some b = (Value.slice sA st.length sC).ownBlock ∧ some b ≠ (Value.slice lA lst.length lC).ownBlock) (.slice sA st.length sC) st) := ⟨R_own_ok HO1.out (fun b hb _ => ⟨hb.symm, (HO1.out.1 b hb).2⟩)⟩
            clear hK1 hK2
            go_wp2_with (first
              | (go_at_call 87; (with_reducible refine (slices_Reverse_int_int.calls K1 _ _ _ _ w _ HB.out HA1.out HK1.out).mono ?_); rintro e w' ⟨rfl, hq1, hq2, hq3⟩; have HP1 := Aside0.mk hq1; have HP2 : Aside0 (Kd.R (Kd.int .i64) 3 w' w.heap.size (fun b => b ≠ w.heap.size ∧ some b ≠ (Value.slice sA st.length sC).ownBlock) (.slice lA lst.length lC) lst) := ⟨R_blocks HO2.out hq3.1 (fun b hb hl => hq3.2 b hl (fun hs => hb.2 hs.1))⟩; have HB6 := Aside0.mk hq2; have HA2 : Aside0 (Kd.R (Kd.int .i64) 3 w' w.heap.size (fun b => some b = (Value.slice lA lst.length lC).ownBlock ∧ some b ≠ (Value.slice sA st.length sC).ownBlock) (.slice lA lst.length lC) lst) := ⟨R_own_ok HP2.out (fun b hb _ => ⟨hb.symm, (HP2.out.1 b hb).2⟩)⟩; clear hq1 hq2 hq3)
              | (go_at_call 87; (with_reducible refine (slices_Reverse_int_int.calls K2 _ _ _ _ w _ HB6.out HA2.out HK2.out).mono ?_); rintro e w' ⟨rfl, hq1, hq2, hq3⟩; have HP3 := Aside0.mk hq1; have HB7 := Aside0.mk hq2; have HK3 := Aside0.mk hq3; clear hq1 hq2 hq3))
            have HF1 : Aside0 (Kd.R (Kd.int .i64) 3 w' w.heap.size (fun b => some b ≠ (Value.slice lA lst.length lC).ownBlock) (.slice sA st.length sC) st.reverse) := ⟨R_blocks (R_own_ok HP1.out (ok' := fun b => some b ≠ (Value.slice lA lst.length lC).ownBlock) (fun b hb _ => (HO1.out.1 b hb).2)) HK3.out.1 (fun b hb hl => HK3.out.2 b hl (fun hs => hb hs.1))⟩
            have HF2 : Aside0 (Kd.R (Kd.int .i64) 3 w' w.heap.size (fun b => some b ≠ (Value.slice sA st.length sC).ownBlock) (.slice lA lst.length lC) lst.reverse) := ⟨R_own_ok HP3.out (fun b hb _ => (HP2.out.1 b hb).2)⟩
            exact bodyPost_ret (v := .tuple #[.slice sA st.length sC, .slice lA lst.length lC, .bool true]) (by simp [results, Tryd.results65, go_sem]) rfl (by unfold PathPost; rw [if_pos HIN.out]; exact ⟨_, _, rfl, by rw [← HFIN.out.2]; exact HF1.out, by rw [← HFIN.out.1]; exact HF2.out, HB7.out⟩)
          · obtain ⟨i, u, hb1, hb2, hb3, hb4, hb5, hb6⟩ := back_step HOk.out HBI.out.1.1 hcr
            have hlk := (HM.out.look cur HC8.out.1 (by have := HC8.out.2; omega)).2
            rw [hb1] at hlk
            have hlk2 : (some i).getD 0 = i := rfl
            obtain ⟨ii, rfl⟩ := Int.eq_ofNat_of_zero_le hb5
            obtain ⟨_, e2, h0, h1, h2, h3, h4⟩ := at_T45 HR.out (ii : Int) (by omega) (by omega)
            cases e2
            rw [Int.toNat_natCast, show rd_T45 ls (ii : Int) = leg ls ii from rfl] at h0 h1
            have H0 := Aside0.mk h0
            have H1 := Aside0.mk h1
            have hgx := leg_good HG.out ii (by omega)
            have hu8 := okRange HOk.out hr (Good.range HG.out) u hb3
            have hE : (leg ls ii).f0 + (leg ls ii).f1 - cur = u := hb4
            have HNX : Aside0 (BackInv (ends ls) r dst R u (st ++ [u]) (lst ++ [(ii : Int)])) := ⟨HBI.out.1.next hb2 hb3 hb4⟩
            have HKQ : Aside0 ((Bfs.back R u).length + 1 = gk) := ⟨by have := HBI.out.2; rw [hb2] at this; simpa using this⟩
            have v0 : wrap64 ((leg ls ii).f0 + (leg ls ii).f1) = (leg ls ii).f0 + (leg ls ii).f1 := by have a1 := hgx.1; have a2 := hgx.2.1; unfold wrap64; omega
            have v1 : wrap64 ((leg ls ii).f0 + (leg ls ii).f1 - cur) = u := by rw [hE]; unfold wrap64; omega
            have HMI := Aside0.mk (show 0 ≤ (ii : Int) ∧ (ii : Int) < ls.length from ⟨hb5, hb6⟩)
            generalize leg ls (ii : Int) = x at *
            clear hb1 hb2 hb3 hb4 hgx hu8 hE h0 h1 h2 h3 h4
            obtain ⟨g1, eg1⟩ : ∃ g1, gk = g1 + 1 := ⟨(Bfs.back R u).length, HKQ.out.symm⟩
            subst eg1
            go_wp2_with ((with_reducible refine gate_builtin (b := .append) (xs := #[.tmp 109, .tmp 111]) rfl ?_); at_builtin; refine Kd.R_append (Kd.int .i64) (w0 := w) w.heap.size rfl (.tmp 109) (.tmp 111) 63 3 (.int .i64 0) 8 rfl Tryd.underlying63 info3 rfl (by decide) (by omega) (.slice lA lst.length lC) lst (ii : Int) [.int .i64 (ii : Int)] (fun b => b ≠ w.heap.size ∧ some b ≠ (Value.slice sA st.length sC).ownBlock) (fun _ => False) rfl rfl ?aP (fun _ hk => hk.elim) ?aF ?aO ?aB ?aS ?aL ?_; (case aP => exact rfl); (case aF => intro b hb; exact ⟨by have := HM.out.lt; omega, Kd.fresh' (Kd.R_lt HO1.out) b hb⟩); (case aO => exact HO2.out); (case aB => exact HB.out); (case aS => have := HM.out.lt; omega); (case aL => have := HLN.out; have := HR7.out; omega)
                         intro v1_ w1_ ho hb hg hat
                         have HP1 := Aside0.mk (Kd.R_after (ok := fun b => b ≠ w.heap.size) HO1.out hg hat)
                         have HP2 := Aside0.mk ho
                         have HB6 := Aside0.mk hb
                         have HM6 := Aside0.mk (HM.out.kept hg (fun e => (HO2.out.1 _ e.symm).1 rfl))
                         clear ho hb hg hat)
            have h0 := Sine.keepc H0.out HB6.out
            have h1 := Sine.keepc H1.out HB6.out
            have hm0 := HMI.out.1
            have hm1 := HMI.out.2
            go_quiet (fail)
            go_wp2_with ((with_reducible refine gate_builtin (b := .append) (xs := #[.tmp 126, .tmp 128]) rfl ?_); at_builtin; refine Kd.R_append (Kd.int .i64) (w0 := w) w.heap.size rfl (.tmp 126) (.tmp 128) 63 3 (.int .i64 0) 8 rfl Tryd.underlying63 info3 rfl (by decide) (by omega) (.slice sA st.length sC) st u [.int .i64 u] (fun b => b ≠ w.heap.size ∧ some b ≠ v1_.ownBlock) (fun _ => False) rfl rfl ?aP (fun _ hk => hk.elim) ?aF ?aO ?aB ?aS ?aL ?_; (case aP => exact rfl); (case aF => intro b hb; simp only [World.heap_drewN] at hb; exact ⟨by have := HM6.out.lt; omega, Kd.fresh' (Kd.R_lt HP2.out) b hb⟩); (case aO => exact Kd.R_drewN HP1.out _); (case aB => exact pw_below_drewN HB6.out _); (case aS => simp only [World.heap_drewN]; have := HM6.out.lt; omega); (case aL => have := HLN.out; have := HR7.out; omega)
                         intro v2_ w2_ ho hb hg hat
                         have HQ2 := Aside0.mk (Kd.R_after (ok := fun b => b ≠ w.heap.size) (Kd.R_drewN HP2.out _) hg hat)
                         have HQ1 := Aside0.mk ho
                         have HB8 := Aside0.mk hb
                         have HM8 := Aside0.mk ((HM6.out.below (pw_below_drewN (Below.refl _ _) _)).kept hg (fun e => (HP1.out.1 _ e.symm).1 rfl))
                         clear ho hb hg hat)
            go_roundg g1
            case measure => omega
            case rel => exact ⟨u, st ++ [u], lst ++ [(ii : Int)], by first | rfl | simp, ⟨HNX.out, by have := HKQ.out; omega⟩, HQ1, HQ2, HM8, HB8⟩
      · rw [decide_eq_false hin] at hmem
        rw [hmem] at hlk
        clear hmem
        go_wp2
        exact bodyPost_ret (v := .tuple #[.slice none 0 0, .slice none 0 0, .bool false]) (by simp [results, Tryd.results65, go_sem]) rfl (by unfold PathPost; rw [if_neg hin]; exact ⟨rfl, HB.out⟩)
end Go.Proofs.YtpojnobgijoddaaDoor.Net
namespace Go.Proofs.YtpojnobgijoddaaDoor.Net
open Go Go.RowKit YtpojnobgijoddaaDoorW.PrintWords YtpojnobgijoddaaDoorW.PrintLast YtpojnobgijoddaaDoorW.PrintMore A Plain
open Tree (verts legs W)
open Grow (Q)
theorem bridgeUse (k : Int) (i : Nat) (p : Addr) (w : World) (hp : w.cell? p = some (.int .i64 k)) :
    Calls Tryd.prog 66 #[.int .i64 (i : Int), .pointer (some p)] w fun e w' => e = .returned (.bool (useB k i)) ∧ w' = w := by
  have e : useB k i = ((i : Int) != k) := by
    unfold useB
    by_cases h : (i : Int) = k
    · rw [decide_eq_false (by omega), h]; simp
    · rw [decide_eq_true h]; simp [h]
  rw [e]
  go_enter Tryd.func66, Tryd.ntmps66
  go_wp2
  go_ret
  exact ⟨rfl, rfl⟩
theorem isBridgeW (A : Option Addr) (c : Nat) (ls : L) (k : Nat) (w : World) (hr0 : Kd.C k45 w A ls.length ls) (hc : ls.length ≤ c) (hn : ls.length ≤ 12) (hg : ∀ x ∈ ls, Good x) (hk : k < ls.length) :
    Calls Tryd.prog 44 #[.slice A ls.length c, .int .i64 (k : Int)] w fun e w' => e = .returned (.bool (bridgeB ls k)) ∧ Below w.heap.size w w' := by
  have hgk := leg_good hg k hk
  obtain ⟨w_1, e2, h0, h1, _⟩ := at_T45 hr0 (k : Int) (by omega) (by omega)
  cases e2
  rw [Int.toNat_natCast, show rd_T45 ls (k : Int) = leg ls k from rfl] at h0 h1
  obtain ⟨R, hR⟩ : ∃ R, R = Bfs.run (ends ls) (useB k) (leg ls k).f0 ls.length 9 0 [] := ⟨_, rfl⟩
  have hbr : bridgeB ls k = !decide ((leg ls k).f1 ∈ verts (leg ls k).f0 R) := by rw [hR]; rfl
  rw [hbr]
  have HRR := Aside0.mk hR.symm
  have HR := Aside0.mk hr0
  have HG := Aside0.mk hg
  have hl0 := hgk.1
  have hl1 := hgk.2.1
  have k1 : (k : Int) < (ls.length : Int) := by omega
  have k0 : (0 : Int) ≤ (k : Int) := by omega
  clear hr0 hg hgk hR hbr
  generalize leg ls (k : Int) = x at *
  go_enter Tryd.func44, Tryd.ntmps44
  go_wp2
  have HB := Aside0.mk (below_alloc (Below.refl w.heap.size w) (Obj.cells #[Value.int IntKind.i64 (k : Int)] 3))
  replace h0 := Sine.keepc h0 HB.out
  replace h1 := Sine.keepc h1 HB.out
  have hp0 : (w.alloc (Obj.cells #[Value.int IntKind.i64 (k : Int)] 3)).cell? ⟨w.heap.size, 0, none⟩ = some (.int .i64 (k : Int)) := by go_simp
  have HP0 := Aside0.mk hp0
  generalize w.alloc (Obj.cells #[Value.int IntKind.i64 (k : Int)] 3) = W1 at *
  by_cases hf : x.f1 ∈ verts x.f0 R
  · have hd := decide_eq_true hf
    go_region_held3 (fun w' => w'.cell? (w_1.add (k * 5)) = some (.int .i64 x.f0) ∧ w'.cell? { block := (w_1.add (k * 5)).block, off := (w_1.add (k * 5)).off + 1 } = some (.int .i64 x.f1) ∧ w'.cell? ⟨w.heap.size, 0, none⟩ = some (.int .i64 (k : Int)))
      (exact ⟨Sine.keepc (w := W1) h0 qz4, Sine.keepc (w := W1) h1 qz4, Sine.keepc (w := W1) HP0.out qz4⟩)
      (first | (go_at_call 65; (with_reducible refine (pathBridge _ c ls ⟨w.heap.size, 0, none⟩ (useB k) x.f0 x.f1 _ ?s1 hc hn HG.out hl0 hl1 ?s2 R HRR.out).mono ?_); (case s1 => exact Kd.C_below HR.out qz6); (case s2 => intro j W hj hb; exact bridgeUse (k : Int) j ⟨w.heap.size, 0, none⟩ W (Sine.keepc (w := W1) HP0.out (below_step qz4 hb))); rintro e w' hpost; unfold PathPost at hpost; rw [if_pos hf] at hpost; obtain ⟨v1, v2, rfl, _, _, hw1⟩ := hpost))
    replace HB := Aside0.mk (below_step (show Below w.heap.size w W1.drew from by (repeat (first | exact HB.out | exact Below.refl _ _ | apply below_alloc | apply pw_below_drewN | apply below_drew1)); done) hw1)
    go_wp2
    go_ret
    exact ⟨by rw [hd]; rfl, HB.out⟩
  · have hd := decide_eq_false hf
    go_region_held3 (fun w' => w'.cell? (w_1.add (k * 5)) = some (.int .i64 x.f0) ∧ w'.cell? { block := (w_1.add (k * 5)).block, off := (w_1.add (k * 5)).off + 1 } = some (.int .i64 x.f1) ∧ w'.cell? ⟨w.heap.size, 0, none⟩ = some (.int .i64 (k : Int)))
      (exact ⟨Sine.keepc (w := W1) h0 qz4, Sine.keepc (w := W1) h1 qz4, Sine.keepc (w := W1) HP0.out qz4⟩)
      (first | (go_at_call 65; (with_reducible refine (pathBridge _ c ls ⟨w.heap.size, 0, none⟩ (useB k) x.f0 x.f1 _ ?s1 hc hn HG.out hl0 hl1 ?s2 R HRR.out).mono ?_); (case s1 => exact Kd.C_below HR.out qz6); (case s2 => intro j W hj hb; exact bridgeUse (k : Int) j ⟨w.heap.size, 0, none⟩ W (Sine.keepc (w := W1) HP0.out (below_step qz4 hb))); rintro e w' hpost; unfold PathPost at hpost; rw [if_neg hf] at hpost; obtain ⟨rfl, hw1⟩ := hpost))
    replace HB := Aside0.mk (below_step (show Below w.heap.size w W1.drew from by (repeat (first | exact HB.out | exact Below.refl _ _ | apply below_alloc | apply pw_below_drewN | apply below_drew1)); done) hw1)
    go_wp2
    go_ret
    exact ⟨by rw [hd]; rfl, HB.out⟩
theorem l8Bridge_ev {ls : L} (hn : ls.length ≤ 12) (hg : ∀ x ∈ ls, Good x) (k : Nat) (hk : k < ls.length) (hp : (leg ls k).f0 ∈ plL (RR ls)) : Ev (fun m => spec_l8Bridge.f m ls (k : Int)) (bridgeB ls k) := by
  have hb := bridge_eq hg k hk ((mem_plL _ _).mp hp)
  have hl := less_len ls k hk
  have hlg := less_good hg k
  have hs := plL_small hlg
  have e : wrap64 ((k : Int) + 1) = ((k + 1 : Nat) : Int) := by rw [w64 (by omega) (by omega)]; omega
  unfold spec_l8Bridge.f
  refine Ev.bindc rfl (Ev.pos (by omega) (Ev.pos (by omega) (Ev.bindc rfl (Ev.pos (by simp; omega) (Ev.bindc rfl (Ev.pos (by rw [e]; omega) (Ev.pos (by rw [e]; omega) (Ev.bindc rfl (Ev.pos (by simp; omega) ?_)))))))))
  rw [e, Int.toNat_natCast, Int.toNat_natCast, List.nil_append]
  refine Ev.bind (place_ev (less ls k) (by omega) hlg (RR (less ls k)) rfl) (Ev.pos (by omega) ?_)
  refine Ev.bind (has_ev _ _ (by show (plL (RR (less ls k))).length ≤ _; omega)) ?_
  rw [← hb]
  by_cases c1 : (ends ls k).1 ∈ plL (RR (less ls k))
  · rw [if_neg (by rw [decide_eq_true c1]; decide)]
    exact Ev.pos (decide_eq_true c1) (Ev.bind (has_ev _ _ (by show (plL (RR (less ls k))).length ≤ _; omega)) (Ev.now _))
  · rw [if_pos (by rw [decide_eq_false c1]; rfl)]
    exact Ev.neg (by show ¬ decide ((ends ls k).1 ∈ plL (RR (less ls k))) = true; rw [decide_eq_false c1]; decide) (Ev.now _)
end Go.Proofs.YtpojnobgijoddaaDoor.Net
namespace Go.Proofs.YtpojnobgijoddaaDoor.Net
open Go Go.RowKit YtpojnobgijoddaaDoorW.PrintWords A Plain
theorem listForm {w5 : World} {v : Value} {l : List Int} {base : Nat} {ok : Nat → Prop} (h : Kd.R (Kd.int .i64) 3 w5 base ok v l) : ∃ A hh cp, v = .slice A l.length cp ∧ (0 < l.length → A = some ⟨hh, 0, none⟩ ∧ base ≤ hh ∧ hh < w5.heap.size ∧ ∀ t : Nat, t < l.length → w5.cell? ⟨hh, t, none⟩ = some (.int .i64 (rd l (t : Int)))) := by
  by_cases hp : 0 < l.length
  · obtain ⟨g, cap, rfl, h1, h2, _⟩ := Kd.R_form h hp
    exact ⟨_, g, cap, rfl, fun _ => ⟨rfl, h1, h2, fun t ht => by
      have h3 := (Kd.R_celln 0 h (t : Int) (by omega) (by omega)).1
      rw [Int.toNat_natCast] at h3
      exact h3⟩⟩
  · obtain ⟨A, cp, rfl⟩ := Kd.R_slice h
    exact ⟨A, 0, cp, rfl, fun h => absurd h hp⟩
end Go.Proofs.YtpojnobgijoddaaDoor.Net
namespace Go.Proofs.YtpojnobgijoddaaDoor.Net
open Go.RowKit YtpojnobgijoddaaDoorW.PrintWords Plain A Frac
theorem wdiv {a b : Int} (ha : 0 ≤ a) (hb : 0 < b) (h : a ≤ 9000000000000000000) : wrap64 (a.tdiv b) = a.tdiv b := by
  have h1 := tdiv_small a b.toNat (B := 9000000000000000000) (by omega) h
  rw [Int.toNat_of_nonneg (by omega)] at h1
  exact w64 (by omega) (by omega)
def big : Int := 9000000000000000000
theorem cmp_l0 : ∀ (n : Nat) (s a b c d : Int), (s = 1 ∨ s = -1) → 0 ≤ a → 0 < b → 0 ≤ c → 0 < d → a ≤ big → b ≤ big → c ≤ big → d ≤ big → b.natAbs < n → Ev (fun k => spec_l10Compare.l0 k a b c d s) (s * cmp a b c d) := by
  intro n
  induction n with
  | zero => intro s a b c d _ _ _ _ _ _ _ _ _ h; omega
  | succ n ih =>
    intro s a b c d hs ha hb hc hd la lb lc ld h
    have hw : wrap64 (-s) = -s := by unfold wrap64; omega
    have w1 := wdiv ha hb la
    have w2 := wdiv hc hd lc
    unfold big at *
    rcases Int.lt_trichotomy (a.tdiv b) (c.tdiv d) with e | e | e
    · rw [cmp_lt hb hd ha hc e, show s * -1 = -s by omega]
      refine Ev.step (f := fun _ => some (-s)) (fun k => ?_) (Ev.now _)
      conv => lhs; unfold spec_l10Compare.l0
      rw [if_neg (by omega), if_neg (by omega), w1, w2, if_pos e, hw]
    · have r1 := Int.tmod_nonneg b ha
      have r2 := Int.tmod_nonneg d hc
      have l1 := Int.tmod_lt_of_pos a hb
      have l2 := Int.tmod_lt_of_pos c hd
      have hst : ∀ k, spec_l10Compare.l0 (k + 1) a b c d s = if Int.tmod a b = 0 then spec_l10Compare.j1 k (Int.tmod a b) b (Int.tmod c d) d s true else spec_l10Compare.j1 k (Int.tmod a b) b (Int.tmod c d) d s (Int.tmod c d == 0) := fun k => by
        conv => lhs; unfold spec_l10Compare.l0
        rw [if_neg (by omega), if_neg (by omega), w1, w2, if_neg (by omega), if_neg (by omega)]
      have hj : ∀ k, spec_l10Compare.j1 (k + 1) (Int.tmod a b) b (Int.tmod c d) d s true = if Int.tmod a b = Int.tmod c d then some 0 else if Int.tmod a b = 0 then some (wrap64 (-s)) else some s := fun k => by
        conv => lhs; unfold spec_l10Compare.j1
        rw [if_pos rfl]
      by_cases z1 : Int.tmod a b = 0
      · refine Ev.step (f := fun k => spec_l10Compare.j1 k (Int.tmod a b) b (Int.tmod c d) d s true) (fun k => by rw [hst, if_pos z1]) ?_
        refine Ev.step (f := fun _ => some (s * cmp a b c d)) (fun k => ?_) (Ev.now _)
        rw [hj, cmp_rest e, z1]
        by_cases z2 : Int.tmod c d = 0
        · rw [z2, if_pos rfl, cmp_zero, Int.mul_zero]
        · rw [if_neg (fun f => z2 f.symm), if_pos rfl, cmp_zero_left hb (by omega), hw]
          congr 1; omega
      · by_cases z2 : Int.tmod c d = 0
        · refine Ev.step (f := fun k => spec_l10Compare.j1 k (Int.tmod a b) b (Int.tmod c d) d s true) (fun k => by rw [hst, if_neg z1, z2]; rfl) ?_
          refine Ev.step (f := fun _ => some (s * cmp a b c d)) (fun k => ?_) (Ev.now _)
          rw [hj, cmp_rest e, z2, if_neg z1, if_neg z1, cmp_zero_right hd (by omega), Int.mul_one]
        · have hrec := ih (-s) b (Int.tmod a b) d (Int.tmod c d) (by omega) (by omega) (by omega) (by omega) (by omega) (by omega) (by omega) (by omega) (by omega) (by omega)
          rw [cmp_flip, Int.neg_mul_neg, ← cmp_rest e] at hrec
          refine Ev.step (f := fun k => spec_l10Compare.j1 k (Int.tmod a b) b (Int.tmod c d) d s false) (fun k => by rw [hst, if_neg z1, show (Int.tmod c d == 0) = false from by rw [beq_eq_false_iff_ne]; exact z2]) ?_
          refine Ev.step (fun k => ?_) hrec
          conv => lhs; unfold spec_l10Compare.j1
          rw [if_neg (by decide), hw]
    · rw [cmp_gt hb hd ha hc e, Int.mul_one]
      refine Ev.step (f := fun _ => some s) (fun k => ?_) (Ev.now _)
      conv => lhs; unfold spec_l10Compare.l0
      rw [if_neg (by omega), if_neg (by omega), w1, w2, if_neg (by omega), if_pos e]
def sCmp (x y : L) : Int := cmp (sNum x) (sDen x) (sNum y) (sDen y)
theorem compare_ev {a b c d : Int} (ha : 0 ≤ a) (hb : 0 < b) (hc : 0 ≤ c) (hd : 0 < d) (la : a ≤ big) (lb : b ≤ big) (lc : c ≤ big) (ld : d ≤ big) : Ev (fun k => spec_l10Compare.f k a b c d) (cmp a b c d) := by
  have h := cmp_l0 (b.natAbs + 1) 1 a b c d (Or.inl rfl) ha hb hc hd la lb lc ld (by omega)
  rw [Int.one_mul] at h
  exact h
theorem less_eq {a b c d : Int} (ha : 0 ≤ a) (hb : 0 < b) (hc : 0 ≤ c) (hd : 0 < d) (la : a ≤ 59049000000) (lb : b ≤ 6561) (lc : c ≤ 59049000000) (ld : d ≤ 6561) : decide (wrap64 (a * d) < wrap64 (c * b)) = decide (cmp a b c d = -1) := by
  have m1 : a * d ≤ 59049000000 * 6561 := Int.mul_le_mul (by omega) (by omega) (by omega) (by omega)
  have m2 : c * b ≤ 59049000000 * 6561 := Int.mul_le_mul (by omega) (by omega) (by omega) (by omega)
  have n1 : 0 ≤ a * d := Int.mul_nonneg (by omega) (by omega)
  have n2 : 0 ≤ c * b := Int.mul_nonneg (by omega) (by omega)
  rw [w64 (by omega) (by omega), w64 (by omega) (by omega), decide_eq_decide]
  unfold cmp
  split
  · rename_i h; exact ⟨fun _ => rfl, fun _ => h⟩
  · rename_i h
    refine ⟨fun g => absurd g h, fun g => ?_⟩
    split at g <;> omega
end Go.Proofs.YtpojnobgijoddaaDoor.Net
namespace Go.Proofs.YtpojnobgijoddaaDoor.A
open Go.RowKit YtpojnobgijoddaaDoorW.PrintWords Plain
open Net (L sNum sDen sCmp)
theorem sless {x y : L} (hx : ∀ z ∈ x, Net.Good z) (nx : x.length ≤ 12) (hy : ∀ z ∈ y, Net.Good z) (ny : y.length ≤ 12) : impl_fraction_less.f (sNum x) (sDen x) (sNum y) (sDen y) = some (decide (sCmp x y = -1)) := by
  have h1 := Net.s_bound nx hx
  have h2 := Net.s_bound ny hy
  unfold impl_fraction_less.f
  rw [Net.less_eq h1.2.1 h1.1.1 h2.2.1 h2.1.1 h1.2.2 h1.1.2 h2.2.2 h2.1.2]
  rfl
end Go.Proofs.YtpojnobgijoddaaDoor.A
namespace Go.Proofs.YtpojnobgijoddaaDoor.Net
open Go Go.RowKit YtpojnobgijoddaaDoorW.PrintWords YtpojnobgijoddaaDoorW.PrintLast YtpojnobgijoddaaDoorW.PrintMore A Plain
structure SS where
  b : Int
  y : L
def susS (ls : L) (st : SS) (k : Int) : SS := if bridgeB ls k = true then st else if st.b < 0 ∨ sCmp (less ls k.toNat) st.y = -1 then ⟨k, less ls k.toNat⟩ else st
def susTo (ls : L) : Nat → SS
  | 0 => ⟨-1, []⟩
  | j + 1 => susS ls (susTo ls j) (rd (usedL ls) (j : Int))
def ssN (st : SS) : Int := if st.b < 0 then 0 else sNum st.y
def ssD (st : SS) : Int := if st.b < 0 then 0 else sDen st.y
structure SOk (st : SS) : Prop where
  b : -1 ≤ st.b
  good : 0 ≤ st.b → ∀ x ∈ st.y, Good x
  len : 0 ≤ st.b → st.y.length ≤ 12
theorem SOk.step {ls : L} (hn : ls.length ≤ 12) (hg : ∀ x ∈ ls, Good x) {st : SS} (h : SOk st) (k : Nat) (hk : k < ls.length) : SOk (susS ls st (k : Int)) := by
  unfold susS
  split
  · exact h
  · split
    · exact ⟨by show (-1 : Int) ≤ (k : Int); omega, fun _ => by rw [Int.toNat_natCast]; exact less_good hg k, fun _ => by rw [Int.toNat_natCast]; show (less ls k).length ≤ 12; have := less_len ls k hk; omega⟩
    · exact h
theorem SOk.upto {ls : L} (hn : ls.length ≤ 12) (hg : ∀ x ∈ ls, Good x) : ∀ j, j ≤ (usedL ls).length → SOk (susTo ls j)
  | 0, _ => ⟨Int.le_refl _, fun h => absurd h (show ¬ (0 : Int) ≤ -1 by decide), fun h => absurd h (show ¬ (0 : Int) ≤ -1 by decide)⟩
  | j + 1, hj => by
    have hm : rd (usedL ls) (j : Int) ∈ usedL ls := by rw [rd_get _ j (by omega)]; exact List.getElem_mem (by omega)
    have hr := usedL_range ls _ hm
    have h := SOk.upto hn hg j (by omega)
    show SOk (susS ls (susTo ls j) (rd (usedL ls) (j : Int)))
    generalize rd (usedL ls) (j : Int) = kz at *
    obtain ⟨k, rfl⟩ := Int.eq_ofNat_of_zero_le hr.1
    exact h.step hn hg k (by omega)
structure Lst5 (q : Nat) (st : SS) (W : World) : Prop where
  c0 : W.cell? ⟨q, 0, none⟩ = some (.int .i64 (ssN st))
  c1 : W.cell? ⟨q, 1, none⟩ = some (.int .i64 (ssD st))
  z0 : W.frozen? ⟨q, 0, none⟩ = false
  z1 : W.frozen? ⟨q, 1, none⟩ = false
theorem Lst5.keep {q : Nat} {y : SS} {W W' : World} (h : Lst5 q y W) (hb : Below W.heap.size W W') : Lst5 q y W' := ⟨Sine.keepc h.c0 hb, Sine.keepc h.c1 hb, keepz h.c0 h.z0 hb, keepz h.c1 h.z1 hb⟩
theorem Lst5.put {q k : Nat} {st : SS} {y : L} {W : World} (h : Lst5 q st W) : Lst5 q ⟨(k : Int), y⟩ ((W.setCell ⟨q, 0, none⟩ (.int .i64 (sNum y))).setCell ⟨q, 1, none⟩ (.int .i64 (sDen y))) := by
  have h0 : (W.setCell ⟨q, 0, none⟩ (.int .i64 (sNum y))).cell? ⟨q, 0, none⟩ = some (.int .i64 (sNum y)) := by simpa using World.cell?_setCell_same _ _ _ h.c0
  have h1 : (W.setCell ⟨q, 0, none⟩ (.int .i64 (sNum y))).cell? ⟨q, 1, none⟩ = some (.int .i64 (ssD st)) := far h.c1 (offne (by decide))
  have e0 : ssN ⟨(k : Int), y⟩ = sNum y := if_neg (by show ¬ (k : Int) < 0; omega)
  have e1 : ssD ⟨(k : Int), y⟩ = sDen y := if_neg (by show ¬ (k : Int) < 0; omega)
  exact ⟨by rw [e0]; exact far h0 (offne (by decide)), by rw [e1]; simpa using World.cell?_setCell_same _ _ _ h1, by rw [World.frozen?_setCell, World.frozen?_setCell]; exact h.z0, by rw [World.frozen?_setCell, World.frozen?_setCell]; exact h.z1⟩
end Go.Proofs.YtpojnobgijoddaaDoor.Net
namespace Go.Proofs.YtpojnobgijoddaaDoor.A
open Go Go.RowKit YtpojnobgijoddaaDoorW.PrintWords YtpojnobgijoddaaDoorW.PrintLast YtpojnobgijoddaaDoorW.PrintMore
open Net
attribute [local go_sem] max2_int max_two
def susM (ls : L) : Int × Bool := if legsB ls = true then (if (susTo ls (usedL ls).length).b < 0 then 0 else (susTo ls (usedL ls).length).b, decide ((susTo ls (usedL ls).length).b ≥ 0)) else (0, false)
def impl_SuspectLeg.f (l0 : List (S45)) : Option (Int × Bool) := if l0.length ≤ 140737488351232 then some (susM l0) else none
theorem impl_SuspectLeg.calls (A0 : Option Addr) (c : Nat) (ls : List (S45)) (r1 : Int) (r2 : Bool) (w : World) (hr0 : Kd.C k45 w A0 ls.length ls) (hc : ls.length ≤ c) (h : impl_SuspectLeg.f ls = some (r1, r2)) (hL : Sine.Laid w) :
    Calls Tryd.prog 24 #[.slice A0 ls.length c] w fun e w' => e = .returned (.tuple #[.int .i64 r1, .bool r2]) ∧ Below w.heap.size w w' := by
  unfold impl_SuspectLeg.f at h
  by_cases hb : ls.length ≤ 140737488351232
  case neg => rw [if_neg hb] at h; cases h
  rw [if_pos hb] at h
  obtain ⟨K, hK⟩ := areLegs_ev ls hb
  have HA := Aside0.mk (hK K (Nat.le_refl _))
  have HR := Aside0.mk hr0
  have HL := Aside0.mk hL
  have HB := Aside0.mk (Below.refl w.heap.size w)
  clear hK hr0 hL hb
  unfold susM at h
  cases hv : legsB ls
  · rw [if_neg (by rw [hv]; simp)] at h
    simp only [Option.some.injEq, Prod.mk.injEq] at h
    obtain ⟨rfl, rfl⟩ := h
    rw [hv] at HA
    clear hv
    go_enter Tryd.func24, Tryd.ntmps24
    go_wp2_with (go_at_call 32; (with_reducible refine (impl_areLegs.calls K _ _ ls false _ ?s1 ?s2 HA.out).mono ?_); (case s1 => exact Kd.C_below HR.out qz6); (case s2 => exact hc); rintro e w' ⟨rfl, hw⟩; replace HB := Aside0.mk (below_step (show Below w.heap.size w _ from by (repeat (first | exact HB.out | exact Below.refl _ _ | apply below_alloc | apply pw_below_drewN | apply below_drew1)); done) hw); clear hw)
    exact bodyPost_ret (v := .tuple #[.int .i64 0, .bool false]) (by simp [results, Tryd.results24, go_sem]) rfl ⟨rfl, by repeat (first | exact HB.out | apply below_drew1)⟩
  · rw [hv] at HA
    rw [if_pos hv] at h
    simp only [Option.some.injEq, Prod.mk.injEq] at h
    have HQ := Aside0.mk h
    clear h
    have hv' := legsB_iff.mp hv
    have HG := Aside0.mk hv'.1
    have hn := hv'.2
    have hul := usedL_len ls
    have HUR := Aside0.mk (usedL_range ls)
    have HSK : Aside0 (∀ j, j ≤ (usedL ls).length → SOk (susTo ls j)) := ⟨SOk.upto hn hv'.1⟩
    clear hv hv'
    go_enter Tryd.func24, Tryd.ntmps24
    go_wp2_with (first
      | (go_at_call 32; (with_reducible refine (impl_areLegs.calls K _ _ ls true _ ?s1 ?s2 HA.out).mono ?_); (case s1 => exact Kd.C_below HR.out qz6); (case s2 => exact hc); rintro e w' ⟨rfl, hw⟩; replace HB := Aside0.mk (below_step (show Below w.heap.size w _ from by (repeat (first | exact HB.out | exact Below.refl _ _ | apply below_alloc | apply pw_below_drewN | apply below_drew1)); done) hw); clear hw)
      | (go_at_call 49; have hq5 : w.heap.size ≤ w'.heap.size := HB.out.size; have B3 := below_alloc (Below.refl w'.heap.size w') (Obj.cells #[Value.int IntKind.i64 0, Value.int IntKind.i64 0] 49); have L5 : Lst5 w'.heap.size (susTo ls 0) (w'.alloc (Obj.cells #[Value.int IntKind.i64 0, Value.int IntKind.i64 0] 49)) := ⟨(by rw [show ssN (susTo ls 0) = 0 from if_pos (by show (-1 : Int) < 0; decide)]; go_simp), (by rw [show ssD (susTo ls 0) = 0 from if_pos (by show (-1 : Int) < 0; decide)]; go_simp), by go_simp, by go_simp⟩; replace HB := Aside0.mk (below_step HB.out B3); generalize w'.alloc (Obj.cells #[Value.int IntKind.i64 0, Value.int IntKind.i64 0] 49) = w3 at *; (with_reducible refine (place A0 c ls _ ?s1 ?s2 hc hn HG.out (RR ls) rfl).mono ?_); (case s1 => exact HL.out.keep HB.out); (case s2 => exact Kd.C_below HR.out HB.out); rintro e w4 ⟨g, T, cl, rfl, hst, ho, hw⟩; replace HB := Aside0.mk (below_step HB.out hw); replace L5 := L5.keep hw; have HS := Aside0.mk hst; clear ho hw hst B3)
      | (go_at_call 50; have hq := placedLegsW A0 c ls w4 HS.out (World.block_lt_of_cell? _ _ HS.out.tc) HS.out.ge (Kd.C_below HR.out HB.out) hc hn HG.out; (with_reducible refine hq.mono ?_); clear hq; rintro e w5 ⟨v, rfl, hv, hw⟩; replace HB := Aside0.mk (below_step HB.out hw); have hq4 := World.block_lt_of_cell? _ _ L5.c0; replace L5 := L5.keep hw; clear HS; obtain ⟨A5, hh, c5, ev, hres⟩ := listForm hv; subst ev; rw [show plcL ls (RR ls) ls.length = usedL ls from rfl] at hres; have HRS := Aside0.mk hres; clear hv hw hres))
    rw [show (plcL ls (RR ls) ls.length).length = (usedL ls).length from rfl]
    have HBW : Aside0 (∀ W, Off w'.heap.size w5 W → Below w.heap.size w W) := ⟨fun W h => HB.out.trans ((h.below (Nat.le_of_lt (World.block_lt_of_cell? _ _ L5.c0))).mono hq5)⟩
    have HL5 := Aside0.mk L5
    clear L5
    have HAH : Aside0 (0 < (usedL ls).length → A5 = some ⟨hh, 0, none⟩ ∧ w'.heap.size ≠ hh) := ⟨fun h => ⟨(HRS.out h).1, by have := (HRS.out h).2.1; have hq6 : w'.heap.size < w4.heap.size := hq4; omega⟩⟩
    have HC5 : Aside0 (∀ t : Nat, t < (usedL ls).length → w5.cell? ⟨hh, t, none⟩ = some (.int .i64 (rd (usedL ls) (t : Int)))) := ⟨fun t ht => (HRS.out (by omega)).2.2.2 t ht⟩
    clear HRS hq4
    generalize w'.heap.size = q5 at *
    go_loopw [4, 17] (fun v4 v17 W => ∃ j : Nat, j ≤ (usedL ls).length ∧ v17 = .int .i64 j ∧ v4 = .int .i64 (susTo ls j).b ∧ Aside0 (Lst5 q5 (susTo ls j) W) ∧ Aside0 (Off q5 w5 W)) (fun _ v17 _ => (usedL ls).length - (intOf v17).toNat)
    case atStart => exact ⟨0, Nat.zero_le _, rfl, rfl, HL5, ⟨Off.refl _ _⟩⟩
    case round =>
      obtain ⟨j, hj, rfl, rfl, H5, HO⟩ := hrel
      clear HL5
      by_cases hlt : j < (usedL ls).length
      · have hpos : 0 < (usedL ls).length := by omega
        have j0 : (0 : Int) ≤ (j : Int) := by omega
        have j1 : (j : Int) < ((usedL ls).length : Int) := by omega
        have hmem : rd (usedL ls) (j : Int) ∈ usedL ls := by rw [Net.rd_get _ j hlt]; exact List.getElem_mem hlt
        have hur := HUR.out _ hmem
        have HSO := Aside0.mk (HSK.out j hj)
        have h31 := HO.out.cell (HC5.out j hlt) (HAH.out hpos).2.symm
        have hA5 := (HAH.out hpos).1
        have hnx : susTo ls (j + 1) = susS ls (susTo ls j) (rd (usedL ls) (j : Int)) := rfl
        generalize rd (usedL ls) (j : Int) = kz at *
        obtain ⟨k, rfl⟩ := Int.eq_ofNat_of_zero_le hur.1
        have hk : k < ls.length := by omega
        unfold susS at hnx
        rw [Int.toNat_natCast] at hnx
        have HNX := Aside0.mk hnx
        subst hA5
        clear hmem hur hnx
        generalize susTo ls j = st at *
        have hb1 := HSO.out.b
        cases hbr : bridgeB ls (k : Int)
        · have HBR : Aside0 (∀ W, Below w.heap.size w W → Calls Tryd.prog 44 #[.slice A0 ls.length c, .int .i64 (k : Int)] W fun e w' => e = .returned (.bool false) ∧ Below W.heap.size W w') := ⟨fun W hW => by
            have hq := isBridgeW A0 c ls k W (Kd.C_below HR.out hW) hc hn HG.out hk
            rw [hbr] at hq
            exact hq⟩
          have HLV : Aside0 (∀ W, Below w.heap.size w W → Calls Tryd.prog 45 #[.slice A0 ls.length c, .int .i64 (k : Int)] W (LeavePost (less ls k) W)) := ⟨fun W hW => leavingW A0 c ls k W (Kd.C_below HR.out hW) hc hn hk⟩
          have HGY := Aside0.mk (less_good HG.out k)
          have hyn : (less ls k).length ≤ 12 := by have := less_len ls k hk; omega
          rw [hbr, if_neg (by decide)] at HNX
          clear hbr
          generalize less ls k = y at *
          by_cases hb0 : st.b < 0
          · have HE := Aside0.mk (HNX.out.trans (if_pos (Or.inl hb0)))
            clear HNX
            generalize hsb : st.b = sb at *
            go_wp2_with (first
              | (go_at_call 44; (with_reducible refine (HBR.out _ (HBW.out _ HO.out)).mono ?_); rintro e w6 ⟨rfl, hw⟩; replace H5 := Aside0.mk (H5.out.keep hw); replace HO := Aside0.mk (HO.out.step hw); clear hw)
              | (go_at_call 45; (with_reducible refine (HLV.out _ (HBW.out _ HO.out)).mono ?_); rintro e w7 ⟨gl, cap, rfl, hcl, hC, hw⟩; have HC := Aside0.mk hC; replace H5 := Aside0.mk (H5.out.keep hw); replace HO := Aside0.mk (HO.out.step hw); clear hw hC)
              | (go_at_call 33; (with_reducible refine (strainW (some ⟨gl, 0, none⟩) cap y _ ?s1 HC.out hcl hyn HGY.out).mono ?_); (case s1 => exact HL.out.keep (HBW.out _ HO.out)); rintro e w8 ⟨rfl, hw⟩; replace H5 := Aside0.mk (H5.out.keep hw); replace HO := Aside0.mk (HO.out.step hw); have B8 := below_alloc (Below.refl w8.heap.size w8) (Obj.cells #[Value.int IntKind.i64 (sNum y), Value.int IntKind.i64 (sDen y)] 49); obtain ⟨x0, x1, x2, x3⟩ := H5.out.keep B8; have e0 : (w8.alloc (Obj.cells #[Value.int IntKind.i64 (sNum y), Value.int IntKind.i64 (sDen y)] 49)).cell? ⟨w8.heap.size, 0, none⟩ = some (.int .i64 (sNum y)) := (by go_simp); have e1 : (w8.alloc (Obj.cells #[Value.int IntKind.i64 (sNum y), Value.int IntKind.i64 (sDen y)] 49)).cell? ⟨w8.heap.size, 1, none⟩ = some (.int .i64 (sDen y)) := (by go_simp); have H9 := Aside0.mk (H5.out.keep B8); have HP9 := Aside0.mk (HO.out.step B8); clear hw B8))
            generalize w8.alloc (Obj.cells #[Value.int IntKind.i64 (sNum y), Value.int IntKind.i64 (sDen y)] 49) = w9 at *
            go_region
            all_goals go_wp2
            all_goals exact ⟨⟨j + 1, hlt, by go_num, by rw [HE.out], by rw [HE.out]; exact ⟨(H9.out.put (k := k) (y := y)).keep (below_drew1 (Below.refl _ _))⟩, ⟨((HP9.out.set _).set _).step (below_drew1 (Below.refl _ _))⟩⟩, by simp [intOf]; omega⟩
          · have HSN : ssN st = sNum st.y := if_neg hb0
            have HSD : ssD st = sDen st.y := if_neg hb0
            have HSL := Aside0.mk (sless HGY.out hyn (HSO.out.good (by omega)) (HSO.out.len (by omega)))
            rw [← HSN, ← HSD] at HSL
            clear HSN HSD
            by_cases hcmp : sCmp y st.y = -1
            · rw [decide_eq_true hcmp] at HSL
              have HE := Aside0.mk (HNX.out.trans (if_pos (Or.inr hcmp)))
              clear HNX hcmp
              generalize hsb : st.b = sb at *
              go_wp2_with (first
              | (go_at_call 44; (with_reducible refine (HBR.out _ (HBW.out _ HO.out)).mono ?_); rintro e w6 ⟨rfl, hw⟩; replace H5 := Aside0.mk (H5.out.keep hw); replace HO := Aside0.mk (HO.out.step hw); clear hw)
              | (go_at_call 45; (with_reducible refine (HLV.out _ (HBW.out _ HO.out)).mono ?_); rintro e w7 ⟨gl, cap, rfl, hcl, hC, hw⟩; have HC := Aside0.mk hC; replace H5 := Aside0.mk (H5.out.keep hw); replace HO := Aside0.mk (HO.out.step hw); clear hw hC)
              | (go_at_call 33; (with_reducible refine (strainW (some ⟨gl, 0, none⟩) cap y _ ?s1 HC.out hcl hyn HGY.out).mono ?_); (case s1 => exact HL.out.keep (HBW.out _ HO.out)); rintro e w8 ⟨rfl, hw⟩; replace H5 := Aside0.mk (H5.out.keep hw); replace HO := Aside0.mk (HO.out.step hw); have B8 := below_alloc (Below.refl w8.heap.size w8) (Obj.cells #[Value.int IntKind.i64 (sNum y), Value.int IntKind.i64 (sDen y)] 49); obtain ⟨x0, x1, x2, x3⟩ := H5.out.keep B8; have e0 : (w8.alloc (Obj.cells #[Value.int IntKind.i64 (sNum y), Value.int IntKind.i64 (sDen y)] 49)).cell? ⟨w8.heap.size, 0, none⟩ = some (.int .i64 (sNum y)) := (by go_simp); have e1 : (w8.alloc (Obj.cells #[Value.int IntKind.i64 (sNum y), Value.int IntKind.i64 (sDen y)] 49)).cell? ⟨w8.heap.size, 1, none⟩ = some (.int .i64 (sDen y)) := (by go_simp); have H9 := Aside0.mk (H5.out.keep B8); have HP9 := Aside0.mk (HO.out.step B8); clear hw B8)
              | (go_at_call 36; generalize w8.alloc (Obj.cells #[Value.int IntKind.i64 (sNum y), Value.int IntKind.i64 (sDen y)] 49) = w9 at *; (with_reducible refine (impl_fraction_less.calls _ _ _ _ _ _ HSL.out).mono ?_); rintro e w10 ⟨rfl, hw⟩; replace e0 := Sine.keepc e0 hw; replace e1 := Sine.keepc e1 hw; replace H9 := Aside0.mk (H9.out.keep hw); replace HP9 := Aside0.mk (HP9.out.step hw); obtain ⟨y0, y1, y2, y3⟩ := H9.out; clear hw x0 x1 x2 x3))
              go_region
              all_goals go_wp2
              all_goals exact ⟨⟨j + 1, hlt, by go_num, by rw [HE.out], by rw [HE.out]; exact ⟨(H9.out.put (k := k) (y := y)).keep (below_drew1 (Below.refl _ _))⟩, ⟨((HP9.out.set _).set _).step (below_drew1 (Below.refl _ _))⟩⟩, by simp [intOf]; omega⟩
            · rw [decide_eq_false hcmp] at HSL
              have HE := Aside0.mk (HNX.out.trans (if_neg (fun e => e.elim hb0 hcmp)))
              clear HNX hcmp
              generalize hsb : st.b = sb at *
              go_wp2_with (first
              | (go_at_call 44; (with_reducible refine (HBR.out _ (HBW.out _ HO.out)).mono ?_); rintro e w6 ⟨rfl, hw⟩; replace H5 := Aside0.mk (H5.out.keep hw); replace HO := Aside0.mk (HO.out.step hw); clear hw)
              | (go_at_call 45; (with_reducible refine (HLV.out _ (HBW.out _ HO.out)).mono ?_); rintro e w7 ⟨gl, cap, rfl, hcl, hC, hw⟩; have HC := Aside0.mk hC; replace H5 := Aside0.mk (H5.out.keep hw); replace HO := Aside0.mk (HO.out.step hw); clear hw hC)
              | (go_at_call 33; (with_reducible refine (strainW (some ⟨gl, 0, none⟩) cap y _ ?s1 HC.out hcl hyn HGY.out).mono ?_); (case s1 => exact HL.out.keep (HBW.out _ HO.out)); rintro e w8 ⟨rfl, hw⟩; replace H5 := Aside0.mk (H5.out.keep hw); replace HO := Aside0.mk (HO.out.step hw); have B8 := below_alloc (Below.refl w8.heap.size w8) (Obj.cells #[Value.int IntKind.i64 (sNum y), Value.int IntKind.i64 (sDen y)] 49); obtain ⟨x0, x1, x2, x3⟩ := H5.out.keep B8; have e0 : (w8.alloc (Obj.cells #[Value.int IntKind.i64 (sNum y), Value.int IntKind.i64 (sDen y)] 49)).cell? ⟨w8.heap.size, 0, none⟩ = some (.int .i64 (sNum y)) := (by go_simp); have e1 : (w8.alloc (Obj.cells #[Value.int IntKind.i64 (sNum y), Value.int IntKind.i64 (sDen y)] 49)).cell? ⟨w8.heap.size, 1, none⟩ = some (.int .i64 (sDen y)) := (by go_simp); have H9 := Aside0.mk (H5.out.keep B8); have HP9 := Aside0.mk (HO.out.step B8); clear hw B8)
              | (go_at_call 36; generalize w8.alloc (Obj.cells #[Value.int IntKind.i64 (sNum y), Value.int IntKind.i64 (sDen y)] 49) = w9 at *; (with_reducible refine (impl_fraction_less.calls _ _ _ _ _ _ HSL.out).mono ?_); rintro e w10 ⟨rfl, hw⟩; replace e0 := Sine.keepc e0 hw; replace e1 := Sine.keepc e1 hw; replace H9 := Aside0.mk (H9.out.keep hw); replace HP9 := Aside0.mk (HP9.out.step hw); obtain ⟨y0, y1, y2, y3⟩ := H9.out; clear hw x0 x1 x2 x3))
              exact ⟨⟨j + 1, hlt, by go_num, by rw [HE.out, hsb], by rw [HE.out]; exact H9, HP9⟩, by simp [intOf]; omega⟩
        · have HBR : Aside0 (∀ W, Below w.heap.size w W → Calls Tryd.prog 44 #[.slice A0 ls.length c, .int .i64 (k : Int)] W fun e w' => e = .returned (.bool true) ∧ Below W.heap.size W w') := ⟨fun W hW => by
            have hq := isBridgeW A0 c ls k W (Kd.C_below HR.out hW) hc hn HG.out hk
            rw [hbr] at hq
            exact hq⟩
          have HE := Aside0.mk (HNX.out.trans (if_pos hbr))
          clear hbr HNX
          go_wp2_with (go_at_call 44; (with_reducible refine (HBR.out _ (HBW.out _ HO.out)).mono ?_); rintro e w6 ⟨rfl, hw⟩; replace H5 := Aside0.mk (H5.out.keep hw); replace HO := Aside0.mk (HO.out.step hw); clear hw)
          exact ⟨⟨j + 1, hlt, by go_num, by rw [HE.out], by rw [HE.out]; exact H5, HO⟩, by simp [intOf]; omega⟩
      · obtain rfl : j = (usedL ls).length := by omega
        obtain ⟨e1, e2⟩ := HQ.out
        have E1 := Aside0.mk e1
        have E2 := Aside0.mk e2
        clear e1 e2 HQ
        generalize susTo ls (usedL ls).length = st at *
        by_cases hb0 : st.b < 0
        · have e1 := E1.out.symm.trans (if_pos hb0)
          have e2 := E2.out.symm.trans (decide_eq_false (by omega))
          subst e1
          subst e2
          clear E1 E2
          have hd : decide (0 ≤ st.b) = false := decide_eq_false (by omega)
          have hd2 : ¬ 0 ≤ st.b := by omega
          go_wp2
          exact bodyPost_ret (v := .tuple #[.int .i64 0, .bool false]) (by simp [results, Tryd.results24, go_sem, hd, hd2]) rfl ⟨rfl, HBW.out _ HO.out⟩
        · have e1 := E1.out.symm.trans (if_neg hb0)
          have e2 := E2.out.symm.trans (decide_eq_true (by omega))
          subst e1
          subst e2
          clear E1 E2
          have hd : decide (0 ≤ st.b) = true := decide_eq_true (by omega)
          have hd2 : 0 ≤ st.b := by omega
          go_wp2
          exact bodyPost_ret (v := .tuple #[.int .i64 st.b, .bool true]) (by simp [results, Tryd.results24, go_sem, hd, hd2]) rfl ⟨rfl, HBW.out _ HO.out⟩
end Go.Proofs.YtpojnobgijoddaaDoor.A
namespace Go.Proofs.YtpojnobgijoddaaDoor.A
open Go.Proofs.YtpojnobgijoddaaDoor Go.RowKit YtpojnobgijoddaaDoorW.PrintWords YtpojnobgijoddaaDoorW.PrintLast YtpojnobgijoddaaDoorW.PrintMore
attribute [local go_sem] max2_int min2_int max_two min_two max_three min_three max_four min_four
def laws_FnExactSuspectLeg.j0 : Nat → List (S47) → List (S45) → Bool → Option (Bool)
 | 0, _, _, _ => none
 | k + 1, x0, x6, x34 => if x34 = true then (some false) else ((laws_toLegS.f k x0).bind fun t533 => ((laws_eqLegS.f k x6 t533).bind fun t536 => (if t536 = true then (some true) else (some false))))
def laws_FnExactSuspectLeg.f (k : Nat) (l0 : List (S47)) : Option (Bool) := (laws_szLegS.f l0 1048576).bind fun t522 => (if t522 < 0 then (some true) else ((laws_toLegS.f k l0).bind fun t523 => ((spec_SuspectLeg.f k t523).bind fun bt526 => ((laws_toLegS.f k l0).bind fun t528 => ((impl_SuspectLeg.f t528).bind fun bt531 => (if bt531.1 = bt526.1 then (laws_FnExactSuspectLeg.j0 k l0 t528 (bt531.2 != bt526.2)) else (laws_FnExactSuspectLeg.j0 k l0 t528 true)))))))
theorem laws_FnExactSuspectLeg.mono_l : ∀ k, (∀ y0 y1 y2, LeO (laws_FnExactSuspectLeg.j0 k y0 y1 y2) (laws_FnExactSuspectLeg.j0 (k + 1) y0 y1 y2))
 | 0 => fun _ _ _ r h => by simp [laws_FnExactSuspectLeg.j0] at h
 | k + 1 => by
  have ih0 := laws_FnExactSuspectLeg.mono_l k
  ·
   intro y0 y1 y2
   unfold laws_FnExactSuspectLeg.j0
   repeat' first
   | (with_reducible exact ih0 _ _ _)
   | (with_reducible exact laws_eqLegS.mono _ _ _)
   | (with_reducible exact laws_toLegS.mono _ _)
   | (with_reducible exact spec_SuspectLeg.mono _ _)
   | (with_reducible exact LeO.refl _)
   | (with_reducible exact LeO.none _)
   | (with_reducible refine LeO.ite ?_ ?_)
   | (with_reducible refine LeO.bind ?_ (fun _ => ?_))
   | exact ih0 _ _ _
   | exact laws_eqLegS.mono _ _ _
   | exact laws_toLegS.mono _ _
   | exact spec_SuspectLeg.mono _ _
   | exact LeO.none _
   | refine LeO.ite ?_ ?_
   | refine LeO.bind ?_ (fun _ => ?_)
theorem laws_FnExactSuspectLeg.mono : ∀ a0 k, LeO (laws_FnExactSuspectLeg.f k a0) (laws_FnExactSuspectLeg.f (k + 1) a0) := by
 intro a0 k
 have ih0 := laws_FnExactSuspectLeg.mono_l k
 unfold laws_FnExactSuspectLeg.f
 repeat' first
   | (with_reducible exact ih0 _ _ _)
   | (with_reducible exact laws_eqLegS.mono _ _ _)
   | (with_reducible exact laws_toLegS.mono _ _)
   | (with_reducible exact spec_SuspectLeg.mono _ _)
   | (with_reducible exact LeO.refl _)
   | (with_reducible exact LeO.none _)
   | (with_reducible refine LeO.ite ?_ ?_)
   | (with_reducible refine LeO.bind ?_ (fun _ => ?_))
   | exact ih0 _ _ _
   | exact laws_eqLegS.mono _ _ _
   | exact laws_toLegS.mono _ _
   | exact spec_SuspectLeg.mono _ _
   | exact LeO.none _
   | refine LeO.ite ?_ ?_
   | refine LeO.bind ?_ (fun _ => ?_)
theorem laws_FnExactSuspectLeg.calls (k : Nat) (A0 : Option Addr) (c0 : Nat) (l0 : List (S47)) (r : Bool) (w : World) (hr0 : Kd.C k47 w A0 l0.length l0) (hc0 : l0.length ≤ c0) (h : laws_FnExactSuspectLeg.f k l0 = some true) (hL : Net.Sine.Laid w) :
  Calls Tryd.prog 8 #[.slice A0 l0.length c0] w fun e w' => e = .returned (.bool true) ∧ Below w.heap.size w w' := by
 have HL := Aside0.mk hL
 clear hL
 have HR0 := Aside0.mk hr0
 have HC0 := Aside0.mk hc0
 clear hr0 hc0
 have HB := Aside0.mk (Below.refl w.heap.size w)
 have H : ((laws_szLegS.f l0 1048576).bind fun t522 => (if t522 < 0 then (some true) else ((laws_toLegS.f k l0).bind fun t523 => ((spec_SuspectLeg.f k t523).bind fun bt526 => ((laws_toLegS.f k l0).bind fun t528 => ((impl_SuspectLeg.f t528).bind fun bt531 => (if bt531.1 = bt526.1 then (laws_FnExactSuspectLeg.j0 k l0 t528 (bt531.2 != bt526.2)) else (laws_FnExactSuspectLeg.j0 k l0 t528 true)))))))) = some true := h
 clear h
 replace H := Option.bind_eq_some_iff.mp H
 obtain ⟨t522, A20, H⟩ := H
 replace H : (if t522 < 0 then (some true) else ((laws_toLegS.f k l0).bind fun t523 => ((spec_SuspectLeg.f k t523).bind fun bt526 => ((laws_toLegS.f k l0).bind fun t528 => ((impl_SuspectLeg.f t528).bind fun bt531 => (if bt531.1 = bt526.1 then (laws_FnExactSuspectLeg.j0 k l0 t528 (bt531.2 != bt526.2)) else (laws_FnExactSuspectLeg.j0 k l0 t528 true))))))) = some true := H
 have A2 := Aside0.mk A20
 clear A20
 by_cases c3 : t522 < 0
 ·
  rw [if_pos c3] at H
  have c3b0 : decide (t522 < 0) = true := decide_eq_true c3
  clear c3
  go_enter Tryd.func8, Tryd.ntmps8
  go_wp2_with (first | ((with_reducible refine gate_callee (f := 10) rfl ?_); refine goesL_ (some 11) rfl rfl Tryd.func10 qz5 rfl #[.slice A0 l0.length c0, .int .i64 1048576] rfl qz1 ?_; (with_reducible refine (laws_szLegS.calls _ _ l0 1048576 t522 _ ?side1 ?side2 A2.out).mono ?_); (case side1 => repeat (first | exact HR0.out | (with_reducible refine Kd.C_alloc ?_ _) | (with_reducible refine Kd.C_drewN ?_ _) | (with_reducible refine Kd.C_drew ?_))); (case side2 => exact HC0.out); rintro e w' ⟨rfl, ⟨nd, rfl⟩⟩; refine ⟨_, rfl, ?_⟩))
  go_ret
  exact ⟨by first | rfl | (simp [errW_none, errW_some] <;> rfl) | (simp [*, errW_none, errW_some] <;> rfl), by repeat (first | (with_reducible first | exact HB.out | apply below_alloc | apply pw_below_drewN | apply below_drew1) | exact HB.out)⟩
 ·
  rw [if_neg c3] at H
  have c3b0 : decide (t522 < 0) = false := decide_eq_false c3
  clear c3
  replace H := Option.bind_eq_some_iff.mp H
  obtain ⟨t523, A40, H⟩ := H
  replace H : ((spec_SuspectLeg.f k t523).bind fun bt526 => ((laws_toLegS.f k l0).bind fun t528 => ((impl_SuspectLeg.f t528).bind fun bt531 => (if bt531.1 = bt526.1 then (laws_FnExactSuspectLeg.j0 k l0 t528 (bt531.2 != bt526.2)) else (laws_FnExactSuspectLeg.j0 k l0 t528 true))))) = some true := H
  have A4 := Aside0.mk A40
  clear A40
  replace H := Option.bind_eq_some_iff.mp H
  obtain ⟨⟨t526, t527⟩, A50, H⟩ := H
  replace H : ((laws_toLegS.f k l0).bind fun t528 => ((impl_SuspectLeg.f t528).bind fun bt531 => (if bt531.1 = t526 then (laws_FnExactSuspectLeg.j0 k l0 t528 (bt531.2 != t527)) else (laws_FnExactSuspectLeg.j0 k l0 t528 true)))) = some true := H
  have A5 := Aside0.mk A50
  clear A50
  replace H := Option.bind_eq_some_iff.mp H
  obtain ⟨t528, A60, H⟩ := H
  replace H : ((impl_SuspectLeg.f t528).bind fun bt531 => (if bt531.1 = t526 then (laws_FnExactSuspectLeg.j0 k l0 t528 (bt531.2 != t527)) else (laws_FnExactSuspectLeg.j0 k l0 t528 true))) = some true := H
  have A6 := Aside0.mk A60
  clear A60
  replace H := Option.bind_eq_some_iff.mp H
  obtain ⟨⟨t531, t532⟩, A70, H⟩ := H
  replace H : (if t531 = t526 then (laws_FnExactSuspectLeg.j0 k l0 t528 (t532 != t527)) else (laws_FnExactSuspectLeg.j0 k l0 t528 true)) = some true := H
  have A7 := Aside0.mk A70
  clear A70
  have HC8 := Aside0.mk H
  clear H
  go_enter Tryd.func8, Tryd.ntmps8
  go_upto_region 8 with (first | ((with_reducible refine gate_callee (f := 10) rfl ?_); refine goesL_ (some 11) rfl rfl Tryd.func10 qz5 rfl #[.slice A0 l0.length c0, .int .i64 1048576] rfl qz1 ?_; (with_reducible refine (laws_szLegS.calls _ _ l0 1048576 t522 _ ?side1 ?side2 A2.out).mono ?_); (case side1 => repeat (first | exact HR0.out | (with_reducible refine Kd.C_alloc ?_ _) | (with_reducible refine Kd.C_drewN ?_ _) | (with_reducible refine Kd.C_drew ?_))); (case side2 => exact HC0.out); rintro e w' ⟨rfl, ⟨nd, rfl⟩⟩; refine ⟨_, rfl, ?_⟩) | ((with_reducible refine gate_callee (f := 12) rfl ?_); refine goesL_ (some 16) rfl rfl Tryd.func12 qz5 rfl #[.slice A0 l0.length c0] rfl qz1 ?_; (with_reducible refine (laws_toLegS.calls k _ _ l0 t523 _ ?side1 ?side2 A4.out).mono ?_); (case side1 => repeat (first | exact HR0.out | (with_reducible refine Kd.C_alloc ?_ _) | (with_reducible refine Kd.C_drewN ?_ _) | (with_reducible refine Kd.C_drew ?_))); (case side2 => exact HC0.out); rintro e w9 ⟨v524, rfl, ho0, hb⟩; refine ⟨_, rfl, ?_⟩; have n0_ := Aside0.mk (Kd.R_lower ho0 (below_size qz0)); have n1_ := Aside0.mk (below_step qz0 hb); clear HB; have HO525 := n0_; have HB := n1_; clear n0_ n1_; (try clear hb); (try clear hb2); (try clear hk); (try clear hi); (try clear ho0); obtain ⟨Ao10, co10, eo10⟩ := Kd.R_slice HO525.out; subst eo10) | ((with_reducible refine gate_callee (f := 23) rfl ?_); refine goesL_ (some 17) rfl rfl Tryd.func23 qz5 rfl #[.slice Ao10 t523.length co10] rfl qz1 ?_; (with_reducible refine (spec_SuspectLeg.calls k _ _ t523 t526 t527 _ ?side1 ?side2 A5.out ?sideL).mono ?_); (case sideL => exact HL.out.keep qz0); (case side1 => repeat (first | exact (Kd.R_reads' HO525.out).2.2 | (with_reducible refine Kd.C_alloc ?_ _) | (with_reducible refine Kd.C_drewN ?_ _) | (with_reducible refine Kd.C_drew ?_))); (case side2 => exact (Kd.R_reads' HO525.out).2.1); rintro e w11 ⟨rfl, hb⟩; refine ⟨_, rfl, ?_⟩; have n0_ := Aside0.mk (Kd.R_below qz39 hb); have n1_ := Aside0.mk (below_step qz0 hb); clear HO525; clear HB; have HO525 := n0_; have HB := n1_; clear n0_ n1_; (try clear hb); (try clear hb2); (try clear hk); (try clear hi)) | ((with_reducible refine gate_callee (f := 12) rfl ?_); refine goesL_ (some 21) rfl rfl Tryd.func12 qz5 rfl #[.slice A0 l0.length c0] rfl qz1 ?_; (with_reducible refine (laws_toLegS.calls k _ _ l0 t528 _ ?side1 ?side2 A6.out).mono ?_); (case side1 => repeat (first | exact (Kd.C_below HR0.out HB.out) | (with_reducible refine Kd.C_alloc ?_ _) | (with_reducible refine Kd.C_drewN ?_ _) | (with_reducible refine Kd.C_drew ?_))); (case side2 => exact HC0.out); rintro e w12 ⟨v529, rfl, ho0, hb⟩; refine ⟨_, rfl, ?_⟩; have n0_ := Aside0.mk (Kd.R_elder' qz39 (Kd.R_base ho0) hb); have n1_ := Aside0.mk (Kd.R_lower (Kd.R_new' ho0 (Kd.R_lt qz39)) (below_size qz0)); have n2_ := Aside0.mk (below_step qz0 hb); clear HO525; clear HB; have HO525 := n0_; have HO530 := n1_; have HB := n2_; clear n0_ n1_ n2_; (try clear hb); (try clear hb2); (try clear hk); (try clear hi); (try clear ho0); obtain ⟨Ao13, co13, eo13⟩ := Kd.R_slice HO530.out; subst eo13) | ((with_reducible refine gate_callee (f := 24) rfl ?_); refine goesL_ (some 24) rfl rfl Tryd.func24 qz5 rfl #[.slice Ao13 t528.length co13] rfl qz1 ?_; (with_reducible refine (impl_SuspectLeg.calls _ _ t528 t531 t532 _ ?side1 ?side2 A7.out ?sideL).mono ?_); (case sideL => exact HL.out.keep qz0); (case side1 => repeat (first | exact (Kd.R_reads' HO530.out).2.2 | (with_reducible refine Kd.C_alloc ?_ _) | (with_reducible refine Kd.C_drewN ?_ _) | (with_reducible refine Kd.C_drew ?_))); (case side2 => exact (Kd.R_reads' HO530.out).2.1); rintro e w14 ⟨rfl, hb⟩; refine ⟨_, rfl, ?_⟩; have n0_ := Aside0.mk (Kd.R_below qz39 hb); have n1_ := Aside0.mk (Kd.R_below (by (with_reducible repeat (first | apply Kd.R_alloc | apply Kd.R_drewN | apply Kd.R_drew)); exact HO530.out) hb); have n2_ := Aside0.mk (below_step qz0 hb); clear HO525; clear HO530; clear HB; have HO525 := n0_; have HO530 := n1_; have HB := n2_; clear n0_ n1_ n2_; (try clear hb); (try clear hb2); (try clear hk); (try clear hi)))
  (try simp only [Act.put, List.setIfInBounds_toArray, List.set_cons_zero, List.set_cons_succ])
  go_cut [34] (fun v34 wc => ∃ (kq : Nat) (x34_7 : Bool), v34 = .bool x34_7 ∧ Aside0 (laws_FnExactSuspectLeg.j0 kq l0 t528 x34_7 = some true) ∧ Aside0 (kq ≤ k) ∧ Aside0 (Kd.R k45 45 wc w.heap.size (fun _ => True) (.slice Ao13 t528.length co13) t528) ∧ Aside0 (Below w.heap.size w wc))
  case first =>
   have H := HC8.out
   clear HC8
   by_cases c15 : t531 = t526
   ·
    rw [if_pos c15] at H
    have c15b0 : (t531 == t526) = true := beq_iff_eq.mpr c15
    have c15b1 : (t531 != t526) = false := bne_eq_false_iff_eq.mpr c15
    clear c15
    (first | rw [c15b0] | (simp only [i64_w, i32_w]; rw [c15b0]) | skip)
    have H' := Aside0.mk H
    clear H
    go_wp2
    go_meet
    case rel => exact ⟨_, ((t532 != t527)), qz3, H', ⟨by first | omega | exact Nat.le_refl _⟩, ⟨by (with_reducible repeat (first | apply Kd.R_alloc | apply Kd.R_drewN | apply Kd.R_drew)); exact Kd.R_mono HO530.out (fun _ hk => trivial)⟩, ⟨by repeat (first | (with_reducible first | exact HB.out | apply below_alloc | apply pw_below_drewN | apply below_drew1) | exact HB.out)⟩⟩
   ·
    rw [if_neg c15] at H
    have c15b0 : (t531 == t526) = false := beq_eq_false_iff_ne.mpr c15
    have c15b1 : (t531 != t526) = true := bne_iff_ne.mpr c15
    (first | rw [c15b0] | (simp only [i64_w, i32_w]; rw [c15b0]) | skip)
    exact absurd H (by cases k <;> simp [laws_FnExactSuspectLeg.j0])
  case rest =>
   clear HC8
   try clear c1
   try clear c2
   try clear p2
   try clear c3
   try clear c3b0
   try clear c8
   try clear c10
   try clear c12
   try clear c15
   try clear c15b0
   try clear c15b1
   obtain ⟨kq, x34_7, rfl, HA, HJ7, HO_6, HB⟩ := hcut
   cases kq with
   | zero => exact absurd HA.out (by simp [laws_FnExactSuspectLeg.j0])
   | succ kj7 =>
    have H := HA.out
    clear HA
    simp only [laws_FnExactSuspectLeg.j0] at H
    by_cases c16 : x34_7 = true
    ·
     subst c16
     have H1 : (some false) = some true := by rw [if_pos rfl] at H; exact H
     clear H
     have H := H1
     clear H1
     exact absurd (Option.some.inj H) (by decide)
    ·
     replace c16 := Bool.eq_false_iff.mpr c16
     subst c16
     have H1 : ((laws_toLegS.f kj7 l0).bind fun t533 => ((laws_eqLegS.f kj7 t528 t533).bind fun t536 => (if t536 = true then (some true) else (some false)))) = some true := by rw [if_neg (show ¬ (false = true) by decide)] at H; exact H
     clear H
     have H := H1
     clear H1
     replace H := Option.bind_eq_some_iff.mp H
     obtain ⟨t533, A170, H⟩ := H
     replace H : ((laws_eqLegS.f kj7 t528 t533).bind fun t536 => (if t536 = true then (some true) else (some false))) = some true := H
     have A17 := Aside0.mk A170
     clear A170
     replace H := Option.bind_eq_some_iff.mp H
     obtain ⟨t536, A180, H⟩ := H
     replace H : (if t536 = true then (some true) else (some false)) = some true := H
     have A18 := Aside0.mk A180
     clear A180
     by_cases c19 : t536 = true
     ·
      subst c19
      have H1 : (some true) = some true := rfl
      clear H
      have H := H1
      clear H1
      go_wp2_with (first | ((with_reducible refine gate_callee (f := 12) rfl ?_); refine goesL_ (some 37) rfl rfl Tryd.func12 qz5 rfl #[.slice A0 l0.length c0] rfl qz1 ?_; (with_reducible refine (laws_toLegS.calls kj7 _ _ l0 t533 _ ?side1 ?side2 A17.out).mono ?_); (case side1 => repeat (first | exact (Kd.C_below HR0.out HB.out) | (with_reducible refine Kd.C_alloc ?_ _) | (with_reducible refine Kd.C_drewN ?_ _) | (with_reducible refine Kd.C_drew ?_))); (case side2 => exact HC0.out); rintro e w20 ⟨v534, rfl, ho0, hb⟩; refine ⟨_, rfl, ?_⟩; have n0_ := Aside0.mk (Kd.R_elder' qz7 (Kd.R_base ho0) hb); have n1_ := Aside0.mk (Kd.R_lower (Kd.R_new' ho0 (Kd.R_lt qz7)) (below_size qz0)); have n2_ := Aside0.mk (below_step qz0 hb); clear HO_6; clear HB; have HO_6 := n0_; have HO535 := n1_; have HB := n2_; clear n0_ n1_ n2_; (try clear hb); (try clear hb2); (try clear hk); (try clear hi); (try clear ho0); obtain ⟨Ao21, co21, eo21⟩ := Kd.R_slice HO535.out; subst eo21) | ((with_reducible refine gate_callee (f := 14) rfl ?_); refine goesL_ (some 38) rfl rfl Tryd.func14 qz5 rfl #[.slice Ao13 t528.length co13, .slice Ao21 t533.length co21] rfl qz1 ?_; (with_reducible refine (laws_eqLegS.calls kj7 _ _ t528 _ _ t533 true _ ?side1 ?side2 ?side3 ?side4 A18.out).mono ?_); (case side1 => repeat (first | exact (Kd.R_reads' HO_6.out).2.2 | (with_reducible refine Kd.C_alloc ?_ _) | (with_reducible refine Kd.C_drewN ?_ _) | (with_reducible refine Kd.C_drew ?_))); (case side2 => exact (Kd.R_reads' HO_6.out).2.1); (case side3 => repeat (first | exact (Kd.R_reads' HO535.out).2.2 | (with_reducible refine Kd.C_alloc ?_ _) | (with_reducible refine Kd.C_drewN ?_ _) | (with_reducible refine Kd.C_drew ?_))); (case side4 => exact (Kd.R_reads' HO535.out).2.1); rintro e w22 ⟨rfl, hb⟩; refine ⟨_, rfl, ?_⟩; have n0_ := Aside0.mk (Kd.R_below qz7 hb); have n1_ := Aside0.mk (Kd.R_below (by (with_reducible repeat (first | apply Kd.R_alloc | apply Kd.R_drewN | apply Kd.R_drew)); exact HO535.out) hb); have n2_ := Aside0.mk (below_step qz0 hb); clear HO_6; clear HO535; clear HB; have HO_6 := n0_; have HO535 := n1_; have HB := n2_; clear n0_ n1_ n2_; (try clear hb); (try clear hb2); (try clear hk); (try clear hi)))
      go_ret
      exact ⟨by first | rfl | (simp [errW_none, errW_some] <;> rfl) | (simp [*, errW_none, errW_some] <;> rfl), by repeat (first | (with_reducible first | exact HB.out | apply below_alloc | apply pw_below_drewN | apply below_drew1) | exact HB.out)⟩
     ·
      replace c19 := Bool.eq_false_iff.mpr c19
      subst c19
      have H1 : (some false) = some true := by rw [if_neg (show ¬ (false = true) by decide)] at H; exact H
      clear H
      have H := H1
      clear H1
      exact absurd (Option.some.inj H) (by decide)
end Go.Proofs.YtpojnobgijoddaaDoor.A
namespace Go.Proofs.YtpojnobgijoddaaDoor.Legs
open Go.RowKit YtpojnobgijoddaaDoorW.PrintWords Plain A
def cv (x : S47) : S45 := ⟨x.f0, x.f1, x.f2, x.f3, x.f4⟩
theorem toLegs_ev (l : List (S47)) (hb : l.length ≤ 7036874417766) : Ev (fun k => laws_toLegS.f k l) (l.map cv) := by
  unfold laws_toLegS.f
  refine Ev.pos (by omega) ?_
  refine Ev.pos (by omega) ?_
  exact copy_all laws_toLegS.l0 cv z47 _ (fun k x0 x3 x4 => by simp only [laws_toLegS.l0, laws_toLeg.f, Option.bind_some]; rfl) l (by omega)
theorem eqLegs_ev (l : List (S45)) (hb : l.length ≤ 140737488351232) : Ev (fun k => laws_eqLegS.f k l l) true := by
  unfold laws_eqLegS.f
  refine Ev.pos rfl ?_
  exact eq_all laws_eqLegS.l0 (fun k x0 x4 h0 => by
    simp only [laws_eqLegS.l0, laws_eqLeg.f, if_true, Option.bind_some]
    by_cases h : x4 < (x0.length : Int)
    · rw [if_pos h, if_pos h0, if_pos h, if_pos h]
    · rw [if_neg h, if_neg h]) l hb
theorem szLegs_eq (l : List (S47)) (hb : l.length ≤ 140737488351232) : laws_szLegS.f l 1048576 = some (if l.length ≤ 1048576 then 1048576 - (l.length : Int) else -1) := by
  unfold laws_szLegS.f
  rw [w64 (by omega) (by omega)]
  by_cases h : l.length ≤ 1048576
  · rw [if_neg (by omega), if_pos h]
  · rw [if_pos (by omega), if_neg h]
end Go.Proofs.YtpojnobgijoddaaDoor.Legs
namespace Go.Proofs.YtpojnobgijoddaaDoor.Net
open Go.RowKit YtpojnobgijoddaaDoorW.PrintWords Plain A
theorem specRest_eq (x : S45) (h : Good x) (axis : Int) (h0 : 0 ≤ axis) (h2 : axis ≤ 2) (cs : List Int) (h8 : cs.length = 8) (den : Int) : spec_l9Rest.f x.f0 x.f1 x.f2 x.f3 x.f4 axis cs den = some (resM x axis cs den) := by
  unfold spec_l9Rest.f
  rw [measure_eq x h axis h0 h2, Option.bind_some]
  obtain ⟨⟨a0, a8⟩, ⟨d0, d8⟩, _⟩ := h
  rw [if_pos (by omega), if_pos (by omega), if_pos (by omega), if_pos (by omega)]
  rfl
theorem specRest {ls : L} (hn : ls.length ≤ 12) (hg : ∀ x ∈ ls, Good x) (ax : Int) (h0 : 0 ≤ ax) (h2 : ax ≤ 2) {i : Int} (hi : i ∈ usedL ls) : spec_l9Rest.f (rd_T45 ls i).f0 (rd_T45 ls i).f1 (rd_T45 ls i).f2 (rd_T45 ls i).f3 (rd_T45 ls i).f4 ax (coL ls ax) (treesM ls) = some (nT ls ax i) := by
  have hr := usedL_range ls i hi
  obtain ⟨m, rfl⟩ := Int.eq_ofNat_of_zero_le hr.1
  have hx : Good (leg ls (m : Int)) := hg _ (leg_mem (by omega))
  have h := specRest_eq (leg ls (m : Int)) hx ax h0 h2 (coL ls ax) (coL_len ls ax) (treesM ls)
  rw [res_all hn hg ax hi] at h
  exact h
theorem squares_loop {ls : L} (hn : ls.length ≤ 12) (hg : ∀ x ∈ ls, Good x) (ax : Int) (h0 : 0 ≤ ax) (h2 : ax ≤ 2) : ∀ (d j : Nat), j + d = (usedL ls).length →
    Ev (fun k => spec_l9Squares.l0 k ls ax (coL ls ax) (treesM ls) (sqTo (resL ls ax) j) (usedL ls) (j : Int)) (redN (SA ls ax) (treesM ls * treesM ls), redD (SA ls ax) (treesM ls * treesM ls)) := by
  have hul := usedL_len ls
  have hrl : (resL ls ax).length = (usedL ls).length := by unfold resL; rw [List.length_map]
  intro d
  induction d with
  | zero =>
    intro j hj
    have ht1 := trees_pos hn hg
    have ht2 := trees_le hn hg
    have hs := SA_bound hn hg ax
    have hsq : treesM ls * treesM ls ≤ 6561 * 6561 := Int.mul_le_mul ht2 ht2 (by omega) (by omega)
    have hsp : 0 < treesM ls * treesM ls := Int.mul_pos (by omega) (by omega)
    have e : sqTo (resL ls ax) j = SA ls ax := by rw [← sqTo_all hn hg ax, hrl, show j = (usedL ls).length by omega]
    rw [e]
    refine Ev.step (f := fun k => (spec_l9Reduce.f k (SA ls ax) (wrap64 (treesM ls * treesM ls))).bind fun bt => some (bt.1, bt.2)) (fun k => ?_) ?_
    · simp only [spec_l9Squares.l0]
      rw [if_neg (by omega)]
    · rw [w64 (by omega) (by omega)]
      exact Ev.bind (l9Reduce_ev (SA ls ax) (treesM ls * treesM ls) hsp (by omega) (by omega) (by omega)) (Ev.now _)
  | succ d ih =>
    intro j hj
    have hlt : j < (usedL ls).length := by omega
    have h := ih (j + 1) (by omega)
    have hm : rd (usedL ls) (j : Int) ∈ usedL ls := by rw [rd_get _ j hlt]; exact List.getElem_mem hlt
    have hr := usedL_range ls _ hm
    have hs := specRest hn hg ax h0 h2 hm
    have e : sqTo (resL ls ax) (j + 1) = wrap64 (sqTo (resL ls ax) j + wrap64 (nT ls ax (rd (usedL ls) (j : Int)) * nT ls ax (rd (usedL ls) (j : Int)))) := by
      rw [sqTo_step _ j (by omega)]
      have e2 : rd (resL ls ax) (j : Int) = nT ls ax (rd (usedL ls) (j : Int)) := by
        rw [rd_get _ j (by omega), rd_get _ j hlt]
        unfold resL
        rw [List.getElem_map]
      rw [e2]
    refine Ev.step (fun k => ?_) h
    simp only [spec_l9Squares.l0]
    rw [if_pos (by omega), if_pos (by omega), if_pos hr.1, if_pos hr.2, hs, Option.bind_some, e, w64 (x := (j : Int) + 1) (by omega) (by omega)]
    rfl
theorem l9Squares_ev {ls : L} (hv : legsB ls = true) (ax : Int) (h0 : 0 ≤ ax) (h2 : ax ≤ 2) : Ev (fun k => spec_l9Squares.f k ls ax) (redN (SA ls ax) (treesM ls * treesM ls), redD (SA ls ax) (treesM ls * treesM ls)) := by
  have h' := legsB_iff.mp hv
  have ht : spec_l9Trees.f ls = some (treesM ls) := by unfold spec_l9Trees.f; rw [if_pos hv]
  have ha : spec_l9Adjust.f ls ax = some (coL ls ax) := by unfold spec_l9Adjust.f; rw [if_pos ⟨hv, h0, h2⟩]
  exact Ev.bindc ha (Ev.bindc ht (Ev.bind (l9Legs_ev h'.2 h'.1) (squares_loop h'.2 h'.1 ax h0 h2 (usedL ls).length 0 (by omega))))
end Go.Proofs.YtpojnobgijoddaaDoor.Net
namespace Go.Proofs.YtpojnobgijoddaaDoor.Net
open Go.RowKit YtpojnobgijoddaaDoorW.PrintWords Plain A Frac
theorem common_ev (a b : Int) (ha : 0 ≤ a) (hb : 0 < b) : Ev (fun k => spec_l10Common.f k a b) (Int.gcd a b : Int) := by
  obtain ⟨z, hz, hs, K, hK⟩ := gcd_loop (g := spec_l10Common.l0) (fin := fun a => a) (fun k a => by
    unfold spec_l10Common.l0; rw [if_pos rfl]) (fun k a b hb => by
    conv => lhs; unfold spec_l10Common.l0
    rw [if_neg hb]) (b.natAbs + 1) a b (by omega)
  have h0 := hs ha (by omega)
  rw [show ((Int.gcd a b : Nat) : Int) = z by omega]
  exact ⟨K, fun k hk => hK k hk⟩
theorem strain_step {ls : L} (hv : legsB ls = true) (ax : Int) (h0 : 0 ≤ ax) (h2 : ax ≤ 2) {num den N : Int} (hR : Red num den N (treesM ls)) (hN : 0 ≤ N) (hN2 : N ≤ 59049000000) :
    ∃ num' den', Red num' den' (N + AM ls ax) (treesM ls) ∧ ∀ v, Ev (fun k => spec_l10Strain.l0 k ls num' den' (ax + 1)) v → Ev (fun k => spec_l10Strain.l0 k ls num den ax) v := by
  have h' := legsB_iff.mp hv
  have ht := trees_pos h'.2 h'.1
  have ht2 := trees_le h'.2 h'.1
  have hsp : 0 < treesM ls * treesM ls := Int.mul_pos (by omega) (by omega)
  have hq := squares_red h'.2 h'.1 (red_red (n := SA ls ax) hsp)
  have hsq := l9Squares_ev hv ax h0 h2
  generalize redN (SA ls ax) (treesM ls * treesM ls) = a at *
  generalize redD (SA ls ax) (treesM ls * treesM ls) = b at *
  have hA := AM_bound h'.2 h'.1 ax
  have hb1 := Red.le (by omega) hA.1 hq
  have hd1 := Red.le (by omega) hN hR
  have hd := hR.1
  have hb := hq.1
  have hg := gcd_small (n := den) hb (by omega)
  have hcm := common_ev den b (by omega) hb
  generalize hgg : Int.gcd den b = g at *
  have e1 : den.tdiv (g : Int) * (g : Int) = den := Int.tdiv_mul_cancel (by rw [← hgg]; exact Int.gcd_dvd_left ..)
  have e2 : b.tdiv (g : Int) * (g : Int) = b := Int.tdiv_mul_cancel (by rw [← hgg]; exact Int.gcd_dvd_right ..)
  have hsum := Red.sum hd hb (g := (g : Int)) (by omega) hR.2.2 hq.2.2 e1 e2
  have q1 := tdiv_small den g (B := 6561) (by omega) (by omega)
  have q2 := tdiv_small b g (B := 6561) (by omega) (by omega)
  have p1 : 0 ≤ den.tdiv (g : Int) := Int.tdiv_nonneg (by omega) (by omega)
  have p2 : 0 ≤ b.tdiv (g : Int) := Int.tdiv_nonneg (by omega) (by omega)
  have w1 := wtdiv den g (by omega) (by omega)
  have w2 := wtdiv b g (by omega) (by omega)
  have hdp : 0 < den.tdiv (g : Int) := by
    rcases Int.lt_or_le 0 (den.tdiv (g : Int)) with c | c
    · exact c
    · exfalso
      rw [show den.tdiv (g : Int) = 0 by omega] at e1
      omega
  generalize hu : den.tdiv (g : Int) = u at *
  generalize htt : b.tdiv (g : Int) = t at *
  have m1 : num * t ≤ 59049000000 * 6561 := Int.mul_le_mul (by omega) (by omega) (by omega) (by omega)
  have m2 : a * u ≤ 59049000000 * 6561 := Int.mul_le_mul (by omega) (by omega) (by omega) (by omega)
  have m3 : u * b ≤ 6561 * 6561 := Int.mul_le_mul (by omega) (by omega) (by omega) (by omega)
  have n1 : 0 ≤ num * t := Int.mul_nonneg (by omega) (by omega)
  have n2 : 0 ≤ a * u := Int.mul_nonneg (by omega) (by omega)
  have n3 : 0 < u * b := Int.mul_pos hdp hb
  have x1 : wrap64 (num * t) = num * t := w64 (by omega) (by omega)
  have x2 : wrap64 (a * u) = a * u := w64 (by omega) (by omega)
  have x3 : wrap64 (u * b) = u * b := w64 (by omega) (by omega)
  have x4 : wrap64 (num * t + a * u) = num * t + a * u := w64 (by omega) (by omega)
  have hred := l9Reduce_ev (num * t + a * u) (u * b) n3 (by omega) (by omega) (by omega)
  have hR2 := Red.change (T := treesM ls) (N := N + AM ls ax) n3 (red_red (n := num * t + a * u) n3) hsum
  refine ⟨_, _, hR2, fun v hv2 => ?_⟩
  have hax : wrap64 (ax + 1) = ax + 1 := w64 (by omega) (by omega)
  refine Ev.step (f := fun k => (spec_l9Squares.f k ls ax).bind fun bt250 => ((spec_l10Common.f k den bt250.2).bind fun t252 => (if t252 = 0 then (none) else ((spec_l10Common.f k den bt250.2).bind fun t253 => (if t253 = 0 then (none) else ((spec_l10Common.f k den bt250.2).bind fun t254 => (if t254 = 0 then (none) else ((spec_l9Reduce.f k (wrap64 ((wrap64 (num * (wrap64 (Int.tdiv bt250.2 t252)))) + (wrap64 (bt250.1 * (wrap64 (Int.tdiv den t253)))))) (wrap64 ((wrap64 (Int.tdiv den t254)) * bt250.2))).bind fun bt255 => (spec_l10Strain.l0 k ls bt255.1 bt255.2 (wrap64 (ax + 1))))))))))) (fun k => ?_) ?_
  · conv => lhs; unfold spec_l10Strain.l0
    rw [if_pos (by omega)]
  · refine Ev.bind hsq (Ev.bind hcm (Ev.neg (by omega) (Ev.bind hcm (Ev.neg (by omega) (Ev.bind hcm (Ev.neg (by omega) ?_))))))
    simp only [w1, w2, htt, hu, x1, x2, x3, x4, hax]
    exact Ev.bind hred hv2
theorem strain_ev {ls : L} (hv : legsB ls = true) : Ev (fun k => spec_l10Strain.f k ls) (sNum ls, sDen ls) := by
  have h' := legsB_iff.mp hv
  have ht := trees_pos h'.2 h'.1
  have a0 := AM_bound h'.2 h'.1 0
  have a1 := AM_bound h'.2 h'.1 1
  have a2 := AM_bound h'.2 h'.1 2
  obtain ⟨n1, d1, r1, s1⟩ := strain_step hv 0 (by decide) (by decide) (num := 0) (den := 1) (N := 0) ⟨by decide, by decide, by omega⟩ (by decide) (by decide)
  obtain ⟨n2, d2, r2, s2⟩ := strain_step hv 1 (by decide) (by decide) r1 (by omega) (by omega)
  obtain ⟨n3, d3, r3, s3⟩ := strain_step hv 2 (by decide) (by decide) r2 (by omega) (by omega)
  have hs := sRed h'.2 h'.1
  rw [show (0 : Int) + AM ls 0 + AM ls 1 + AM ls 2 = sN ls from by unfold sN; omega] at r3
  obtain ⟨e1, e2⟩ := Red.unique (by omega) r3 hs
  rw [← e1, ← e2]
  refine s1 _ (s2 _ (s3 _ ?_))
  refine Ev.step (f := fun _ => some (n3, d3)) (fun k => ?_) (Ev.now _)
  conv => lhs; unfold spec_l10Strain.l0
  rw [if_neg (by omega)]
theorem sCmp_cases (x y : L) : (sCmp x y = -1 ∧ sCmp x y < 0) ∨ (sCmp x y ≠ -1 ∧ ¬ sCmp x y < 0) := by
  unfold sCmp cmp
  split
  · exact Or.inl ⟨rfl, by decide⟩
  · refine Or.inr ?_
    split <;> exact ⟨by decide, by decide⟩
theorem cmpS_ev {x y : L} (hx : ∀ z ∈ x, Good z) (nx : x.length ≤ 12) (hy : ∀ z ∈ y, Good z) (ny : y.length ≤ 12) : Ev (fun k => spec_l10Compare.f k (sNum x) (sDen x) (sNum y) (sDen y)) (sCmp x y) := by
  have h1 := s_bound nx hx
  have h2 := s_bound ny hy
  unfold sCmp
  exact compare_ev (by omega) (by omega) (by omega) (by omega) (by unfold big; omega) (by unfold big; omega) (by unfold big; omega) (by unfold big; omega)
end Go.Proofs.YtpojnobgijoddaaDoor.Net
namespace Go.Proofs.YtpojnobgijoddaaDoor.Pure
open Go.RowKit YtpojnobgijoddaaDoorW.PrintWords Plain A Legs
theorem less_eq (ls : Net.L) (k : Nat) (hk : k < ls.length) (hb : ls.length ≤ 2000000) : spec_l10Less.f ls (k : Int) = some (Net.less ls k) := by
  have h1 : (ls.take k).length = k := by rw [List.length_take]; omega
  have h2 : (ls.drop (k + 1)).length = ls.length - (k + 1) := List.length_drop
  have hw : wrap64 ((k : Int) + 1) = ((k + 1 : Nat) : Int) := by unfold wrap64; omega
  unfold spec_l10Less.f
  rw [Option.bind_some, if_pos (by omega), if_pos (by omega), Option.bind_some, Int.toNat_natCast, if_pos (by simp only [List.length_nil]; omega), Option.bind_some, List.nil_append, hw, if_pos (by omega), if_pos (by omega), Option.bind_some, Int.toNat_natCast, if_pos (by omega)]
  rfl
theorem sus_loop {ls : Net.L} (hv : Net.legsB ls = true) : ∀ (d j : Nat), j + d = (Net.usedL ls).length →
    Ev (fun k => spec_SuspectLeg.l0 k ls (Net.usedL ls) (Net.susTo ls j).b (if (Net.susTo ls j).b < 0 then 0 else Net.sNum (Net.susTo ls j).y) (if (Net.susTo ls j).b < 0 then 1 else Net.sDen (Net.susTo ls j).y) (j : Int)) (if (Net.susTo ls (Net.usedL ls).length).b < 0 then 0 else (Net.susTo ls (Net.usedL ls).length).b, decide ((Net.susTo ls (Net.usedL ls).length).b ≥ 0)) := by
  have h' := Net.legsB_iff.mp hv
  have hul := Net.usedL_len ls
  intro d
  induction d with
  | zero =>
    intro j hj
    obtain rfl : j = (Net.usedL ls).length := by omega
    generalize Net.susTo ls (Net.usedL ls).length = st
    by_cases hb : st.b < 0
    · refine Ev.step (f := fun _ => some (0, false)) (fun k => ?_) ?_
      · conv => lhs; unfold spec_SuspectLeg.l0
        rw [if_neg (by omega), if_pos hb]
      · rw [if_pos hb, decide_eq_false (by omega)]
        exact Ev.now _
    · refine Ev.step (f := fun _ => some (st.b, true)) (fun k => ?_) ?_
      · conv => lhs; unfold spec_SuspectLeg.l0
        rw [if_neg (by omega), if_neg hb]
      · rw [if_neg hb, decide_eq_true (by omega)]
        exact Ev.now _
  | succ d ih =>
    intro j hj
    have hlt : j < (Net.usedL ls).length := by omega
    have hrec := ih (j + 1) (by omega)
    have hm : rd (Net.usedL ls) (j : Int) ∈ Net.usedL ls := by rw [Net.rd_get _ j hlt]; exact List.getElem_mem hlt
    have hr := Net.usedL_range ls _ hm
    have hso := Net.SOk.upto h'.2 h'.1 j (by omega)
    have hnx : Net.susTo ls (j + 1) = Net.susS ls (Net.susTo ls j) (rd (Net.usedL ls) (j : Int)) := rfl
    rw [hnx] at hrec
    have hw : wrap64 ((j : Int) + 1) = ((j + 1 : Nat) : Int) := by unfold wrap64; omega
    have hst : ∀ (k : Nat) (n d : Int), spec_SuspectLeg.l0 (k + 1) ls (Net.usedL ls) (Net.susTo ls j).b n d (j : Int) = (spec_l8Bridge.f k ls (rd (Net.usedL ls) (j : Int))).bind fun t524 => (if t524 = true then (spec_SuspectLeg.l0 k ls (Net.usedL ls) (Net.susTo ls j).b n d ((j + 1 : Nat) : Int)) else ((spec_l10Less.f ls (rd (Net.usedL ls) (j : Int))).bind fun t526 => ((spec_l10Strain.f k t526).bind fun bt529 => (if (Net.susTo ls j).b < 0 then (spec_SuspectLeg.l0 k ls (Net.usedL ls) (rd (Net.usedL ls) (j : Int)) bt529.1 bt529.2 ((j + 1 : Nat) : Int)) else ((spec_l10Compare.f k bt529.1 bt529.2 n d).bind fun t532 => (if t532 < 0 then (spec_SuspectLeg.l0 k ls (Net.usedL ls) (rd (Net.usedL ls) (j : Int)) bt529.1 bt529.2 ((j + 1 : Nat) : Int)) else (spec_SuspectLeg.l0 k ls (Net.usedL ls) (Net.susTo ls j).b n d ((j + 1 : Nat) : Int)))))))) := fun k n d => by
      conv => lhs; unfold spec_SuspectLeg.l0
      rw [if_pos (by omega), if_pos (by omega), hw]
    refine Ev.step (fun k => hst k _ _) ?_
    generalize Net.susTo ls j = st at *
    generalize rd (Net.usedL ls) (j : Int) = kz at *
    obtain ⟨k, rfl⟩ := Int.eq_ofNat_of_zero_le hr.1
    have hk : k < ls.length := by omega
    have hp := ((Net.mem_plcL h'.1 (k : Int)).mp hm).2
    refine Ev.bind (Net.l8Bridge_ev h'.2 h'.1 k hk hp) ?_
    unfold Net.susS at hrec
    rw [Int.toNat_natCast] at hrec
    cases hbr : Net.bridgeB ls (k : Int)
    · rw [hbr, if_neg (by decide)] at hrec
      have hyg := Net.less_good h'.1 k
      have hyn : (Net.less ls k).length ≤ 12 := by have := Net.less_len ls k hk; have := h'.2; omega
      have hvy : Net.legsB (Net.less ls k) = true := Net.legsB_iff.mpr ⟨hyg, hyn⟩
      refine Ev.neg (by decide) (Ev.bindc (less_eq ls k hk (by have := h'.2; omega)) (Ev.bind (Net.strain_ev hvy) ?_))
      have hkz : ¬ ((k : Int) < 0) := by omega
      by_cases hb : st.b < 0
      · rw [if_pos (Or.inl hb)] at hrec
        simp only [if_neg hkz] at hrec
        exact Ev.pos hb hrec
      · refine Ev.neg hb ?_
        simp only [if_neg hb] at hrec ⊢
        refine Ev.bind (Net.cmpS_ev hyg hyn (hso.good (by omega)) (hso.len (by omega))) ?_
        rcases Net.sCmp_cases (Net.less ls k) st.y with q | q
        · rw [if_pos (Or.inr q.1)] at hrec
          simp only [if_neg hkz] at hrec
          exact Ev.pos q.2 hrec
        · rw [if_neg (fun e => e.elim hb q.1)] at hrec
          simp only [if_neg hb] at hrec
          exact Ev.neg q.2 hrec
    · rw [if_pos hbr] at hrec
      exact Ev.pos rfl hrec
theorem suspectLeg_ev (ls : Net.L) (hb : ls.length ≤ 140737488351232) : Ev (fun k => spec_SuspectLeg.f k ls) (susM ls) := by
  refine Ev.bind (Net.l4Legs_ev ls hb) ?_
  unfold susM
  by_cases hv : Net.legsB ls = true
  · rw [if_pos hv]
    have h' := Net.legsB_iff.mp hv
    exact Ev.pos hv (Ev.bind (Net.l9Legs_ev h'.2 h'.1) (sus_loop hv (Net.usedL ls).length 0 (by omega)))
  · rw [if_neg hv]
    exact Ev.neg hv (Ev.now _)
theorem FnExactSuspectLeg (l0 : List (S47)) (hb : l0.length * 40 ≤ 140737488351232) (_ : ∀ x ∈ l0, (Lit.int .i64 x.f0).wf = true ∧ (Lit.int .i64 x.f1).wf = true ∧ (Lit.int .i64 x.f2).wf = true ∧ (Lit.int .i64 x.f3).wf = true ∧ (Lit.int .i64 x.f4).wf = true) : ∃ k, laws_FnExactSuspectLeg.f k l0 = some true := by
  refine Ev.rounds ?_
  have hl : (l0.map cv).length = l0.length := by simp
  have hsz := szLegs_eq l0 (by omega)
  by_cases c : l0.length ≤ 1048576
  · rw [if_pos c] at hsz
    have hs := suspectLeg_ev (l0.map cv) (by omega)
    have hi : impl_SuspectLeg.f (l0.map cv) = some (susM (l0.map cv)) := by unfold impl_SuspectLeg.f; rw [if_pos (by omega)]
    generalize susM (l0.map cv) = B at *
    obtain ⟨b0, b1⟩ := B
    have hlegs := toLegs_ev l0 (by omega)
    refine Ev.bindc hsz (Ev.neg (by omega) ?_)
    refine Ev.bind hlegs (Ev.bind hs (Ev.bind hlegs (Ev.bindc hi (Ev.pos rfl ?_))))
    refine Ev.step (f := fun k => (laws_toLegS.f k l0).bind fun t => (laws_eqLegS.f k (l0.map cv) t).bind fun t' => if t' = true then some true else some false) (fun k => ?_) ?_
    · simp only [laws_FnExactSuspectLeg.j0, bne_self_eq_false, Bool.false_eq_true, if_false]
    · exact Ev.bind hlegs (Ev.bind (eqLegs_ev _ (by omega)) (Ev.pos rfl (Ev.now _)))
  · rw [if_neg c] at hsz
    exact Ev.bindc hsz (Ev.pos (by decide) (Ev.now _))
end Go.Proofs.YtpojnobgijoddaaDoor.Pure
