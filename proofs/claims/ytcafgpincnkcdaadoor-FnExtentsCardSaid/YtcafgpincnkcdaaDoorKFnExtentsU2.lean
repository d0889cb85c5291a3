/- The worst loop, in plain: the sizes of the misclosures, the lengths, the choice of the reference. -/
import Derived.Maps.OwnSet
import Derived.Test.YtcafgpincnkcdaaDoorKFnExtents7
import Derived.Test.YtcafgpincnkcdaaDoorKFnExtentsU1
set_option maxHeartbeats 2000000
set_option maxRecDepth 100000
set_option linter.unusedSimpArgs false
set_option linter.unusedVariables false
namespace Go.Proofs.YtcafgpincnkcdaaDoor.Net
open Go.RowKit YtcafgpincnkcdaaDoorW.PrintWords YtcafgpincnkcdaaDoorW.PrintLast YtcafgpincnkcdaaDoorW.PrintMore A
open Tree (verts legs)
open Grow (Q sweep grow)
def closeTo (ls : L) (R : Q) : Nat → List Int
  | 0 => []
  | k + 1 => if Pq R (leg ls k).f0.toNat = true ∧ Bq R k = false then closeTo ls R k ++ [(k : Int)] else closeTo ls R k
theorem closeTo_len (ls : L) (R : Q) : ∀ k, (closeTo ls R k).length ≤ k
  | 0 => by simp [closeTo]
  | k + 1 => by
    have := closeTo_len ls R k; unfold closeTo; split
    · simp; omega
    · omega
def Placed (ls : L) (R : Q) (w : World) (e : Ending) (w' : World) : Prop := ∃ g T cl, e = .returned (.pointer (some ⟨g, 0, none⟩)) ∧ St ls.length T g (Pq R) (Xq ls R) (Bq R) cl w' ∧ Kd.R (Kd.int .i64) 3 w' w.heap.size (fun k => k ≠ g ∧ k ≠ T) cl (closeTo ls R ls.length) ∧ Below w.heap.size w w'
def Left (ls : L) (R : Q) (k : Nat) (b : Bool) (q : Q) : Prop := Grow.Ok (ends ls) ls.length q ∧ (b = true → ∃ f, k = f + 1 ∧ 8 ≤ f + q.length ∧ grow (ends ls) ls.length f q = R) ∧ (b = false → q = R)
def Part (ls : L) (q : Q) (k : Nat) (b : Bool) (p : Q) : Prop := Grow.Ok (ends ls) ls.length p ∧ sweep (ends ls) (ls.length - k) k p = sweep (ends ls) ls.length 0 q ∧ q.length ≤ p.length ∧ b = decide (q.length < p.length)
theorem Part.start {ls : L} {q : Q} (h : Grow.Ok (ends ls) ls.length q) : Part ls q 0 false q := ⟨h, by simp, Nat.le_refl _, by simp⟩
theorem Part.next {ls : L} {q p : Q} {k : Nat} {b : Bool} (h : Part ls q k b p) (hk : k < ls.length) : Part ls q (k + 1) (decide (q.length < (Grow.step (ends ls) p k).length)) (Grow.step (ends ls) p k) := by
  obtain ⟨h1, h2, h3, h4⟩ := h; refine ⟨h1.step _ (by omega) (by omega), ?_, Nat.le_trans h3 (Grow.step_len _ _ _), rfl⟩; rw [← h2, show ls.length - k = (ls.length - (k + 1)) + 1 by omega]; rfl
theorem Part.skip {ls : L} {q p : Q} {k a d : Nat} {b : Bool} (h : Part ls q k b p) (hk : k < ls.length) (he : ends ls k = ((a : Int), (d : Int))) (hs : Pq p a = Pq p d) : Part ls q (k + 1) b p := by
  have h' := h.next hk
  have e : Grow.step (ends ls) p k = p := by
    unfold Grow.step; simp only [Pq, decide_eq_decide] at hs; rw [he, if_neg (fun c => c.2 (hs.mp c.1)), if_neg (fun c => c.2 (hs.mpr c.1))]
  rw [e, ← h.2.2.2] at h'; exact h'
theorem Part.fore {ls : L} {q p : Q} {k a d : Nat} {b : Bool} (h : Part ls q k b p) (hk : k < ls.length) (he : ends ls k = ((a : Int), (d : Int))) (ha : Pq p a = true) (hd : Pq p d = false) : Part ls q (k + 1) true ((k, a, d) :: p) := by
  have h' := h.next hk
  have e : Grow.step (ends ls) p k = ((k : Int), (a : Int), (d : Int)) :: p := by
    unfold Grow.step; simp only [Pq, decide_eq_true_eq, decide_eq_false_iff_not] at ha hd; rw [he, if_pos ⟨ha, hd⟩]
  have := h.2.2.1; rw [e, decide_eq_true qz145] at h'; exact h'
theorem Part.back {ls : L} {q p : Q} {k a d : Nat} {b : Bool} (h : Part ls q k b p) (hk : k < ls.length) (he : ends ls k = ((a : Int), (d : Int))) (ha : Pq p a = false) (hd : Pq p d = true) : Part ls q (k + 1) true ((k, d, a) :: p) := by
  have h' := h.next hk
  have e : Grow.step (ends ls) p k = ((k : Int), (d : Int), (a : Int)) :: p := by
    unfold Grow.step; simp only [Pq, decide_eq_true_eq, decide_eq_false_iff_not] at ha hd; rw [he, if_neg (fun c => ha c.1), if_pos ⟨hd, ha⟩]
  have := h.2.2.1; rw [e, decide_eq_true qz145] at h'; exact h'
theorem ends_range {ls : L} (hg : ∀ x ∈ ls, Good x) : ∀ i : Int, 0 ≤ i → i < ls.length → 0 ≤ (ends ls i).1 ∧ (ends ls i).1 < 8 ∧ 0 ≤ (ends ls i).2 ∧ (ends ls i).2 < 8 := by
  intro i h0 h1; obtain ⟨k, rfl⟩ := Int.eq_ofNat_of_zero_le h0
  have h := hg (leg ls (k : Int)) (by
    unfold leg rd_T49; rw [Int.toNat_natCast, List.getD_eq_getElem?_getD, List.getElem?_eq_getElem (show k < ls.length by omega)]
    exact List.getElem_mem _)
  exact ⟨h.1.1, h.1.2, h.2.1.1, h.2.1.2⟩
theorem Left.next {ls : L} (hg : ∀ x ∈ ls, Good x) {R q p : Q} {f : Nat} {b : Bool} (h : Left ls R (f + 1) true q) (hp : Part ls q ls.length b p) : Left ls R f b p := by
  obtain ⟨ok, h1, _⟩ := h; obtain ⟨f', hf, h8, hR⟩ := h1 rfl; obtain rfl : f = f' := by omega
  obtain ⟨okp, hs, hl, hb⟩ := hp; rw [Nat.sub_self] at hs; have hs : p = sweep (ends ls) ls.length 0 q := hs; have h7 := ok.len _ (ends_range hg); obtain ⟨g, rfl⟩ : ∃ g, f = g + 1 := ⟨f - 1, by omega⟩
  rw [grow, ← hs] at hR; refine ⟨okp, fun e => ?_, fun e => ?_⟩
  · rw [e] at hb
    have hb := of_decide_eq_true hb.symm; rw [if_neg (by omega)] at hR; exact ⟨g, rfl, by omega, hR⟩
  · rw [e] at hb
    have hb := of_decide_eq_false hb.symm; rw [if_pos (by omega)] at hR; have := (Grow.sweep_same (ends ls) (m := ls.length) (a := 0) (q := q) (by rw [← hs]; omega)).1; rw [hs, this, hR]
theorem leg_mem {ls : L} {k : Nat} (h : k < ls.length) : rd_T49 ls (k : Int) ∈ ls := by
  unfold rd_T49; rw [Int.toNat_natCast, List.getD_eq_getElem?_getD, List.getElem?_eq_getElem h]; exact List.getElem_mem h
theorem place (A : Option Addr) (c : Nat) (ls : L) (w : World) (hL : Sine.Laid w) (hr0 : Kd.C k49 w A ls.length ls) (hc0 : ls.length ≤ c) (hn : ls.length ≤ 12) (hg : ∀ x ∈ ls, Good x) (R : Q) (hR : grow (ends ls) ls.length 8 [] = R) :
    Calls Tryd.prog 63 #[.slice A ls.length c] w (Placed ls R w) := by
  have HL := ak hL; have HR := ak hr0; have HG := ak hg; have HB := ak (Below.refl w.heap.size w); have hmk := makeBools ls.length hn w; have HS := ak (St.start ls w); have HQ := ak (show Left ls R 9 true [] from ⟨Grow.Ok.nil _ _, fun _ => ⟨8, rfl, by simp, hR⟩, fun h => by cases h⟩); clear hL hr0 hg hR; go_enter Tryd.func63, Tryd.ntmps63; go_wp2; clear hmk
  go_loopg [4] 9 (fun kq v4 w' => ∃ (b : Bool) (q : Q), v4 = .bool b ∧ Aside0 (Left ls R kq b q) ∧ Aside0 (St ls.length w.heap.size (w.heap.size + 1) (Pq q) (Xq ls q) (Bq q) (.slice none 0 0) w') ∧ Aside0 (Below w.heap.size w w'))
  case atStart => exact ⟨true, [], rfl, HQ, HS, ⟨qz84⟩⟩
  case round =>
    obtain ⟨b, q, rfl, HA, HS1, HB1⟩ := hrel; clear HS HQ HB
    cases b with
    | false =>
      go_wp2; have hq := HA.out.2.2 rfl; subst hq
      go_loopw [101] (fun v101 w' => ∃ (k : Nat) (cl : Value), k ≤ ls.length ∧ v101 = .int .i64 k ∧ Aside0 (St ls.length w.heap.size (w.heap.size + 1) (Pq q) (Xq ls q) (Bq q) cl w') ∧ Aside0 (Kd.R (Kd.int .i64) 3 w' w.heap.size (fun k => k ≠ w.heap.size + 1 ∧ k ≠ w.heap.size) cl (closeTo ls q k)) ∧ Aside0 (Below w.heap.size w w')) (fun v101 _ => ls.length - (intOf v101).toNat)
      case atStart => exact ⟨0, .slice none 0 0, Nat.zero_le _, rfl, HS1, ⟨Kd.R_nil _ _ _ _ _⟩, HB1⟩
      case round =>
        obtain ⟨k, cl, hk, rfl, HS, HO, HB⟩ := hrel; clear HS1 HB1; by_cases hlt : k < ls.length
        · obtain ⟨_, e2, h0, h1, h2, h3, h4⟩ := at_T49 HR.out (k : Int) (by omega) (by omega)
          cases e2; have HX : Aside0 (Good (leg ls (k : Int))) := ⟨HG.out _ (leg_mem hlt)⟩; have ek : rd_T49 ls (k : Int) = leg ls k := rfl; rw [Int.toNat_natCast] at h0 h1 h2 h3 h4; rw [ek] at h0 h1 h2 h3 h4; have HC := ak (show closeTo ls q (k + 1) = if Pq q (leg ls k).f0.toNat = true ∧ Bq q k = false then closeTo ls q k ++ [(k : Int)] else closeTo ls q k from rfl); generalize leg ls (k : Int) = x at *; obtain ⟨a, ha⟩ := Int.eq_ofNat_of_zero_le HX.out.1.1; have ha8 : (a : Int) < 8 := by have := HX.out.1.2; omega
          rw [ha] at h0; rw [ha, Int.toNat_natCast] at HC; replace h0 := Sine.keepc h0 HB.out; replace h1 := Sine.keepc h1 HB.out; replace h2 := Sine.keepc h2 HB.out; replace h3 := Sine.keepc h3 HB.out; replace h4 := Sine.keepc h4 HB.out; go_wp2; have B1 := below_alloc (Below.refl wr.heap.size wr) (Obj.cells #[Value.int IntKind.i64 ↑a, Value.int IntKind.i64 x.f1, Value.int IntKind.i64 x.f2, Value.int IntKind.i64 x.f3, Value.int IntKind.i64 x.f4] 49); replace HB := ak (below_step HB.out B1); replace HS := ak (HS.out.keep B1); replace HO := ak (Kd.R_alloc HO.out (Obj.cells #[Value.int IntKind.i64 ↑a, Value.int IntKind.i64 x.f1, Value.int IntKind.i64 x.f2, Value.int IntKind.i64 x.f3, Value.int IntKind.i64 x.f4] 49)); clear B1 h0 h1 h2 h3 h4; have h0 : (wr.alloc (Obj.cells #[Value.int IntKind.i64 ↑a, Value.int IntKind.i64 x.f1, Value.int IntKind.i64 x.f2, Value.int IntKind.i64 x.f3, Value.int IntKind.i64 x.f4] 49)).cell? ⟨wr.heap.size, 0, none⟩ = some (.int .i64 (a : Int)) := by go_simp
          generalize wr.alloc (Obj.cells #[Value.int IntKind.i64 ↑a, Value.int IntKind.i64 x.f1, Value.int IntKind.i64 x.f2, Value.int IntKind.i64 x.f3, Value.int IntKind.i64 x.f4] 49) = W1 at *; generalize wr.heap.size = X at *; have pa := HS.out.pb a (by omega); have tc := HS.out.tc; have cc := HS.out.cc; have zc := HS.out.fg 33; have tk := HS.out.tb k hlt; have k0 : (0 : Int) ≤ (k : Int) := by omega
          have k1 : (k : Int) < (ls.length : Int) := by omega
          by_cases hpa : Pq q a = true
          · rw [hpa] at pa
            by_cases hbk : Bq q k = true
            · rw [hbk] at tk
              go_quiet (fail)
              go_wp2; exact ⟨⟨k + 1, cl, by omega, by go_num, ⟨HS.out.keep (pw_below_drewN (Below.refl _ _) _)⟩, ⟨(by rw [HC.out, if_neg (by simp [hbk])]; exact Kd.R_drewN HO.out _)⟩, ⟨pw_below_drewN HB.out _⟩⟩, qz126⟩
            · have hbk' : Bq q k = false := by simpa using hbk
              rw [hbk'] at tk; have hTs : w.heap.size + 1 < W1.heap.size := World.block_lt_of_cell? _ _ tc; have hcl := closeTo_len ls q k; have HN1 : Aside0 (∀ b, cl.ownBlock = some b → b ≠ w.heap.size + 1 ∧ b ≠ w.heap.size) := ⟨HO.out.1⟩; obtain ⟨cA, cC, ecl⟩ := Kd.R_slice HO.out; subst ecl
              go_quiet (fail)
              go_wp2_with ((with_reducible refine gate_builtin (b := .append) (xs := #[.tmp 127, .tmp 129]) rfl ?_); at_builtin; refine Kd.R_append (Kd.int .i64) (w0 := w) w.heap.size rfl (.tmp 127) (.tmp 129) 26 3 (.int .i64 0) 8 rfl Tryd.underlying26 info3 rfl (by decide) (by omega) (.slice cA (closeTo ls q k).length cC) (closeTo ls q k) (k : Int) [.int .i64 (k : Int)] (fun b => b ≠ w.heap.size + 1 ∧ b ≠ w.heap.size) (fun _ => False) rfl rfl ?aP (fun _ hk => hk.elim) ?aF ?aO ?aB ?aS ?aL ?_
                           (case aP => exact rfl); (case aF => exact (by intro b hb; simp only [World.heap_drewN] at hb; omega)); (case aO => exact Kd.R_drewN HO.out _); (case aB => exact pw_below_drewN HB.out _); (case aS => exact (by simp only [World.heap_drewN]; omega)); (case aL => omega); intro v1 w1 ho hb hg hat; obtain ⟨A1, c1, ev1⟩ := Kd.R_slice ho; subst ev1; rw [show (closeTo ls q k ++ [(k : Int)]).length = (closeTo ls q k).length + 1 from by simp] at ho hat; have HS5 := ak ((HS.out.keep (W := W1.drewN nq) (pw_below_drewN (Below.refl _ _) _)).blocks (W := w1) (hg.block _ (by simp only [World.heap_drewN]; omega) (fun e => (HN1.out _ e.symm).1 rfl)) (hg.block _ (by simp only [World.heap_drewN]; omega) (fun e => (HN1.out _ e.symm).2 rfl)) hg.size); have HB5 := ak hb; have HO5 := ak ho; clear ho hb hg hat HO; have cc5 := HS5.out.cc
                           have zc5 := HS5.out.fg 33)
              exact ⟨⟨k + 1, _, by omega, by go_num, ⟨HS5.out.setC _⟩, ⟨(by rw [HC.out, if_pos ⟨hpa, hbk'⟩]; exact Kd.R_far HO5.out (p := ⟨w.heap.size + 1, 33, none⟩) (fun b hb => hb.1) _)⟩, ⟨below_set HB5.out (by omega)⟩⟩, qz126⟩
          · have hpa' : Pq q a = false := by simpa using hpa
            rw [hpa'] at pa
            go_quiet (fail)
            go_wp2; exact ⟨⟨k + 1, cl, by omega, by go_num, ⟨HS.out.keep (pw_below_drewN (Below.refl _ _) _)⟩, ⟨(by rw [HC.out, if_neg (by simp [hpa'])]; exact Kd.R_drewN HO.out _)⟩, ⟨pw_below_drewN HB.out _⟩⟩, qz126⟩
        · obtain rfl : k = ls.length := by omega
          go_wp2; go_ret; exact ⟨_, _, cl, rfl, HS.out, HO.out, HB.out⟩
    | true =>
      go_wp2
      go_loopw [4, 21] (fun v4 v21 w' => ∃ (k : Nat) (b : Bool) (p : Q), k ≤ ls.length ∧ v4 = .bool b ∧ v21 = .int .i64 k ∧ Aside0 (Part ls q k b p) ∧ Aside0 (St ls.length w.heap.size (w.heap.size + 1) (Pq p) (Xq ls p) (Bq p) (.slice none 0 0) w') ∧ Aside0 (Below w.heap.size w w')) (fun _ v21 _ => ls.length - (intOf v21).toNat)
      case atStart => exact ⟨0, false, q, Nat.zero_le _, rfl, rfl, ⟨Part.start HA.out.1⟩, HS1, HB1⟩
      case round =>
        obtain ⟨k, b, p, hk, rfl, rfl, HP, HS, HB⟩ := hrel; clear HS1 HB1; by_cases hlt : k < ls.length
        · obtain ⟨_, e2, h0, h1, h2, h3, h4⟩ := at_T49 HR.out (k : Int) (by omega) (by omega)
          cases e2; have HX : Aside0 (Good (leg ls (k : Int))) := ⟨HG.out _ (leg_mem hlt)⟩; have ek : rd_T49 ls (k : Int) = leg ls k := rfl; have HE := ak (show ends ls k = ((leg ls k).f0, (leg ls k).f1) from rfl); rw [Int.toNat_natCast] at h0 h1 h2 h3 h4; rw [ek] at h0 h1 h2 h3 h4; generalize hxe : leg ls (k : Int) = x at *; have HXE := ak hxe; clear hxe ek; obtain ⟨a, ha⟩ := Int.eq_ofNat_of_zero_le HX.out.1.1; obtain ⟨d, hd⟩ := Int.eq_ofNat_of_zero_le HX.out.2.1.1; have ha8 : (a : Int) < 8 := by have := HX.out.1.2; omega
          have hd8 : (d : Int) < 8 := by have := HX.out.2.1.2; omega
          have had := HX.out.2.2.1; rw [ha, hd] at had; have LS := fun W (hl : Sine.Laid W) => legShift x W hl HX.out
          rw [ha, hd] at LS; have HLS := ak LS; clear LS; rw [ha] at h0 HE; rw [hd] at h1 HE; replace h0 := Sine.keepc h0 HB.out; replace h1 := Sine.keepc h1 HB.out; replace h2 := Sine.keepc h2 HB.out; replace h3 := Sine.keepc h3 HB.out; replace h4 := Sine.keepc h4 HB.out; go_wp2; have B1 := below_alloc (Below.refl wr.heap.size wr) (Obj.cells #[Value.int IntKind.i64 ↑a, Value.int IntKind.i64 ↑d, Value.int IntKind.i64 x.f2, Value.int IntKind.i64 x.f3, Value.int IntKind.i64 x.f4] 49); replace HB := ak (below_step HB.out B1); have HSo := HS; replace HS := ak (HS.out.keep B1); clear B1 h0 h1 h2 h3 h4; have h0 : (wr.alloc (Obj.cells #[Value.int IntKind.i64 ↑a, Value.int IntKind.i64 ↑d, Value.int IntKind.i64 x.f2, Value.int IntKind.i64 x.f3, Value.int IntKind.i64 x.f4] 49)).cell? ⟨wr.heap.size, 0, none⟩ = some (.int .i64 (a : Int)) := by go_simp
          have h1 : (wr.alloc (Obj.cells #[Value.int IntKind.i64 ↑a, Value.int IntKind.i64 ↑d, Value.int IntKind.i64 x.f2, Value.int IntKind.i64 x.f3, Value.int IntKind.i64 x.f4] 49)).cell? ⟨wr.heap.size, 1, none⟩ = some (.int .i64 (d : Int)) := by go_simp
          have h2 : (wr.alloc (Obj.cells #[Value.int IntKind.i64 ↑a, Value.int IntKind.i64 ↑d, Value.int IntKind.i64 x.f2, Value.int IntKind.i64 x.f3, Value.int IntKind.i64 x.f4] 49)).cell? ⟨wr.heap.size, 2, none⟩ = some (.int .i64 x.f2) := by go_simp
          have h3 : (wr.alloc (Obj.cells #[Value.int IntKind.i64 ↑a, Value.int IntKind.i64 ↑d, Value.int IntKind.i64 x.f2, Value.int IntKind.i64 x.f3, Value.int IntKind.i64 x.f4] 49)).cell? ⟨wr.heap.size, 3, none⟩ = some (.int .i64 x.f3) := by go_simp
          have h4 : (wr.alloc (Obj.cells #[Value.int IntKind.i64 ↑a, Value.int IntKind.i64 ↑d, Value.int IntKind.i64 x.f2, Value.int IntKind.i64 x.f3, Value.int IntKind.i64 x.f4] 49)).cell? ⟨wr.heap.size, 4, none⟩ = some (.int .i64 x.f4) := by go_simp
          generalize wr.alloc (Obj.cells #[Value.int IntKind.i64 ↑a, Value.int IntKind.i64 ↑d, Value.int IntKind.i64 x.f2, Value.int IntKind.i64 x.f3, Value.int IntKind.i64 x.f4] 49) = W1 at *; have hgX : w.heap.size + 1 ≠ wr.heap.size := fun e => by have := World.block_lt_of_cell? _ _ HSo.out.tc; simp only at this; omega
          clear HSo; generalize wr.heap.size = X at *; have pa := HS.out.pb a (by omega); have pd := HS.out.pb d (by omega); by_cases hpa : Pq p a = true
          · rw [hpa] at pa
            by_cases hpd : Pq p d = true
            · rw [hpd] at pd
              go_quiet (fail)
              go_wp2; exact ⟨⟨k + 1, b, p, by omega, rfl, by go_num, ⟨HP.out.skip hlt HE.out (hpa.trans hpd.symm)⟩, ⟨HS.out.keep (pw_below_drewN (Below.refl _ _) _)⟩, ⟨pw_below_drewN HB.out _⟩⟩, qz126⟩
            · have hpd' : Pq p d = false := by simpa using hpd
              rw [hpd'] at pd; have x0 := HS.out.px a (by omega); have x1 := HS.out.py a (by omega); have x2 := HS.out.pz a (by omega); have y0 := HS.out.px d (by omega); have y1 := HS.out.py d (by omega); have y2 := HS.out.pz d (by omega)
              go_quiet (fail)
              go_wp2
              go_quiet (fail)
              go_wp2_with fail
              go_region_held3 (fun w' => w'.cell? ⟨X, 0, none⟩ = some (.int .i64 (a : Int)) ∧ w'.cell? ⟨X, 1, none⟩ = some (.int .i64 (d : Int)) ∧ w'.cell? ⟨X, 2, none⟩ = some (.int .i64 x.f2) ∧ w'.cell? ⟨X, 3, none⟩ = some (.int .i64 x.f3) ∧ w'.cell? ⟨X, 4, none⟩ = some (.int .i64 x.f4)
                  ∧ w'.cell? ⟨w.heap.size + 1, 8 + a * 3, none⟩ = some (.int .i64 (Xq ls p a).f0) ∧ w'.cell? ⟨w.heap.size + 1, 8 + a * 3 + 1, none⟩ = some (.int .i64 (Xq ls p a).f1) ∧ w'.cell? ⟨w.heap.size + 1, 8 + a * 3 + 2, none⟩ = some (.int .i64 (Xq ls p a).f2))
                ((repeat' refine And.intro ?_ ?_) <;> first
                  | ((with_reducible refine far (far (far ?_ ?_) ?_) ?_) <;> first | exact blkne hgX | exact offne (by omega) | exact Sine.keepc (w := W1) qz151 qz32)
                  | exact Sine.keepc (w := W1) qz151 qz32)
                (first
                  | (go_at_call 103; (with_reducible refine (HLS.out _ ?s1).mono ?_); (case s1 => exact HL.out.keep qz32); rintro e w' ⟨rfl, hw1⟩)
                  | (go_at_call 102; (with_reducible refine (shiftPlus (Xq ls p a) (shift x) 1 _).mono ?_); rintro e w' ⟨rfl, hw2⟩
                     have HS2 := ak (HS.out.keep (W := w') qz32); have HB2 : Aside0 (Below w.heap.size w w') := ⟨qz32⟩; have y0 := HS2.out.px d (by omega); have y1 := HS2.out.py d (by omega); have y2 := HS2.out.pz d (by omega); have z0 := HS2.out.fg (8 + d * 3); have z1 := HS2.out.fg (8 + d * 3 + 1)
                     have z2 := HS2.out.fg (8 + d * 3 + 2)))
              have h1' := far (far (far (Sine.keepc (w := W1) h1 (show Below W1.heap.size W1 w' from by (repeat (first | exact Below.refl _ _ | apply pw_below_drewN | apply below_drew1 | exact HB.out | refine below_step ?_ qz151)); done)) (v := .int .i64 (plus (Xq ls p a) (shift x) 1).f0) (blkne (i := 8 + d * 3) hgX)) (v := .int .i64 (plus (Xq ls p a) (shift x) 1).f1) (blkne (i := 8 + d * 3 + 1) hgX)) (v := .int .i64 (plus (Xq ls p a) (shift x) 1).f2) (blkne (i := 8 + d * 3 + 2) hgX); have HS3 := ak (HS2.out.setX (s := d) (by omega) (plus (Xq ls p a) (shift x) 1)); have HB3 := ak (below_set (below_set (below_set HB2.out (j := 8 + d * 3) (v := .int .i64 (plus (Xq ls p a) (shift x) 1).f0) (g := w.heap.size + 1) (by omega)) (j := 8 + d * 3 + 1) (v := .int .i64 (plus (Xq ls p a) (shift x) 1).f1) (g := w.heap.size + 1) (by omega)) (j := 8 + d * 3 + 2) (v := .int .i64 (plus (Xq ls p a) (shift x) 1).f2) (g := w.heap.size + 1) (by omega)); clear HS2 HB2 y0 y1 y2 z0 z1 z2 x0 x1 x2 h0 h1 h2 h3 h4 pa pd; generalize ((w'.setCell { block := w.heap.size + 1, off := 8 + d * 3 } (Value.int IntKind.i64 (plus (Xq ls p a) (shift x) 1).f0)).setCell { block := w.heap.size + 1, off := 8 + d * 3 + 1 } (Value.int IntKind.i64 (plus (Xq ls p a) (shift x) 1).f1)).setCell { block := w.heap.size + 1, off := 8 + d * 3 + 2 } (Value.int IntKind.i64 (plus (Xq ls p a) (shift x) 1).f2) = W3 at *; have pd := HS3.out.pb d (by omega); have zd := HS3.out.fg d; go_wp2_with fail
              go_region_held3 (fun w' => w'.cell? ⟨X, 1, none⟩ = some (.int .i64 (d : Int)))
                (first
                  | ((with_reducible refine cdrew (far ?_ ?_)) <;> first | exact blkne hgX | exact h1')
                  | exact Sine.keepc (w := W3) h1' qz32)
                (first | fail)
              have HS4 := ak (HS3.out.setP (s := d) (by omega)).drew; have HB4 := ak (below_drew1 (below_set HB3.out (j := d) (v := .bool true) (g := w.heap.size + 1) (by omega))); clear HS3 HB3 pd zd h1'; generalize (W3.setCell { block := w.heap.size + 1, off := d } (Value.bool true)).drew = W4 at *; have tc := HS4.out.tc; have tk := HS4.out.tb k hlt; have zk := HS4.out.ft k; have k0 : (0 : Int) ≤ (k : Int) := by omega
              have k1 : (k : Int) < (ls.length : Int) := by omega
              go_wp2; exact ⟨⟨k + 1, true, ((k : Int), (a : Int), (d : Int)) :: p, by omega, rfl, by go_num, ⟨HP.out.fore hlt HE.out hpa hpd'⟩, ⟨(HS4.out.setB hlt).congr (fun s _ => Pq_cons k a d s p) (fun s _ => Xq_fore HE.out HXE.out s) (fun i _ => Bq_cons k a d i p)⟩, ⟨below_set HB4.out (by omega)⟩⟩, qz126⟩
          · have hpa' : Pq p a = false := by simpa using hpa
            rw [hpa'] at pa; by_cases hpd : Pq p d = true
            · rw [hpd] at pd
              have x0 := HS.out.px d (by omega); have x1 := HS.out.py d (by omega); have x2 := HS.out.pz d (by omega); have y0 := HS.out.px a (by omega); have y1 := HS.out.py a (by omega); have y2 := HS.out.pz a (by omega)
              go_quiet (fail)
              go_wp2
              go_quiet (fail)
              go_wp2_with fail
              go_region_held3 (fun w' => w'.cell? ⟨X, 0, none⟩ = some (.int .i64 (a : Int)) ∧ w'.cell? ⟨X, 1, none⟩ = some (.int .i64 (d : Int)) ∧ w'.cell? ⟨X, 2, none⟩ = some (.int .i64 x.f2) ∧ w'.cell? ⟨X, 3, none⟩ = some (.int .i64 x.f3) ∧ w'.cell? ⟨X, 4, none⟩ = some (.int .i64 x.f4)
                  ∧ w'.cell? ⟨w.heap.size + 1, 8 + d * 3, none⟩ = some (.int .i64 (Xq ls p d).f0) ∧ w'.cell? ⟨w.heap.size + 1, 8 + d * 3 + 1, none⟩ = some (.int .i64 (Xq ls p d).f1) ∧ w'.cell? ⟨w.heap.size + 1, 8 + d * 3 + 2, none⟩ = some (.int .i64 (Xq ls p d).f2))
                ((repeat' refine And.intro ?_ ?_) <;> first
                  | ((with_reducible refine far (far (far ?_ ?_) ?_) ?_) <;> first | exact blkne hgX | exact offne (by omega) | exact Sine.keepc (w := W1) qz151 qz32)
                  | exact Sine.keepc (w := W1) qz151 qz32)
                (first
                  | (go_at_call 103; (with_reducible refine (HLS.out _ ?s1).mono ?_); (case s1 => exact HL.out.keep qz32); rintro e w' ⟨rfl, hw1⟩)
                  | (go_at_call 102; (with_reducible refine (shiftPlus (Xq ls p d) (shift x) (-1) _).mono ?_); rintro e w' ⟨rfl, hw2⟩
                     have HS2 := ak (HS.out.keep (W := w') qz32); have HB2 : Aside0 (Below w.heap.size w w') := ⟨qz32⟩; have y0 := HS2.out.px a (by omega); have y1 := HS2.out.py a (by omega); have y2 := HS2.out.pz a (by omega); have z0 := HS2.out.fg (8 + a * 3); have z1 := HS2.out.fg (8 + a * 3 + 1)
                     have z2 := HS2.out.fg (8 + a * 3 + 2)))
              have h0' := far (far (far (Sine.keepc (w := W1) h0 (show Below W1.heap.size W1 w' from by (repeat (first | exact Below.refl _ _ | apply pw_below_drewN | apply below_drew1 | exact HB.out | refine below_step ?_ qz151)); done)) (v := .int .i64 (plus (Xq ls p d) (shift x) (-1)).f0) (blkne (i := 8 + a * 3) hgX)) (v := .int .i64 (plus (Xq ls p d) (shift x) (-1)).f1) (blkne (i := 8 + a * 3 + 1) hgX)) (v := .int .i64 (plus (Xq ls p d) (shift x) (-1)).f2) (blkne (i := 8 + a * 3 + 2) hgX); have HS3 := ak (HS2.out.setX (s := a) (by omega) (plus (Xq ls p d) (shift x) (-1))); have HB3 := ak (below_set (below_set (below_set HB2.out (j := 8 + a * 3) (v := .int .i64 (plus (Xq ls p d) (shift x) (-1)).f0) (g := w.heap.size + 1) (by omega)) (j := 8 + a * 3 + 1) (v := .int .i64 (plus (Xq ls p d) (shift x) (-1)).f1) (g := w.heap.size + 1) (by omega)) (j := 8 + a * 3 + 2) (v := .int .i64 (plus (Xq ls p d) (shift x) (-1)).f2) (g := w.heap.size + 1) (by omega)); clear HS2 HB2 y0 y1 y2 z0 z1 z2 x0 x1 x2 h0 h1 h2 h3 h4 pd pa; generalize ((w'.setCell { block := w.heap.size + 1, off := 8 + a * 3 } (Value.int IntKind.i64 (plus (Xq ls p d) (shift x) (-1)).f0)).setCell { block := w.heap.size + 1, off := 8 + a * 3 + 1 } (Value.int IntKind.i64 (plus (Xq ls p d) (shift x) (-1)).f1)).setCell { block := w.heap.size + 1, off := 8 + a * 3 + 2 } (Value.int IntKind.i64 (plus (Xq ls p d) (shift x) (-1)).f2) = W3 at *; have pa := HS3.out.pb a (by omega); have zd := HS3.out.fg a; go_wp2_with fail
              go_region_held3 (fun w' => w'.cell? ⟨X, 0, none⟩ = some (.int .i64 (a : Int)))
                (first
                  | ((with_reducible refine cdrew (far ?_ ?_)) <;> first | exact blkne hgX | exact h0')
                  | exact Sine.keepc (w := W3) h0' qz32)
                (first | fail)
              have HS4 := ak (HS3.out.setP (s := a) (by omega)).drew; have HB4 := ak (below_drew1 (below_set HB3.out (j := a) (v := .bool true) (g := w.heap.size + 1) (by omega))); clear HS3 HB3 pa zd h0'; generalize (W3.setCell { block := w.heap.size + 1, off := a } (Value.bool true)).drew = W4 at *; have tc := HS4.out.tc; have tk := HS4.out.tb k hlt; have zk := HS4.out.ft k; have k0 : (0 : Int) ≤ (k : Int) := by omega
              have k1 : (k : Int) < (ls.length : Int) := by omega
              go_wp2; exact ⟨⟨k + 1, true, ((k : Int), (d : Int), (a : Int)) :: p, by omega, rfl, by go_num, ⟨HP.out.back hlt HE.out hpa' hpd⟩, ⟨(HS4.out.setB hlt).congr (fun s _ => Pq_cons k d a s p) (fun s _ => Xq_back HE.out had HXE.out s) (fun i _ => Bq_cons k d a i p)⟩, ⟨below_set HB4.out (by omega)⟩⟩, qz126⟩
            · have hpd' : Pq p d = false := by simpa using hpd
              rw [hpd'] at pd
              go_quiet (fail)
              go_wp2; exact ⟨⟨k + 1, b, p, by omega, rfl, by go_num, ⟨HP.out.skip hlt HE.out (hpa'.trans hpd'.symm)⟩, ⟨HS.out.keep (pw_below_drewN (Below.refl _ _) _)⟩, ⟨pw_below_drewN HB.out _⟩⟩, qz126⟩
        · obtain rfl : k = ls.length := by omega
          go_wp2; obtain ⟨f, hf, _⟩ := HA.out.2.1 rfl; subst hf; have HN := ak (HA.out.next HG.out HP.out); go_roundg f; (case measure => omega); (case rel => exact ⟨b, p, rfl, HN, HS, HB⟩)
end Go.Proofs.YtcafgpincnkcdaaDoor.Net
namespace Go.Proofs.YtcafgpincnkcdaaDoor.Net
open Go.RowKit YtcafgpincnkcdaaDoorW.PrintWords YtcafgpincnkcdaaDoorW.PrintLast YtcafgpincnkcdaaDoorW.PrintMore A Plain
open Tree (verts legs)
open Grow (Q sweep grow)
theorem Ev.step_ge {α : Type} {g f : Nat → Option α} {r : α} (N : Nat) (h : ∀ k, N ≤ k → g (k + 1) = f k) (k : Ev f r) : Ev g r := by
  obtain ⟨K, hK⟩ := k; refine ⟨max N K + 1, fun m hm => ?_⟩; obtain ⟨m, rfl⟩ : ∃ x, m = x + 1 := ⟨m - 1, by omega⟩
  rw [h m (by omega)]; exact hK m (by omega)
theorem has_loop (l : List Int) (n : Int) (hl : l.length ≤ 1000000) : ∀ (d i k : Nat), i + d = l.length → d < k → spec_l1Has.l0 k l n (i : Int) = some (decide (n ∈ l.drop i)) := by
  intro d
  induction d with
  | zero =>
    intro i k hi hk; obtain ⟨k, rfl⟩ : ∃ m, k = m + 1 := ⟨k - 1, by omega⟩
    simp only [spec_l1Has.l0]; rw [if_neg (by omega), List.drop_eq_nil_of_le (by omega)]; simp
  | succ d ih =>
    intro i k hi hk; obtain ⟨k, rfl⟩ : ∃ m, k = m + 1 := ⟨k - 1, by omega⟩
    have hlt : i < l.length := by omega
    have er : rd l (i : Int) = l[i] := by
      unfold rd; rw [Int.toNat_natCast, List.getD_eq_getElem?_getD, List.getElem?_eq_getElem hlt]; rfl
    have e : wrap64 ((i : Int) + 1) = ((i + 1 : Nat) : Int) := by rw [w64 (by omega) (by omega)]; omega
    rw [List.drop_eq_getElem_cons hlt]; simp only [spec_l1Has.l0]; by_cases hc : l[i] = n
    · rw [if_pos (by omega), if_pos (by omega), er, if_pos hc, hc]
      simp
    · have hd : decide (n ∈ l[i] :: l.drop (i + 1)) = decide (n ∈ l.drop (i + 1)) := by rw [decide_eq_decide, List.mem_cons]; exact ⟨fun h => h.resolve_left (fun e => hc e.symm), Or.inr⟩
      rw [if_pos (by omega), if_pos (by omega), er, if_neg hc, e, hd]; exact ih (i + 1) k (by omega) (by omega)
theorem has_at (l : List Int) (n : Int) (hl : l.length ≤ 1000000) (k : Nat) (hk : l.length < k) : spec_l1Has.f k l n = some (decide (n ∈ l)) := has_loop l n hl l.length 0 k (by omega) hk
theorem has_ev (l : List Int) (n : Int) (hl : l.length ≤ 1000000) : Ev (fun k => spec_l1Has.f k l n) (decide (n ∈ l)) := ⟨l.length + 1, fun k hk => has_at l n hl k hk⟩
theorem put_split (n : Int) : ∀ (p s : List Int), (∀ x ∈ p, x < n) → (∀ y ∈ s.head?, n < y) → Sort.put (p ++ s) n = p ++ n :: s
  | [], [], _, _ => rfl
  | [], y :: s, _, h => by
    have := h y rfl; simp only [List.nil_append, Sort.put]; rw [if_neg (by omega), if_neg (by omega)]
  | x :: p, s, h, hs => by
    have := h x List.mem_cons_self; simp only [List.cons_append, Sort.put]; rw [if_pos this, put_split n p s (fun x hx => h x (List.mem_cons_of_mem _ hx)) hs]
theorem put_loop (l : List Int) (n : Int) (hl : l.length ≤ 1000000) (ha : Sort.Asc l) (hn : n ∉ l) : ∀ (d i k : Nat), i + d = l.length → d < k → (∀ x ∈ l.take i, x < n) → spec_l1Put.l0 k l n (i : Int) = some (Sort.put l n) := by
  intro d
  induction d with
  | zero =>
    intro i k hi hk h; obtain ⟨k, rfl⟩ : ∃ m, k = m + 1 := ⟨k - 1, by omega⟩
    have e1 : Sort.put l n = l.take i ++ n :: l.drop i := by
      have := put_split n (l.take i) (l.drop i) h (by rw [List.drop_eq_nil_of_le (by omega)]; simp)
      rwa [List.take_append_drop] at this
    simp only [spec_l1Put.l0]; rw [if_neg (by omega)]; simp only [Option.bind_some, Int.toNat_natCast]; rw [if_pos (by omega), if_pos (by omega), if_pos qz145, if_pos qz145, if_pos qz145, e1]; simp
  | succ d ih =>
    intro i k hi hk h; obtain ⟨k, rfl⟩ : ∃ m, k = m + 1 := ⟨k - 1, by omega⟩
    have hlt : i < l.length := by omega
    have er : rd l (i : Int) = l[i] := by
      unfold rd; rw [Int.toNat_natCast, List.getD_eq_getElem?_getD, List.getElem?_eq_getElem hlt]; rfl
    have e : wrap64 ((i : Int) + 1) = ((i + 1 : Nat) : Int) := by rw [w64 (by omega) (by omega)]; omega
    have hne : l[i] ≠ n := fun e => hn (e ▸ List.getElem_mem hlt)
    by_cases hc : l[i] < n
    · simp only [spec_l1Put.l0]
      rw [if_pos (by omega), if_pos (by omega), er, if_pos hc, e]; refine ih (i + 1) k (by omega) (by omega) (fun x hx => ?_)
      · rw [List.take_succ_eq_append_getElem hlt, List.mem_append, List.mem_singleton] at hx
        rcases hx with hx | rfl
        · exact h x hx
        · exact hc
    · have e1 : Sort.put l n = l.take i ++ n :: l.drop i := by
        have := put_split n (l.take i) (l.drop i) h (by
          rw [List.drop_eq_getElem_cons hlt]; intro y hy; simp only [List.head?_cons, Option.mem_def, Option.some.injEq] at hy
          omega)
        rwa [List.take_append_drop] at this
      simp only [spec_l1Put.l0]; rw [if_pos (by omega), if_pos (by omega), er, if_neg hc, if_neg hne]; simp only [Option.bind_some, Int.toNat_natCast]; rw [if_pos (by omega), if_pos qz145, if_pos qz145, if_pos qz145, e1]; simp
theorem put_at (l : List Int) (n : Int) (hl : l.length ≤ 1000000) (ha : Sort.Asc l) (hn : n ∉ l) (k : Nat) (hk : l.length < k) : spec_l1Put.f k l n = some (Sort.put l n) := put_loop l n hl ha hn l.length 0 k (by omega) hk (by simp)
theorem div_eq (a : Int) (h0 : -1000000000 ≤ a) (h1 : a ≤ 1000000000) : spec_l2Div.f a 1000 = some (rnd a) := by
  unfold spec_l2Div.f rnd; have e2 : wrap64 (2 * 1000) = 2000 := by unfold wrap64; omega
  by_cases h : a < 0
  · have e1 : wrap64 ((-2) * a) = 2 * (-a) := by unfold wrap64; omega
    have e3 : wrap64 (2 * (-a) + 1000) = 2 * (-a) + 1000 := by unfold wrap64; omega
    have e4 : Int.tdiv (2 * (-a) + 1000) 2000 = (2 * (-a) + 1000) / 2000 := Int.tdiv_eq_ediv_of_nonneg (by omega); have e5 : wrap64 ((2 * (-a) + 1000) / 2000) = (2 * (-a) + 1000) / 2000 := by unfold wrap64; omega
    have e6 : wrap64 (-((2 * (-a) + 1000) / 2000)) = -((2 * (-a) + 1000) / 2000) := by unfold wrap64; omega
    rw [if_pos h, e2, if_neg (by decide), e1, e3, e4, e5, e6, if_pos h]
  · have e1 : wrap64 (2 * a) = 2 * a := by unfold wrap64; omega
    have e3 : wrap64 (2 * a + 1000) = 2 * a + 1000 := by unfold wrap64; omega
    have e4 : Int.tdiv (2 * a + 1000) 2000 = (2 * a + 1000) / 2000 := Int.tdiv_eq_ediv_of_nonneg (by omega); have e5 : wrap64 ((2 * a + 1000) / 2000) = (2 * a + 1000) / 2000 := by unfold wrap64; omega
    rw [if_neg h, e2, if_neg (by decide), e1, e3, e4, e5, if_neg h]
theorem table_eq : spec_l2Table.f = some Sine.tab := rfl
theorem sine_eq (a : Int) (h0 : -1000000 ≤ a) (h1 : a ≤ 1000000) : spec_l2Sine.f a = some (Sine.f a) := by
  have hm : Int.tmod (wrap64 (Int.tmod a 360 + 360)) 360 = a % 360 := by
    have e0 : Int.tmod a 360 = a % 360 ∨ Int.tmod a 360 = a % 360 - 360 := by
      rw [Int.tmod_eq_emod]; split
      · left; omega
      · right; simp
    have e1 : wrap64 (Int.tmod a 360 + 360) = Int.tmod a 360 + 360 := by unfold wrap64; omega
    rw [e1, Int.tmod_eq_emod_of_nonneg (by omega)]; omega
  unfold spec_l2Sine.f Sine.f; simp only [hm]; have g0 : 0 ≤ a % 360 := by omega
  have g1 : a % 360 < 360 := by omega
  generalize a % 360 = d at *; have hlen : (Sine.tab.length : Int) = 91 := rfl; have w1 : wrap64 (180 - d) = 180 - d := by unfold wrap64; omega
  have w2 : wrap64 (d - 180) = d - 180 := by unfold wrap64; omega
  have w3 : wrap64 (360 - d) = 360 - d := by unfold wrap64; omega
  have hb : ∀ i : Nat, wrap64 (-(Sine.tab.getD i 0)) = -(Sine.tab.getD i 0) := fun i => by have := Sine.getD_bound i; unfold wrap64; omega
  by_cases c1 : d ≤ 90
  · rw [if_pos c1, table_eq, Option.bind_some, if_pos g0, if_pos (by omega), if_pos (by omega)]
    unfold Sine.s rd; rw [if_pos c1]
  · rw [if_neg c1]
    by_cases c2 : d ≤ 180
    · rw [if_pos c2, table_eq, Option.bind_some, w1, if_pos (by omega), if_pos (by omega), if_pos c2]
      unfold Sine.s rd; rw [if_neg c1]
    · rw [if_neg c2, if_neg c2]
      by_cases c3 : d ≤ 270
      · rw [if_pos c3, table_eq, Option.bind_some, w2, if_pos (by omega), if_pos (by omega)]
        unfold Sine.s rd; rw [if_pos (by omega), hb]
      · rw [if_neg c3, table_eq, Option.bind_some, w3, if_pos (by omega), if_pos (by omega)]
        unfold Sine.s rd; rw [if_neg (by omega), hb, show 180 - (d - 180) = 360 - d by omega]
theorem cosine_eq (a : Int) (h0 : -100000 ≤ a) (h1 : a ≤ 100000) : spec_l2Cosine.f a = some (Sine.f (a + 90)) := by
  unfold spec_l2Cosine.f; rw [w64 (by omega) (by omega), sine_eq _ (by omega) (by omega)]; rfl
theorem shift_eq (x : S49) (h : Good x) : spec_l4Shift.f x.f0 x.f1 x.f2 x.f3 x.f4 = some ((shift x).f0, (shift x).f1, (shift x).f2) := by
  obtain ⟨_, _, _, h2, h3, h4⟩ := h; have a := part_bound x.f2 x.f4 500 (by omega) (by omega); have p1 := prod_bound x.f2 (x.f4 + 90) (by omega) (by omega); have p2 := prod_bound x.f2 x.f4 (by omega) (by omega); have p3 := prod_bound (part x.f2 x.f4).1 (x.f3 + 90) (by omega) (by omega); have p4 := prod_bound (part x.f2 x.f4).1 x.f3 (by omega) (by omega); have ep : rnd (x.f2 * Sine.f (x.f4 + 90)) = (part x.f2 x.f4).1 := rfl; unfold spec_l4Shift.f
  rw [cosine_eq _ (by omega) (by omega), Option.bind_some, w64 (by omega) (by omega), div_eq _ (by omega) (by omega), Option.bind_some, ep, sine_eq _ (by omega) (by omega), Option.bind_some, w64 (by omega) (by omega), div_eq _ (by omega) (by omega), Option.bind_some,
    cosine_eq _ (by omega) (by omega), Option.bind_some, w64 (by omega) (by omega), div_eq _ (by omega) (by omega), Option.bind_some, sine_eq _ (by omega) (by omega), Option.bind_some, w64 (by omega) (by omega), div_eq _ (by omega) (by omega), Option.bind_some]
  rfl
def plL : Q → List Int
  | [] => [0]
  | (_, _, s) :: q => Sort.put (plL q) s
def trL : Q → List Int
  | [] => []
  | (i, _, _) :: q => Sort.put (trL q) i
def XL (ls : L) (q : Q) : List S31 := (List.range 8).map (Xq ls q)
theorem mem_plL (q : Q) (s : Int) : s ∈ plL q ↔ s ∈ verts 0 q := by
  induction q with
  | nil => simp [plL, verts]
  | cons x q ih =>
    obtain ⟨i, u, t⟩ := x; simp only [plL, Sort.mem_put, ih, verts, List.map_cons, List.mem_cons]
    constructor
    · rintro (h | h | h)
      · exact Or.inr (Or.inl h)
      · exact Or.inl h
      · exact Or.inr (Or.inr h)
    · rintro (h | h | h)
      · exact Or.inr (Or.inl h)
      · exact Or.inl h
      · exact Or.inr (Or.inr h)
theorem mem_trL (q : Q) (i : Int) : i ∈ trL q ↔ i ∈ legs q := by
  induction q with
  | nil => simp [trL, legs]
  | cons x q ih =>
    obtain ⟨j, u, t⟩ := x; simp only [trL, Sort.mem_put, ih, legs, List.map_cons, List.mem_cons]
theorem put_len_le (l : List Int) (n : Int) : (Sort.put l n).length ≤ l.length + 1 := by
  induction l with
  | nil => simp [Sort.put]
  | cons x l ih =>
    simp only [Sort.put]; split
    · simp; omega
    · split <;> simp
theorem asc_plL (q : Q) : Sort.Asc (plL q) := by
  induction q with
  | nil => simp [plL, Sort.Asc]
  | cons x q ih => exact Sort.asc_put ih _
theorem asc_trL (q : Q) : Sort.Asc (trL q) := by
  induction q with
  | nil => simp [trL, Sort.Asc]
  | cons x q ih => exact Sort.asc_put ih _
theorem plL_len (q : Q) : (plL q).length ≤ q.length + 1 := by
  induction q with
  | nil => simp [plL]
  | cons x q ih =>
    obtain ⟨i, u, s⟩ := x; have := put_len_le (plL q) s; simp only [plL, List.length_cons]; omega
theorem trL_len (q : Q) : (trL q).length ≤ q.length := by
  induction q with
  | nil => simp [trL]
  | cons x q ih =>
    obtain ⟨i, u, s⟩ := x; have := put_len_le (trL q) i; simp only [trL, List.length_cons]; omega
theorem XL_len (ls : L) (q : Q) : (XL ls q).length = 8 := by simp [XL]
theorem XL_at (ls : L) (q : Q) (a : Nat) (h : a < 8) : rd_T31 (XL ls q) (a : Int) = Xq ls q a := by
  unfold rd_T31 XL; rw [Int.toNat_natCast, List.getD_eq_getElem?_getD, List.getElem?_map, List.getElem?_range h]; rfl
theorem XL_set (ls : L) (q q' : Q) (d : Nat) (v : S31) (h : ∀ i, i < 8 → Xq ls q' i = if i = d then v else Xq ls q i) : (XL ls q).set d v = XL ls q' := by
  apply List.ext_getElem
  · simp [XL]
  · intro i h1 h2
    rw [List.getElem_set]; simp only [XL, List.getElem_map, List.getElem_range]; have hi : i < 8 := by simpa [XL] using h2
    rw [h i hi]; by_cases e : i = d
    · subst e; simp
    · rw [if_neg e, if_neg (fun e' => e e'.symm)]
theorem leg_good {ls : L} (hg : ∀ x ∈ ls, Good x) (i : Nat) (hi : i < ls.length) : Good (leg ls (i : Int)) := hg _ (by
  unfold leg rd_T49; rw [Int.toNat_natCast, List.getD_eq_getElem?_getD, List.getElem?_eq_getElem hi]
  exact List.getElem_mem _)
theorem one_leg (ls : L) (hn : ls.length ≤ 12) (hg : ∀ x ∈ ls, Good x) (q : Q) (ok : Grow.Ok (ends ls) ls.length q) (i : Nat) (hi : i < ls.length) (b : Bool) (hb : q.length ≤ 7) (r : List S31 × List Int × List Int)
    (h : ∀ b', b' = (b || decide (q.length < (Grow.step (ends ls) q i).length)) → Ev (fun k => spec_l6Place.l1 k ls (XL ls (Grow.step (ends ls) q i)) (plL (Grow.step (ends ls) q i)) (trL (Grow.step (ends ls) q i)) b' ((i + 1 : Nat) : Int)) r) :
    Ev (fun k => spec_l6Place.l1 k ls (XL ls q) (plL q) (trL q) b (i : Int)) r := by
  have b1 : (i : Int) < (ls.length : Int) := Int.ofNat_lt.mpr hi; have b0 : (0 : Int) ≤ (i : Int) := Int.natCast_nonneg i; have e : wrap64 ((i : Int) + 1) = ((i + 1 : Nat) : Int) := by rw [w64 (by omega) (by omega)]; omega
  have hgood := leg_good hg i hi; have hE : ends ls i = ((leg ls i).f0, (leg ls i).f1) := rfl; have hrd : rd_T49 ls (i : Int) = leg ls i := rfl; have hsh := shift_eq _ hgood; generalize hx : leg ls (i : Int) = x at hgood hE hrd hsh; obtain ⟨⟨a0, a8⟩, ⟨d0, d8⟩, had, _⟩ := hgood; obtain ⟨a, ha⟩ := Int.eq_ofNat_of_zero_le a0; obtain ⟨d, hd⟩ := Int.eq_ofNat_of_zero_le d0; rw [ha, hd] at had hE; have ka0 : (0 : Int) ≤ (a : Int) := Int.natCast_nonneg a; have kd0 : (0 : Int) ≤ (d : Int) := Int.natCast_nonneg d; rw [ha] at a8; rw [hd] at d8; have na8 : a < 8 := Int.ofNat_lt.mp a8; have nd8 : d < 8 := Int.ofNat_lt.mp d8; have hlen : ((XL ls q).length : Int) = 8 := by rw [XL_len]; rfl
  have ka1 : (a : Int) < ((XL ls q).length : Int) := by rw [hlen]; exact Int.ofNat_lt.mpr na8
  have kd1 : (d : Int) < ((XL ls q).length : Int) := by rw [hlen]; exact Int.ofNat_lt.mpr nd8
  have l1 : (plL q).length ≤ 8 := Nat.le_trans (plL_len q) (Nat.succ_le_succ hb); have l2 : (trL q).length ≤ 7 := Nat.le_trans (trL_len q) hb; have l1m : (plL q).length ≤ 1000000 := Nat.le_trans l1 (by decide); have l2m : (trL q).length ≤ 1000000 := Nat.le_trans l2 (by decide); have l1k : ∀ {k : Nat}, 20 ≤ k → (plL q).length < k := fun hk => Nat.lt_of_le_of_lt l1 (Nat.lt_of_lt_of_le (by decide : 8 < 20) hk)
  have l2k : ∀ {k : Nat}, 20 ≤ k → (trL q).length < k := fun hk => Nat.lt_of_le_of_lt l2 (Nat.lt_of_lt_of_le (by decide : 7 < 20) hk)
  have A1 := fun k (hk : 20 ≤ k) => has_at (plL q) (a : Int) l1m k (l1k hk)
  have D1 := fun k (hk : 20 ≤ k) => has_at (plL q) (d : Int) l1m k (l1k hk)
  simp only [mem_plL] at A1 D1
  have hitr : ¬ ((a : Int) ∈ verts 0 q ∧ (d : Int) ∈ verts 0 q) → (i : Int) ∉ trL q := by
    intro c h; rw [mem_trL] at h; have := ok.legs_ends _ h; rw [hE] at this; exact c ⟨this.1, this.2.1⟩
  have na : ∀ {c : Nat}, (c : Int) ∉ verts 0 q → (c : Int) ∉ plL q := fun h h' => h ((mem_plL q _).mp h')
  by_cases pa : (a : Int) ∈ verts 0 q
  · by_cases pd : (d : Int) ∈ verts 0 q
    · have hs : Grow.step (ends ls) q i = q := by
        unfold Grow.step; rw [hE, if_neg (fun c => c.2 pd), if_neg (fun c => c.2 pa)]
      rw [hs] at h; refine Ev.step_ge 20 (f := fun k => spec_l6Place.j2 k ls (XL ls q) (plL q) (trL q) b (i : Int) (a : Int) (d : Int) false) (fun k hk => ?_) ?_
      · simp only [spec_l6Place.l1]
        rw [if_pos b1, if_pos b0, hrd, ha, hd, A1 k hk, Option.bind_some, decide_eq_true pa, if_pos rfl, D1 k hk, Option.bind_some, decide_eq_true pd]; rfl
      refine Ev.step_ge 20 (f := fun k => spec_l6Place.j3 k ls (XL ls q) (plL q) (trL q) b (i : Int) (a : Int) (d : Int) false) (fun k hk => ?_) ?_
      · simp only [spec_l6Place.j2]
        rw [if_neg (by decide), D1 k hk, Option.bind_some, decide_eq_true pd, if_pos rfl, A1 k hk, Option.bind_some, decide_eq_true pa]; rfl
      refine Ev.step_ge 20 (fun k hk => ?_) (h b (by simp)); simp only [spec_l6Place.j3]; rw [if_neg (by decide), e]
    · have hs : Grow.step (ends ls) q i = ((i : Int), (a : Int), (d : Int)) :: q := by
        unfold Grow.step; rw [hE, if_pos ⟨pa, pd⟩]
      rw [hs] at h; refine Ev.step_ge 20 (f := fun k => spec_l6Place.j2 k ls (XL ls q) (plL q) (trL q) b (i : Int) (a : Int) (d : Int) true) (fun k hk => ?_) ?_
      · simp only [spec_l6Place.l1]
        rw [if_pos b1, if_pos b0, hrd, ha, hd, A1 k hk, Option.bind_some, decide_eq_true pa, if_pos rfl, D1 k hk, Option.bind_some, decide_eq_false pd]; rfl
      refine Ev.step_ge 20 (fun k hk => ?_) (h true (by simp)); simp only [spec_l6Place.j2]; rw [if_pos trivial, if_pos ka0, if_pos ka1, if_pos b0, if_pos b1, hrd, hsh, Option.bind_some]; simp only [spec_l4Plus.f, Option.bind_some]; rw [if_pos kd0, if_pos kd1, put_at _ _ l1m (asc_plL q) (na pd) k (l1k hk), Option.bind_some, put_at _ _ l2m (asc_trL q) (hitr (fun c => pd c.2)) k (l2k hk), Option.bind_some, e, XL_at _ _ _ na8, Int.toNat_natCast]; rw [← XL_set ls q (((i : Int), (a : Int), (d : Int)) :: q) d (plus (Xq ls q a) (shift x) 1) (fun s _ => Xq_fore hE hx s)]; rfl
  · by_cases pd : (d : Int) ∈ verts 0 q
    · have hs : Grow.step (ends ls) q i = ((i : Int), (d : Int), (a : Int)) :: q := by
        unfold Grow.step; rw [hE, if_neg (fun c => pa c.1), if_pos ⟨pd, pa⟩]
      rw [hs] at h; refine Ev.step_ge 20 (f := fun k => spec_l6Place.j2 k ls (XL ls q) (plL q) (trL q) b (i : Int) (a : Int) (d : Int) false) (fun k hk => ?_) ?_
      · simp only [spec_l6Place.l1]
        rw [if_pos b1, if_pos b0, hrd, ha, hd, A1 k hk, Option.bind_some, decide_eq_false pa, if_neg (by decide)]
      refine Ev.step_ge 20 (f := fun k => spec_l6Place.j3 k ls (XL ls q) (plL q) (trL q) b (i : Int) (a : Int) (d : Int) true) (fun k hk => ?_) ?_
      · simp only [spec_l6Place.j2]
        rw [if_neg (by decide), D1 k hk, Option.bind_some, decide_eq_true pd, if_pos rfl, A1 k hk, Option.bind_some, decide_eq_false pa]; rfl
      refine Ev.step_ge 20 (fun k hk => ?_) (h true (by simp)); simp only [spec_l6Place.j3]; rw [if_pos trivial, if_pos kd0, if_pos kd1, if_pos b0, if_pos b1, hrd, hsh, Option.bind_some]; simp only [spec_l4Plus.f, Option.bind_some]; rw [if_pos ka0, if_pos ka1, put_at _ _ l1m (asc_plL q) (na pa) k (l1k hk), Option.bind_some, put_at _ _ l2m (asc_trL q) (hitr (fun c => pa c.1)) k (l2k hk), Option.bind_some, e, XL_at _ _ _ nd8, Int.toNat_natCast]; rw [← XL_set ls q (((i : Int), (d : Int), (a : Int)) :: q) a (plus (Xq ls q d) (shift x) (-1)) (fun s _ => Xq_back hE had hx s)]; rfl
    · have hs : Grow.step (ends ls) q i = q := by
        unfold Grow.step; rw [hE, if_neg (fun c => pa c.1), if_neg (fun c => pd c.1)]
      rw [hs] at h; refine Ev.step_ge 20 (f := fun k => spec_l6Place.j2 k ls (XL ls q) (plL q) (trL q) b (i : Int) (a : Int) (d : Int) false) (fun k hk => ?_) ?_
      · simp only [spec_l6Place.l1]
        rw [if_pos b1, if_pos b0, hrd, ha, hd, A1 k hk, Option.bind_some, decide_eq_false pa, if_neg (by decide)]
      refine Ev.step_ge 20 (f := fun k => spec_l6Place.j3 k ls (XL ls q) (plL q) (trL q) b (i : Int) (a : Int) (d : Int) false) (fun k hk => ?_) ?_
      · simp only [spec_l6Place.j2]
        rw [if_neg (by decide), D1 k hk, Option.bind_some, decide_eq_false pd, if_neg (by decide)]
      refine Ev.step_ge 20 (fun k hk => ?_) (h b (by simp)); simp only [spec_l6Place.j3]; rw [if_neg (by decide), e]
theorem Good.range {ls : L} (hg : ∀ x ∈ ls, Good x) : ∀ i : Int, 0 ≤ i → i < ls.length → 0 ≤ (ends ls i).1 ∧ (ends ls i).1 < 8 ∧ 0 ≤ (ends ls i).2 ∧ (ends ls i).2 < 8 := by
  intro i h0 h1; obtain ⟨k, rfl⟩ := Int.eq_ofNat_of_zero_le h0; have h := leg_good hg k (Int.ofNat_lt.mp h1); exact ⟨h.1.1, h.1.2, h.2.1.1, h.2.1.2⟩
theorem round_ev (ls : L) (hn : ls.length ≤ 12) (hg : ∀ x ∈ ls, Good x) (r : List S31 × List Int × List Int) (q0 : Q) : ∀ (d i : Nat) (q : Q), i + d = ls.length → Grow.Ok (ends ls) ls.length q → q0.length ≤ q.length →
    (Ev (fun k => spec_l6Place.l0 k ls (XL ls (sweep (ends ls) d i q)) (plL (sweep (ends ls) d i q)) (trL (sweep (ends ls) d i q)) (decide (q0.length < (sweep (ends ls) d i q).length))) r) →
    Ev (fun k => spec_l6Place.l1 k ls (XL ls q) (plL q) (trL q) (decide (q0.length < q.length)) (i : Int)) r := by
  intro d
  induction d with
  | zero =>
    intro i q hi ok hq h; refine Ev.step (fun k => ?_) h; simp only [spec_l6Place.l1]; rw [if_neg (fun c => by have := Int.ofNat_lt.mp c; omega)]; rfl
  | succ d ih =>
    intro i q hi ok hq h; refine one_leg ls hn hg q ok i (by omega) _ (ok.len _ (Good.range hg)) r (fun b' hb' => ?_); have hl := Grow.step_len (ends ls) q i
    have hb2 : b' = decide (q0.length < (Grow.step (ends ls) q i).length) := by
      rw [hb', ← Bool.decide_or, decide_eq_decide]; omega
    rw [hb2]; exact ih (i + 1) _ (by omega) (ok.step _ (by omega) (by omega)) (by omega) h
theorem rounds_ev (ls : L) (hn : ls.length ≤ 12) (hg : ∀ x ∈ ls, Good x) (R : Q) : ∀ (f : Nat) (q : Q), Grow.Ok (ends ls) ls.length q → 8 ≤ f + q.length → grow (ends ls) ls.length f q = R → Ev (fun k => spec_l6Place.l0 k ls (XL ls q) (plL q) (trL q) true) (XL ls R, plL R, trL R) := by
  intro f
  induction f with
  | zero =>
    intro q ok h8 hR; have := ok.len _ (Good.range hg); omega
  | succ f ih =>
    intro q ok h8 hR; refine Ev.step (f := fun k => spec_l6Place.l1 k ls (XL ls q) (plL q) (trL q) (decide (q.length < q.length)) ((0 : Nat) : Int)) (fun k => ?_) ?_
    · simp only [spec_l6Place.l0]
      rw [if_pos trivial, decide_eq_false (Nat.lt_irrefl _)]; rfl
    · refine round_ev ls hn hg _ q ls.length 0 q (by omega) ok (Nat.le_refl _) ?_
      rw [grow] at hR; have hl := Grow.sweep_len (ends ls) ls.length 0 q; by_cases c : (sweep (ends ls) ls.length 0 q).length = q.length
      · rw [if_pos c] at hR
        have hs := (Grow.sweep_same (ends ls) c).1; have e0 : sweep (ends ls) ls.length ((0 : Nat) : Int) q = q := hs; rw [e0, decide_eq_false (Nat.lt_irrefl _), hR]; refine Ev.step (f := fun _ => some (XL ls R, plL R, trL R)) (fun k => ?_) (Ev.now _); simp only [spec_l6Place.l0]; rw [if_neg (by decide)]
      · rw [if_neg c] at hR
        have e1 : decide (q.length < (sweep (ends ls) ls.length ((0 : Nat) : Int) q).length) = true := decide_eq_true (by
          show q.length < (sweep (ends ls) ls.length 0 q).length
          omega)
        rw [e1]; exact ih _ (ok.sweep _ (by omega) (by omega)) (by show 8 ≤ f + (sweep (ends ls) ls.length 0 q).length; omega) hR
theorem place_ev (ls : L) (hn : ls.length ≤ 12) (hg : ∀ x ∈ ls, Good x) (R : Q) (hR : grow (ends ls) ls.length 8 [] = R) : Ev (fun k => spec_l6Place.f k ls) (XL ls R, plL R, trL R) := by
  refine Ev.congr (f := fun k => spec_l6Place.l0 k ls (XL ls []) (plL []) (trL []) true) (fun k => ?_) (rounds_ev ls hn hg R 8 [] (Grow.Ok.nil _ _) (by simp) hR); unfold spec_l6Place.f; rw [if_pos (by decide)]; rfl
instance : DecidablePred Good := fun x => by unfold Good; infer_instance
theorem within_eq (x a b : Int) : impl_within.f x a b = some (decide (a ≤ x ∧ x ≤ b)) := by
  unfold impl_within.f; by_cases h : x ≥ a
  · rw [if_pos h]; congr 1; rw [decide_eq_decide]; omega
  · rw [if_neg h, decide_eq_false (by omega)]
theorem IsLeg_eq (x : S49) : impl_IsLeg.f x.f0 x.f1 x.f2 x.f3 x.f4 = some (decide (Good x)) := by
  unfold impl_IsLeg.f impl_isStation.f impl_isBearing.f; simp only [within_eq, Option.bind_some]; by_cases h0 : 0 ≤ x.f0 ∧ x.f0 ≤ 7
  · rw [decide_eq_true h0, if_pos rfl]
    by_cases h1 : 0 ≤ x.f1 ∧ x.f1 ≤ 7
    · rw [decide_eq_true h1, if_pos rfl]
      by_cases h2 : x.f0 = x.f1
      · rw [if_pos h2, decide_eq_false (fun c => c.2.2.1 h2)]
      · rw [if_neg h2]
        by_cases h3 : 1 ≤ x.f2 ∧ x.f2 ≤ 500
        · rw [decide_eq_true h3, if_pos rfl]
          by_cases h4 : 0 ≤ x.f3 ∧ x.f3 ≤ 359
          · rw [decide_eq_true h4, if_pos rfl]
            congr 1
            rw [decide_eq_decide]; exact ⟨fun c => ⟨⟨h0.1, by omega⟩, ⟨h1.1, by omega⟩, h2, h3, h4, c⟩, fun c => c.2.2.2.2.2⟩
          · rw [decide_eq_false h4, if_neg (by decide), decide_eq_false (fun c => h4 c.2.2.2.2.1)]
        · rw [decide_eq_false h3, if_neg (by decide), decide_eq_false (fun c => h3 c.2.2.2.1)]
    · rw [decide_eq_false h1, if_neg (by decide), decide_eq_false (fun c => h1 ⟨c.2.1.1, (by have := c.2.1.2; omega)⟩)]
  · rw [decide_eq_false h0, if_neg (by decide), decide_eq_false (fun c => h0 ⟨c.1.1, (by have := c.1.2; omega)⟩)]
theorem l4Leg_eq (x : S49) : spec_l4Leg.f x.f0 x.f1 x.f2 x.f3 x.f4 = some (decide (Good x)) := IsLeg_eq x
def legsB (ls : L) : Bool := decide ((∀ x ∈ ls, Good x) ∧ ls.length ≤ 12)
theorem legsB_all (ls : L) : (if allFrom (fun i => decide (Good (ls.getD i z49))) 0 ls.length = true then some (decide ((ls.length : Int) ≤ 12)) else some false) = some (legsB ls) := by
  rw [allFrom_all ls z49 (fun x => decide (Good x))]; unfold legsB; by_cases h : ∀ x ∈ ls, Good x
  · rw [if_pos (by simpa using h)]
    congr 1
    rw [decide_eq_decide]; exact ⟨fun c => ⟨h, by omega⟩, fun c => by have := c.2; omega⟩
  · rw [if_neg (by simpa using h), decide_eq_false (fun c => h c.1)]
theorem areLegs_ev (ls : L) (hb : ls.length ≤ 140737488351232) : Ev (fun k => impl_areLegs.f k ls) (legsB ls) := by
  obtain ⟨K, hK⟩ := all_ev (fun i => decide (Good (ls.getD i z49))) ls.length hb (fun k i => impl_areLegs.l0 k ls ls (ls.length : Int) i) (some (decide ((ls.length : Int) ≤ 12))) (by
      intro k i hi; simp only [impl_areLegs.l0]; rw [if_pos (by omega), if_pos (by omega), if_pos (by omega), IsLeg_eq, Option.bind_some]
      rfl) (by
      intro k; simp only [impl_areLegs.l0]
      rw [if_neg (by omega)])
  refine ⟨K, fun k hk => ?_⟩; have := hK k hk; rw [legsB_all] at this; exact this
theorem l4Legs_ev (ls : L) (hb : ls.length ≤ 140737488351232) : Ev (fun k => spec_l4Legs.f k ls) (legsB ls) := by
  obtain ⟨K, hK⟩ := all_ev (fun i => decide (Good (ls.getD i z49))) ls.length hb (fun k i => spec_l4Legs.l0 k ls i) (some (decide ((ls.length : Int) ≤ 12))) (by
      intro k i hi; simp only [spec_l4Legs.l0]; rw [if_pos (by omega), if_pos (by omega), l4Leg_eq, Option.bind_some]
      rfl) (by
      intro k; simp only [spec_l4Legs.l0]
      rw [if_neg (by omega)])
  refine ⟨K, fun k hk => ?_⟩; have := hK k hk; rw [legsB_all] at this; exact this
def RR (ls : L) : Q := grow (ends ls) ls.length 8 []
theorem RR_ok {ls : L} (hg : ∀ x ∈ ls, Good x) : Grow.Ok (ends ls) ls.length (RR ls) ∧ ∀ i : Int, 0 ≤ i → i < ls.length → ((ends ls i).1 ∈ verts 0 (RR ls) ↔ (ends ls i).2 ∈ verts 0 (RR ls)) := by
  have h := Grow.grow_end (ends ls) (Good.range hg) 8 [] (Grow.Ok.nil _ _) (by simp); exact ⟨h.1, h.2.2⟩
theorem RR_len {ls : L} (hg : ∀ x ∈ ls, Good x) : (RR ls).length ≤ 7 := (RR_ok hg).1.len _ (Good.range hg)
theorem plL_small {ls : L} (hg : ∀ x ∈ ls, Good x) : (plL (RR ls)).length ≤ 8 := Nat.le_trans (plL_len _) (Nat.succ_le_succ (RR_len hg))
theorem Pq_eq (q : Q) (a : Nat) : Pq q a = decide ((a : Int) ∈ plL q) := by
  unfold Pq; rw [decide_eq_decide, mem_plL]
def closeL (ls : L) : List Int := closeTo ls (RR ls) ls.length
theorem legsB_iff {ls : L} : legsB ls = true ↔ (∀ x ∈ ls, Good x) ∧ ls.length ≤ 12 := by
  unfold legsB; exact decide_eq_true_iff
end Go.Proofs.YtcafgpincnkcdaaDoor.Net
namespace Go.Proofs.YtcafgpincnkcdaaDoor.Net
open Go.RowKit YtcafgpincnkcdaaDoorW.PrintWords YtcafgpincnkcdaaDoorW.PrintLast YtcafgpincnkcdaaDoorW.PrintMore A Plain
theorem idx_loop (l : List Int) (n : Int) (hl : l.length ≤ 1000000) : ∀ (d i k : Nat), i + d = l.length → d < k → ∃ r, slices_Index_int_int.l0 k l n (l.length : Int) (i : Int) = some r ∧ (r ≥ 0 ↔ n ∈ l.drop i) := by
  intro d
  induction d with
  | zero =>
    intro i k hi hk; obtain ⟨k, rfl⟩ : ∃ m, k = m + 1 := ⟨k - 1, by omega⟩
    refine ⟨-1, ?_, ?_⟩
    · simp only [slices_Index_int_int.l0]
      rw [if_neg (by omega)]
    · rw [List.drop_eq_nil_of_le (by omega)]
      simp
  | succ d ih =>
    intro i k hi hk; obtain ⟨k, rfl⟩ : ∃ m, k = m + 1 := ⟨k - 1, by omega⟩
    have hlt : i < l.length := by omega
    have er : rd l (i : Int) = l[i] := by
      unfold rd; rw [Int.toNat_natCast, List.getD_eq_getElem?_getD, List.getElem?_eq_getElem hlt]; rfl
    have e : wrap64 ((i : Int) + 1) = ((i + 1 : Nat) : Int) := by rw [w64 (by omega) (by omega)]; omega
    rw [List.drop_eq_getElem_cons hlt]; by_cases hc : n = l[i]
    · refine ⟨(i : Int), ?_, ?_⟩
      · simp only [slices_Index_int_int.l0]
        rw [if_pos (by omega), if_pos (by omega), if_pos (by omega), er, if_pos hc]
      · exact ⟨fun _ => by rw [hc]; exact List.mem_cons_self, fun _ => by omega⟩
    · obtain ⟨r, h1, h2⟩ := ih (i + 1) k (by omega) (by omega)
      refine ⟨r, ?_, ?_⟩
      · simp only [slices_Index_int_int.l0]
        rw [if_pos (by omega), if_pos (by omega), if_pos (by omega), er, if_neg hc, e, h1]
      · rw [h2, List.mem_cons]
        exact ⟨Or.inr, fun h => h.resolve_left hc⟩
theorem hasI_at (l : List Int) (n : Int) (hl : l.length ≤ 1000000) (k : Nat) (hk : l.length < k) : impl_has.f k l n = some (decide (n ∈ l)) := by
  obtain ⟨r, h1, h2⟩ := idx_loop l n hl l.length 0 k (by omega) hk; have h1' : slices_Index_int_int.f k l n = some r := h1; simp only [impl_has.f, slices_Contains_int_int.f, h1', Option.bind_some]
  congr 1
  rw [decide_eq_decide, h2, List.drop_zero]
def Gate (ls : L) (b : Bool) (w : World) (e : Ending) (w' : World) : Prop := ∃ g T cA cC, e = .returned (.tuple #[.pointer (some ⟨g, 0, none⟩), .bool b]) ∧ St ls.length T g (Pq (RR ls)) (Xq ls (RR ls)) (Bq (RR ls)) (.slice cA (closeL ls).length cC) w' ∧ Kd.R (Kd.int .i64) 3 w' w.heap.size (fun k => k ≠ g ∧ k ≠ T) (.slice cA (closeL ls).length cC) (closeL ls) ∧ Below w.heap.size w w'
theorem closeL_len (ls : L) : (closeL ls).length ≤ ls.length := closeTo_len ls (RR ls) ls.length
theorem closingLeg (A : Option Addr) (c : Nat) (ls : L) (leg : Int) (w : World) (hL : Sine.Laid w) (hr0 : Kd.C k49 w A ls.length ls) (hc : ls.length ≤ c) (hv : legsB ls = true) :
    Calls Tryd.prog 93 #[.slice A ls.length c, .int .i64 leg] w (Gate ls (decide (leg ∈ closeL ls)) w) := by
  have hv' := legsB_iff.mp hv; have hn := hv'.2; obtain ⟨K, hK⟩ := areLegs_ev ls (by omega); have HA := ak (hK K (Nat.le_refl _)); rw [hv] at HA; have hcl := closeL_len ls; have HH := ak (hasI_at (closeL ls) leg (by omega) 20 (by omega)); have HG := ak hv'.1; have HR := ak hr0; have HL := ak hL; have HB := ak (Below.refl w.heap.size w); clear hK hr0 hL hv hv'; go_enter Tryd.func93, Tryd.ntmps93
  go_wp2_with (first
    | (go_at_call 62; (with_reducible refine (impl_areLegs.calls K _ _ ls true _ ?s1 ?s2 HA.out).mono ?_); (case s1 => exact Kd.C_below HR.out qz11); (case s2 => exact hc); rintro e w' ⟨rfl, hw⟩; replace HB := ak (below_step (show Below w.heap.size w _ from by (repeat (first | exact HB.out | exact Below.refl _ _ | apply below_alloc | apply pw_below_drewN | apply below_drew1)); done) hw); clear hw)
    | ((go_at_call 63; (with_reducible refine (place _ c ls _ ?s1 ?s2 hc hn HG.out (RR ls) rfl).mono ?_); (case s1 => exact HL.out.keep qz11); (case s2 => exact Kd.C_below HR.out qz11); rintro e w' ⟨g, T, cl, rfl, hst, ho, hw⟩; have HO : Aside0 (Kd.R (Kd.int .i64) 3 w' w.heap.size (fun k => k ≠ g ∧ k ≠ T) cl (closeL ls)) := ⟨Kd.R_lower ho (below_size (show Below w.heap.size w _ from by (repeat (first | exact HB.out | exact Below.refl _ _ | apply below_alloc | apply pw_below_drewN | apply below_drew1)); done))⟩; replace HB := ak (below_step (show Below w.heap.size w _ from by (repeat (first | exact HB.out | exact Below.refl _ _ | apply below_alloc | apply pw_below_drewN | apply below_drew1)); done) hw); have HS := ak hst; clear hst ho hw; obtain ⟨cA, cC, ecl⟩ := Kd.R_slice HO.out; subst ecl); have cc := HS.out.cc)
    | (go_at_call 88; (with_reducible refine (impl_has.calls 20 _ _ (closeL ls) leg _ _ ?s1 ?s2 HH.out).mono ?_); (case s1 => exact (Kd.R_reads' HO.out).2.2); (case s2 => exact (Kd.R_reads' HO.out).2.1); rintro e w' ⟨rfl, ⟨nd, rfl⟩⟩))
  go_ret2
  exact ⟨g, T, cA, cC, rfl, HS.out.keep (pw_below_drewN (Below.refl _ _) _), Kd.R_drewN HO.out _, pw_below_drewN HB.out _⟩
theorem isStation_eq (x : Int) : impl_isStation.f x = some (decide (0 ≤ x ∧ x ≤ 7)) := by
  unfold impl_isStation.f; rw [within_eq]; rfl
theorem placedLeg (A : Option Addr) (c : Nat) (ls : L) (i : Int) (w : World) (hL : Sine.Laid w) (hr0 : Kd.C k49 w A ls.length ls) (hc : ls.length ≤ c) (hv : legsB ls = true) (h0 : 0 ≤ i) (h1 : i < ls.length) :
    Calls Tryd.prog 84 #[.slice A ls.length c, .int .i64 i] w (Gate ls (Pq (RR ls) (leg ls i).f0.toNat) w) := by
  have hv' := legsB_iff.mp hv; have hn := hv'.2; obtain ⟨K, hK⟩ := areLegs_ev ls (by omega); have HA := ak (hK K (Nat.le_refl _)); rw [hv] at HA; have HW : Aside0 (impl_within.f i 0 ((ls.length : Int) - 1) = some true) := ⟨(by rw [within_eq, decide_eq_true (by omega)])⟩; obtain ⟨k, rfl⟩ := Int.eq_ofNat_of_zero_le h0; have hg := leg_good hv'.1 k (by omega); obtain ⟨a, ha⟩ := Int.eq_ofNat_of_zero_le hg.1.1; have ha8 : (a : Int) < 8 := by have := hg.1.2; omega
  rw [ha, Int.toNat_natCast]; obtain ⟨_, e2, h2, _⟩ := at_T49 hr0 (k : Int) h0 h1; cases e2; rw [Int.toNat_natCast, show rd_T49 ls (k : Int) = leg ls k from rfl, ha] at h2; have H2 := ak h2; have HG := ak hv'.1; have HR := ak hr0; have HL := ak hL; have HB := ak (Below.refl w.heap.size w); clear hK hr0 hL hv hv' hg ha h2; go_enter Tryd.func84, Tryd.ntmps84
  go_wp2_with (first
    | (go_at_call 62; (with_reducible refine (impl_areLegs.calls K _ _ ls true _ ?s1 ?s2 HA.out).mono ?_); (case s1 => exact Kd.C_below HR.out qz11); (case s2 => exact hc); rintro e w' ⟨rfl, hw⟩; replace HB := ak (below_step (show Below w.heap.size w _ from by (repeat (first | exact HB.out | exact Below.refl _ _ | apply below_alloc | apply pw_below_drewN | apply below_drew1)); done) hw); clear hw)
    | (go_at_call 71; (with_reducible refine (impl_within.calls _ _ _ _ _ HW.out).mono ?_); rintro e w' ⟨rfl, ⟨nd, rfl⟩⟩; replace HB := ak (pw_below_drewN HB.out nd))
    | ((go_at_call 63; (with_reducible refine (place _ c ls _ ?s1 ?s2 hc hn HG.out (RR ls) rfl).mono ?_); (case s1 => exact HL.out.keep qz11); (case s2 => exact Kd.C_below HR.out qz11); rintro e w' ⟨g, T, cl, rfl, hst, ho, hw⟩; have HO : Aside0 (Kd.R (Kd.int .i64) 3 w' w.heap.size (fun k => k ≠ g ∧ k ≠ T) cl (closeL ls)) := ⟨Kd.R_lower ho (below_size (show Below w.heap.size w _ from by (repeat (first | exact HB.out | exact Below.refl _ _ | apply below_alloc | apply pw_below_drewN | apply below_drew1)); done))⟩; replace HB := ak (below_step (show Below w.heap.size w _ from by (repeat (first | exact HB.out | exact Below.refl _ _ | apply below_alloc | apply pw_below_drewN | apply below_drew1)); done) hw); have HS := ak hst; clear hst ho hw; obtain ⟨cA, cC, ecl⟩ := Kd.R_slice HO.out; subst ecl); have h2 := Sine.keepc H2.out HB.out; have pa := HS.out.pb a (by omega)))
  go_quiet (fail)
  go_wp2
  go_ret2
  exact ⟨g, T, cA, cC, rfl, HS.out.keep (pw_below_drewN (Below.refl _ _) _), Kd.R_drewN HO.out _, pw_below_drewN HB.out _⟩
theorem placedAt (A : Option Addr) (c : Nat) (ls : L) (s : Int) (w : World) (hL : Sine.Laid w) (hr0 : Kd.C k49 w A ls.length ls) (hc : ls.length ≤ c) (hv : legsB ls = true) (h0 : 0 ≤ s) (h1 : s < 8) :
    Calls Tryd.prog 70 #[.slice A ls.length c, .int .i64 s] w (Gate ls (Pq (RR ls) s.toNat) w) := by
  have hv' := legsB_iff.mp hv; have hn := hv'.2; obtain ⟨K, hK⟩ := areLegs_ev ls (by omega); have HA := ak (hK K (Nat.le_refl _)); rw [hv] at HA; have HW : Aside0 (impl_isStation.f s = some true) := ⟨(by rw [isStation_eq, decide_eq_true (by omega)])⟩; obtain ⟨a, rfl⟩ := Int.eq_ofNat_of_zero_le h0; rw [Int.toNat_natCast]; have HG := ak hv'.1; have HR := ak hr0; have HL := ak hL; have HB := ak (Below.refl w.heap.size w); clear hK hr0 hL hv hv'; go_enter Tryd.func70, Tryd.ntmps70
  go_wp2_with (first
    | (go_at_call 62; (with_reducible refine (impl_areLegs.calls K _ _ ls true _ ?s1 ?s2 HA.out).mono ?_); (case s1 => exact Kd.C_below HR.out qz11); (case s2 => exact hc); rintro e w' ⟨rfl, hw⟩; replace HB := ak (below_step (show Below w.heap.size w _ from by (repeat (first | exact HB.out | exact Below.refl _ _ | apply below_alloc | apply pw_below_drewN | apply below_drew1)); done) hw); clear hw)
    | (go_at_call 107; (with_reducible refine (impl_isStation.calls _ _ _ HW.out).mono ?_); rintro e w' ⟨rfl, ⟨nd, rfl⟩⟩; replace HB := ak (pw_below_drewN HB.out nd))
    | ((go_at_call 63; (with_reducible refine (place _ c ls _ ?s1 ?s2 hc hn HG.out (RR ls) rfl).mono ?_); (case s1 => exact HL.out.keep qz11); (case s2 => exact Kd.C_below HR.out qz11); rintro e w' ⟨g, T, cl, rfl, hst, ho, hw⟩; have HO : Aside0 (Kd.R (Kd.int .i64) 3 w' w.heap.size (fun k => k ≠ g ∧ k ≠ T) cl (closeL ls)) := ⟨Kd.R_lower ho (below_size (show Below w.heap.size w _ from by (repeat (first | exact HB.out | exact Below.refl _ _ | apply below_alloc | apply pw_below_drewN | apply below_drew1)); done))⟩; replace HB := ak (below_step (show Below w.heap.size w _ from by (repeat (first | exact HB.out | exact Below.refl _ _ | apply below_alloc | apply pw_below_drewN | apply below_drew1)); done) hw); have HS := ak hst; clear hst ho hw; obtain ⟨cA, cC, ecl⟩ := Kd.R_slice HO.out; subst ecl); have pa := HS.out.pb a (by omega)))
  go_quiet (fail)
  go_wp2
  go_ret2
  exact ⟨g, T, cA, cC, rfl, HS.out.keep (pw_below_drewN (Below.refl _ _) _), Kd.R_drewN HO.out _, pw_below_drewN HB.out _⟩
theorem placedAt_no (A : Option Addr) (c : Nat) (ls : L) (s : Int) (w : World) (hr0 : Kd.C k49 w A ls.length ls) (hc : ls.length ≤ c) (hb : ls.length ≤ 140737488351232) (hv : legsB ls = true → ¬ (0 ≤ s ∧ s < 8)) :
    Calls Tryd.prog 70 #[.slice A ls.length c, .int .i64 s] w fun e w' => e = .returned (.tuple #[.pointer none, .bool false]) ∧ Below w.heap.size w w' := by
  obtain ⟨K, hK⟩ := areLegs_ev ls hb; have HA := ak (hK K (Nat.le_refl _)); have HR := ak hr0; have HB := ak (Below.refl w.heap.size w); clear hK hr0; cases hq : legsB ls
  · rw [hq] at HA
    clear hq hv; go_enter Tryd.func70, Tryd.ntmps70; go_wp2_with (go_at_call 62; (with_reducible refine (impl_areLegs.calls K _ _ ls false _ ?s1 ?s2 HA.out).mono ?_); (case s1 => exact Kd.C_below HR.out qz11); (case s2 => exact hc); rintro e w' ⟨rfl, hw⟩; replace HB := ak (below_step (show Below w.heap.size w _ from by (repeat (first | exact HB.out | exact Below.refl _ _ | apply below_alloc | apply pw_below_drewN | apply below_drew1)); done) hw); clear hw)
    go_ret2
    exact ⟨rfl, HB.out⟩
  · rw [hq] at HA
    have hv2 := hv hq; have HW : Aside0 (impl_isStation.f s = some false) := ⟨(by rw [isStation_eq, decide_eq_false (by omega)])⟩; clear hq hv; go_enter Tryd.func70, Tryd.ntmps70
    go_wp2_with (first
      | (go_at_call 62; (with_reducible refine (impl_areLegs.calls K _ _ ls true _ ?s1 ?s2 HA.out).mono ?_); (case s1 => exact Kd.C_below HR.out qz11); (case s2 => exact hc); rintro e w' ⟨rfl, hw⟩; replace HB := ak (below_step (show Below w.heap.size w _ from by (repeat (first | exact HB.out | exact Below.refl _ _ | apply below_alloc | apply pw_below_drewN | apply below_drew1)); done) hw); clear hw)
      | (go_at_call 107; (with_reducible refine (impl_isStation.calls _ _ _ HW.out).mono ?_); rintro e w' ⟨rfl, ⟨nd, rfl⟩⟩; replace HB := ak (pw_below_drewN HB.out nd)))
    go_ret2
    exact ⟨rfl, HB.out⟩
end Go.Proofs.YtcafgpincnkcdaaDoor.Net
namespace Go.Proofs.YtcafgpincnkcdaaDoor.Net
open Go Go.Maps Go.WideElems Go.ChangeShapes Go.RowKit YtcafgpincnkcdaaDoorW.PrintWords YtcafgpincnkcdaaDoorW.PrintLast YtcafgpincnkcdaaDoorW.PrintMore A Plain
open Tree (verts legs W)
open Grow (Q)
theorem keyed3 : Maps.Keyed Tryd.prog 3 := Maps.int_keyed Tryd.underlying3
theorem zero3 (w : World) : (zeroValue 3).run Tryd.prog w = .ok (.int .i64 0) w := by kernel_rfl
def MapAt (w : World) (b : Nat) (n : Nat) (F : Int → Option Int) : Prop := ∃ D : DataW Unit, w.ownsMap Tryd.prog 3 (plainElem Tryd.prog 3) b n D ∧ ∀ x : Int, 0 ≤ x → x < 100 → Maps.has D (.int .i64 x) = (F x).isSome ∧ D.atKey (.int .i64 x) (.lit (.int .i64 0)) = .lit (.int .i64 ((F x).getD 0))
theorem wf_small {x : Int} (h0 : -100 ≤ x) (h1 : x < 1000) : (Lit.int .i64 x).wf = true := by
  simp only [Lit.wf, IntKind.min, IntKind.max, IntKind.signed, IntKind.bits, Bool.and_eq_true, decide_eq_true_eq, if_true]; omega
theorem MapAt.lt {w : World} {b n : Nat} {F : Int → Option Int} (h : MapAt w b n F) : b < w.heap.size := by
  obtain ⟨D, h1, h2⟩ := h; exact h1.lt
theorem MapAt.below {w w' : World} {b n : Nat} {F : Int → Option Int} (h : MapAt w b n F) (hb : Below w.heap.size w w') : MapAt w' b n F := by
  obtain ⟨D, h1, h2⟩ := h; have hlt := h1.lt; obtain ⟨es, clock, hh, F', hs, hD⟩ := h1; exact ⟨D, ⟨es, clock, (hb.block b hlt).trans hh, F', hs, hD⟩, h2⟩
theorem MapAt.look {w : World} {b n : Nat} {F : Int → Option Int} (h : MapAt w b n F) (x : Int) (h0 : 0 ≤ x) (h1 : x < 100) :
    (Instr.lookup 103 (.map (some b)) (.int .i64 x) true).run Tryd.prog w = .ok (.tuple #[.int .i64 ((F x).getD 0), .bool (F x).isSome]) w ∧
    (Instr.lookup 103 (.map (some b)) (.int .i64 x) false).run Tryd.prog w = .ok (.int .i64 ((F x).getD 0)) w := by
  obtain ⟨D, hown, hF⟩ := h; obtain ⟨hh, hat⟩ := hF x h0 h1; have hkey := keyOf_int_mk Tryd.underlying3 (wf_small (x := x) (by omega) (by omega)); have hz0 : (Lit.int .i64 0).wf = true := by decide
  obtain ⟨v, ps, hrun, hv⟩ := hown.look_ok keyed3 Tryd.underlying103 (zero3 w) (plainElem_int Tryd.underlying3 hz0) hkey; obtain ⟨c, rfl, hc, _⟩ := plainElem_int_inv Tryd.underlying3 hv; obtain ⟨c2, hrun2, hc2, _⟩ := hown.lookup_int keyed3 Tryd.underlying103 Tryd.underlying3 (zero3 w) hkey; rw [hat] at hc2 hc; have e1 : (F x).getD 0 = c := by simpa using congrArg Prod.fst hc
  have e2 : (F x).getD 0 = c2 := by simpa using hc2
  rw [hrun, hrun2, hh, ← e1, ← e2]; exact ⟨rfl, rfl⟩
theorem MapAt.store {w : World} {b n : Nat} {F : Int → Option Int} (h : MapAt w b n F) (hn : n < 1000) (x v : Int) (h0 : 0 ≤ x) (h1 : x < 100) (hv : -100 ≤ v) (hv1 : v < 1000) :
    ∃ w', (Instr.mapUpdate 103 (.map (some b)) (.int .i64 x) (.int .i64 v)).run Tryd.prog w = .ok () w' ∧ MapAt w' b (n + 1) (fun y => if y = x then some v else F y) ∧ w.grownBy w' (some b) := by
  obtain ⟨D, hown, hF⟩ := h; have hkey := keyOf_int_mk Tryd.underlying3 (wf_small (x := x) (by omega) (by omega)); obtain ⟨w', hrun, hown', hg⟩ := hown.update keyed3 Tryd.underlying103 (by unfold maxLen; omega) hkey (plainElem_int Tryd.underlying3 (wf_small hv hv1)); refine ⟨w', hrun, ⟨_, hown', fun y y0 y1 => ?_⟩, hg⟩; have hD := hown.isMap; have hk : ∀ z : Int, WideAt.IsKeyLit (.int .i64 z) := fun z => trivial
  obtain ⟨f1, f2⟩ := hF y y0 y1
  dsimp only
  by_cases e : y = x
  · subst e
    rw [if_pos rfl, Maps.has_put_same hD (hk y), Maps.atKey_put_same hD (hk y)]; exact ⟨rfl, rfl⟩
  · have hne : (Lit.int .i64 y : Lit) ≠ .int .i64 x := fun h => e (by injection h)
    rw [if_neg e, Maps.has_put_other hne, Maps.atKey_put_other hne]; exact ⟨f1, f2⟩
theorem MapAt.new (w : World) (r : Int) (h0 : 0 ≤ r) (h1 : r < 100) : ∃ w', (Instr.mapUpdate 103 (.map (some w.heap.size)) (.int .i64 r) (.int .i64 (-1))).run Tryd.prog (w.alloc (.map #[] 0)) = .ok () w' ∧ MapAt w' w.heap.size 1 (fun y => if y = r then some (-1) else none) ∧ Below w.heap.size w w' ∧ w.heap.size + 1 ≤ w'.heap.size := by
  have h : MapAt (w.alloc (.map #[] 0)) w.heap.size 0 (fun _ => none) := ⟨_, World.ownsMap_made w _ _ _, fun x _ _ => ⟨rfl, rfl⟩⟩; obtain ⟨w', hrun, hm, hg⟩ := h.store (by omega) r (-1) h0 h1 (by omega) (by omega); have hsz : (w.alloc (Obj.map #[] 0)).heap.size = w.heap.size + 1 := by simp
  refine ⟨w', hrun, hm, ?_, (by have := hg.size; omega)⟩; exact (below_alloc (Below.refl w.heap.size w) (Obj.map #[] 0)).grown hg (by omega) (fun k e => by injection e with e; omega)
def trail (e : Int → Int × Int) : Int → List Int → List Int
  | a, [] => [a]
  | a, i :: l => a :: trail e ((e i).1 + (e i).2 - a) l
theorem back_len {e : Int → Int × Int} {use : Int → Bool} {r : Int} {n : Nat} {q : Q} (h : Bfs.Ok e use r n q) {cur : Int} (hc : cur ∈ verts r q) : (Bfs.back q cur).length ≤ q.length := by
  rw [Bfs.back_eq r h.tr hc]; exact Tree.W_len q cur r
theorem trail_cons (e : Int → Int × Int) (a : Int) (l : List Int) : trail e a l = a :: (trail e a l).tail := by cases l <;> rfl
theorem trail_len (e : Int → Int × Int) : ∀ (l : List Int) (a : Int), (trail e a l).length = l.length + 1
  | [], a => rfl
  | i :: l, a => by simp [trail, trail_len e l]
def BackInv (e : Int → Int × Int) (r dst : Int) (R : Q) (cur : Int) (st lst : List Int) : Prop := cur ∈ verts r R ∧ lst ++ Bfs.back R cur = Bfs.back R dst ∧ st ++ (trail e cur (Bfs.back R cur)).tail = trail e dst (Bfs.back R dst)
theorem BackInv.start {e : Int → Int × Int} {r dst : Int} {R : Q} (h : dst ∈ verts r R) : BackInv e r dst R dst [dst] [] := ⟨h, rfl, (by rw [List.singleton_append, ← trail_cons])⟩
theorem BackInv.next {e : Int → Int × Int} {r dst : Int} {R : Q} {cur i u : Int} {st lst : List Int} (h : BackInv e r dst R cur st lst) (hb : Bfs.back R cur = i :: Bfs.back R u) (hu : u ∈ verts r R) (he : (e i).1 + (e i).2 - cur = u) : BackInv e r dst R u (st ++ [u]) (lst ++ [i]) := by
  obtain ⟨h1, h2, h3⟩ := h; refine ⟨hu, (by rw [← h2, hb]; simp), ?_⟩; rw [← h3, hb]; simp only [trail, he, List.tail_cons]; rw [List.append_assoc, List.singleton_append, ← trail_cons]
theorem BackInv.len {e : Int → Int × Int} {r dst : Int} {R : Q} {cur : Int} {st lst : List Int} (h : BackInv e r dst R cur st lst) {n : Nat} {use : Int → Bool} (ok : Bfs.Ok e use r n R) (hd : dst ∈ verts r R) : lst.length ≤ R.length ∧ st.length ≤ R.length + 1 := by
  obtain ⟨h1, h2, h3⟩ := h; have a := congrArg List.length h2; have b := congrArg List.length h3; have c := back_len ok hd; rw [List.length_append] at a b; rw [trail_len] at b; omega
def OutInv (ls : L) (use : Int → Bool) (r : Int) (R : Q) (k : Nat) (q : Q) : Prop := Bfs.Ok (ends ls) use r ls.length q ∧ k ≤ q.length + 1 ∧ ∃ f, Bfs.run (ends ls) use r ls.length f k q = R ∧ 8 < f + k
def InInv (ls : L) (use : Int → Bool) (r : Int) (a : Int) (q : Q) (i : Nat) (p : Q) : Prop := Bfs.Ok (ends ls) use r ls.length p ∧ Bfs.Ext q p ∧ Bfs.scan (ends ls) use r a (ls.length - i) i p = Bfs.scan (ends ls) use r a ls.length 0 q
theorem InInv.next {ls : L} {use : Int → Bool} {r a : Int} {q p : Q} {i : Nat} (h : InInv ls use r a q i p) (hi : i < ls.length) (ha : a ∈ verts r q) : InInv ls use r a q (i + 1) (Bfs.look (ends ls) use r a p i) := by
  obtain ⟨h1, h2, h3⟩ := h; refine ⟨h1.look (ends ls) use r (h2.verts r ha) (by omega) (by omega), h2.trans (Bfs.look_ext (ends ls) use r a p i), ?_⟩; rw [← h3, show ls.length - i = (ls.length - (i + 1)) + 1 by omega]; rfl
theorem InInv.skip {ls : L} {use : Int → Bool} {r a : Int} {q p : Q} {i : Nat} (h : InInv ls use r a q i p) (hi : i < ls.length) (hs : ((ends ls i).1 ≠ a ∧ (ends ls i).2 ≠ a) ∨ use i = false) : InInv ls use r a q (i + 1) p := by
  obtain ⟨h1, h2, h3⟩ := h; refine ⟨h1, h2, ?_⟩; rw [← h3, show ls.length - i = (ls.length - (i + 1)) + 1 by omega]; have e : Bfs.look (ends ls) use r a p i = p := by unfold Bfs.look; rw [if_pos hs]
  show _ = Bfs.scan (ends ls) use r a _ ((i : Int) + 1) (Bfs.look (ends ls) use r a p i); rw [e]; rfl
theorem OutInv.next {ls : L} {use : Int → Bool} {r a : Int} {q p R : Q} {k : Nat} (h : OutInv ls use r R k q) (hp : InInv ls use r a q ls.length p) (hk : k < (Bfs.queue r q).length) (ha : a = (Bfs.queue r q).getD k 0) (h7 : q.length ≤ 7) : OutInv ls use r R (k + 1) p := by
  obtain ⟨h1, h2, f, h3, h4⟩ := h; obtain ⟨p1, ⟨t, ht⟩, p3⟩ := hp; have hql := Bfs.queue_len r q; rw [Nat.sub_self] at p3; obtain ⟨f, rfl⟩ : ∃ m, f = m + 1 := ⟨f - 1, by omega⟩
  refine ⟨p1, (by rw [ht, List.length_append]; omega), f, ?_, by omega⟩; rw [Bfs.run, if_pos hk, ← ha] at h3; have p3' : p = Bfs.scan (ends ls) use r a ls.length 0 q := p3; rw [p3']; exact h3
theorem OutInv.stop {ls : L} {use : Int → Bool} {r : Int} {q R : Q} {k : Nat} (h : OutInv ls use r R k q) (hk : ¬ k < (Bfs.queue r q).length) : R = q := by
  obtain ⟨h1, h2, f, h3, h4⟩ := h
  cases f with
  | zero => exact h3.symm
  | succ f => rw [Bfs.run, if_neg hk] at h3; exact h3.symm
end Go.Proofs.YtcafgpincnkcdaaDoor.Net
namespace Go.Proofs.YtcafgpincnkcdaaDoor.Net
open Go.RowKit YtcafgpincnkcdaaDoorW.PrintWords YtcafgpincnkcdaaDoorW.PrintLast YtcafgpincnkcdaaDoorW.PrintMore A Plain
open Tree (verts legs W)
open Dfs (dfs try_)
open Grow (Q sweep grow)
theorem rd_at (l : List Int) (i : Nat) (h : i < l.length) : rd l (i : Int) = l[i] := by
  unfold rd; rw [Int.toNat_natCast, List.getD_eq_getElem?_getD, List.getElem?_eq_getElem h]; rfl
section
variable (ls : L) (hg : ∀ x ∈ ls, Good x) (tree : List Int) (ht : ∀ i ∈ tree, 0 ≤ i ∧ i < (ls.length : Int)) (hl : tree.length ≤ 1000) (dst : Int)
include hg ht hl
end
theorem pl_bound {ls : L} (sh : Int → Int) (hs : ∀ i, 0 ≤ i → i < (ls.length : Int) → -500 ≤ sh i ∧ sh i ≤ 500) : ∀ {q : Q}, (∀ x ∈ q, 0 ≤ x.1 ∧ x.1 < (ls.length : Int)) → ∀ x, -(500 * (q.length : Int)) ≤ Sum.pl (ends ls) sh q x ∧ Sum.pl (ends ls) sh q x ≤ 500 * (q.length : Int)
  | [], _, x => by simp [Sum.pl]
  | (i, u, s) :: q, h, x => by
    have hi := hs i (h _ List.mem_cons_self).1 (h _ List.mem_cons_self).2; have ih := pl_bound sh hs (q := q) (fun x hx => h x (List.mem_cons_of_mem _ hx)); have h1 := ih u; have h2 := ih x; simp only [Sum.pl, List.length_cons]; split
    · split <;> omega
    · omega
theorem plus_exact {a b : S31} (ha : (-1000000 ≤ a.f0 ∧ a.f0 ≤ 1000000) ∧ (-1000000 ≤ a.f1 ∧ a.f1 ≤ 1000000) ∧ (-1000000 ≤ a.f2 ∧ a.f2 ≤ 1000000)) (hb : (-1000000 ≤ b.f0 ∧ b.f0 ≤ 1000000) ∧ (-1000000 ≤ b.f1 ∧ b.f1 ≤ 1000000) ∧ (-1000000 ≤ b.f2 ∧ b.f2 ≤ 1000000)) :
    plus a b 1 = ⟨a.f0 + b.f0, a.f1 + b.f1, a.f2 + b.f2⟩ ∧ plus a b (-1) = ⟨a.f0 - b.f0, a.f1 - b.f1, a.f2 - b.f2⟩ := by
  unfold plus
  constructor
  · rw [Int.one_mul, Int.one_mul, Int.one_mul, w64 (x := b.f0) (by omega) (by omega), w64 (x := b.f1) (by omega) (by omega), w64 (x := b.f2) (by omega) (by omega), w64 (by omega) (by omega), w64 (by omega) (by omega), w64 (by omega) (by omega)]
  · rw [w64 (x := -1 * b.f0) (by omega) (by omega), w64 (x := -1 * b.f1) (by omega) (by omega), w64 (x := -1 * b.f2) (by omega) (by omega), w64 (by omega) (by omega), w64 (by omega) (by omega), w64 (by omega) (by omega)]
    congr 1 <;> omega
def sh0 (ls : L) (i : Int) : Int := (shift (leg ls i)).f0
def sh1 (ls : L) (i : Int) : Int := (shift (leg ls i)).f1
def sh2 (ls : L) (i : Int) : Int := (shift (leg ls i)).f2
theorem sh_bound {ls : L} (hg : ∀ x ∈ ls, Good x) (i : Int) (h0 : 0 ≤ i) (h1 : i < (ls.length : Int)) : (-500 ≤ sh0 ls i ∧ sh0 ls i ≤ 500) ∧ (-500 ≤ sh1 ls i ∧ sh1 ls i ≤ 500) ∧ (-500 ≤ sh2 ls i ∧ sh2 ls i ≤ 500) := by
  obtain ⟨k, rfl⟩ := Int.eq_ofNat_of_zero_le h0; exact shift_bound _ (leg_good hg k (Int.ofNat_lt.mp h1))
theorem plq_pl {ls : L} (hg : ∀ x ∈ ls, Good x) : ∀ {q : Q}, q.length ≤ 100 → (∀ x ∈ q, 0 ≤ x.1 ∧ x.1 < (ls.length : Int)) → ∀ x, plq ls q x = ⟨Sum.pl (ends ls) (sh0 ls) q x, Sum.pl (ends ls) (sh1 ls) q x, Sum.pl (ends ls) (sh2 ls) q x⟩
  | [], _, _, x => rfl
  | (i, u, s) :: q, hl, h, x => by
    have hi := sh_bound hg i (h _ List.mem_cons_self).1 (h _ List.mem_cons_self).2; have hr := fun x hx => h x (List.mem_cons_of_mem (i, u, s) hx)
    have hl' : q.length ≤ 100 := by simp only [List.length_cons] at hl; omega
    have ih := plq_pl hg hl' hr; have b0 := pl_bound (sh0 ls) (fun i a b => (sh_bound hg i a b).1) hr u; have b1 := pl_bound (sh1 ls) (fun i a b => (sh_bound hg i a b).2.1) hr u; have b2 := pl_bound (sh2 ls) (fun i a b => (sh_bound hg i a b).2.2) hr u; simp only [plq, Sum.pl]; by_cases c : x = s
    · simp only [if_pos c]
      rw [ih u]; have ex := plus_exact (a := ⟨Sum.pl (ends ls) (sh0 ls) q u, Sum.pl (ends ls) (sh1 ls) q u, Sum.pl (ends ls) (sh2 ls) q u⟩) (b := shift (leg ls i)) ⟨qz53, qz53, qz53⟩ ⟨(by have := hi.1; unfold sh0 at this; omega), (by have := hi.2.1; unfold sh1 at this; omega), (by have := hi.2.2; unfold sh2 at this; omega)⟩; by_cases c2 : (ends ls i).1 = u
      · simp only [if_pos c2]
        rw [ex.1]; rfl
      · simp only [if_neg c2]
        rw [ex.2]; rfl
    · simp only [if_neg c]
      exact ih x
end Go.Proofs.YtcafgpincnkcdaaDoor.Net
namespace Go.Proofs.YtcafgpincnkcdaaDoor.Net
open Go.RowKit YtcafgpincnkcdaaDoorW.PrintWords YtcafgpincnkcdaaDoorW.PrintLast YtcafgpincnkcdaaDoorW.PrintMore A Plain
open Tree (verts legs W)
open Grow (Q sweep grow)
theorem RR_idx {ls : L} (hg : ∀ x ∈ ls, Good x) : ∀ x ∈ RR ls, 0 ≤ x.1 ∧ x.1 < (ls.length : Int) := fun x hx => ((RR_ok hg).1.ends x hx).2
end Go.Proofs.YtcafgpincnkcdaaDoor.Net
namespace Go.Proofs.YtcafgpincnkcdaaDoor.Net
open Go Go.RowKit YtcafgpincnkcdaaDoorW.PrintWords YtcafgpincnkcdaaDoorW.PrintLast YtcafgpincnkcdaaDoorW.PrintMore A Plain
open Tree (verts legs W)
open Grow (Q)
def lenS (ls : L) : List Int → Int
  | [] => 0
  | i :: l => (leg ls i).f2 + lenS ls l
def LenInv (ls : L) (all : List Int) (j : Nat) (s : Int) : Prop := s + lenS ls (all.drop j) = lenS ls all ∧ 0 ≤ s ∧ s ≤ 500 * (j : Int)
theorem LenInv.next {ls : L} {all : List Int} {j : Nat} {s : Int} (hg : ∀ x ∈ ls, Good x) (ha : ∀ i ∈ all, 0 ≤ i ∧ i < (ls.length : Int)) (hj : j < all.length) (h : LenInv ls all j s) : LenInv ls all (j + 1) (s + (leg ls all[j]).f2) := by
  obtain ⟨h1, h2, h3⟩ := h; have hin := ha _ (List.getElem_mem hj); rw [List.drop_eq_getElem_cons hj] at h1; obtain ⟨m, hm⟩ := Int.eq_ofNat_of_zero_le hin.1; rw [hm] at hin h1 ⊢; have hgi := leg_good hg m (Int.ofNat_lt.mp hin.2); have := hgi.2.2.2.1; have e : lenS ls ((m : Int) :: all.drop (j + 1)) = (leg ls m).f2 + lenS ls (all.drop (j + 1)) := rfl; rw [e] at h1; exact ⟨by omega, by omega, by omega⟩
end Go.Proofs.YtcafgpincnkcdaaDoor.Net
namespace Go.Proofs.YtcafgpincnkcdaaDoor.Net
open Go.RowKit YtcafgpincnkcdaaDoorW.PrintWords YtcafgpincnkcdaaDoorW.PrintLast YtcafgpincnkcdaaDoorW.PrintMore A Plain
theorem apart_ev (a b : S31) (h0 : -100000 ≤ (plus a b (-1)).f0 ∧ (plus a b (-1)).f0 ≤ 100000) (h1 : -100000 ≤ (plus a b (-1)).f1 ∧ (plus a b (-1)).f1 ≤ 100000) (h2 : -100000 ≤ (plus a b (-1)).f2 ∧ (plus a b (-1)).f2 ≤ 100000) :
    Ev (fun k => impl_apart.f k a.f0 a.f1 a.f2 b.f0 b.f1 b.f2) (sizeM (plus a b (-1)).f0 (plus a b (-1)).f1 (plus a b (-1)).f2) := by
  have qa := sq_le _ 100000 h0.1 h0.2; have qb := sq_le _ 100000 h1.1 h1.2; have qc := sq_le _ 100000 h2.1 h2.2; unfold impl_apart.f; refine Ev.bindc (show impl_Shift_plus.f a.f0 a.f1 a.f2 b.f0 b.f1 b.f2 (-1) = some ((plus a b (-1)).f0, (plus a b (-1)).f1, (plus a b (-1)).f2) from rfl) ?_; generalize plus a b (-1) = d at *
  have e : wrap64 (wrap64 (wrap64 (d.f0 * d.f0) + wrap64 (d.f1 * d.f1)) + wrap64 (d.f2 * d.f2)) = d.f0 * d.f0 + d.f1 * d.f1 + d.f2 * d.f2 := by
    rw [w64 (x := d.f0 * d.f0) (by omega) (by omega), w64 (x := d.f1 * d.f1) (by omega) (by omega), w64 (x := d.f2 * d.f2) (by omega) (by omega), w64 (x := d.f0 * d.f0 + d.f1 * d.f1) (by omega) (by omega), w64 (by omega) (by omega)]
  have h := root_ev _ _ (by omega) (rootM_is (d.f0 * d.f0 + d.f1 * d.f1 + d.f2 * d.f2) (by omega) (by omega)); rw [← e] at h; refine Ev.bind h ?_; rw [e]; exact Ev.now _
end Go.Proofs.YtcafgpincnkcdaaDoor.Net
