/- The loop of a closing leg, as the reference finds it: the way over the tree legs, and the leg. -/
import Derived.Test.YtiooiefjcbooeaaDoorKFnExactWorstLoop0
import Derived.Test.YtiooiefjcbooeaaDoorKFnExactWorstLoop1
import Derived.Test.YtiooiefjcbooeaaDoorKFnExactWorstLoop2
import Derived.Test.YtiooiefjcbooeaaDoorKFnExactWorstLoop3
import Derived.Test.YtiooiefjcbooeaaDoorKFnExactWorstLoop4
import Derived.Test.YtiooiefjcbooeaaDoorKFnExactWorstLoopU1
/- The walk of the placing: the program's network holds the growth. -/
namespace Go.Proofs.YtiooiefjcbooeaaDoor.Net
open Go.RowKit Go.Proofs.YtiooiefjcbooeaaDoorW.PrintWords Go.Proofs.YtiooiefjcbooeaaDoorW.PrintLast Go.Proofs.YtiooiefjcbooeaaDoorW.PrintMore Go.Proofs.YtiooiefjcbooeaaDoor.A
open Go.Proofs.YtiooiefjcbooeaaDoor.Tree (verts legs)
open Go.Proofs.YtiooiefjcbooeaaDoor.Grow (Q sweep grow)
set_option linter.unusedVariables false
set_option linter.unusedSimpArgs false
/-- The closing legs among the first k legs. -/
def closeTo (ls : L) (R : Q) : Nat → List Int
  | 0 => []
  | k + 1 => if Pq R (leg ls k).f0.toNat = true ∧ Bq R k = false then closeTo ls R k ++ [(k : Int)] else closeTo ls R k
theorem closeTo_len (ls : L) (R : Q) : ∀ k, (closeTo ls R k).length ≤ k
  | 0 => by simp [closeTo]
  | k + 1 => by
    have := closeTo_len ls R k
    unfold closeTo
    split
    · simp; omega
    · omega
/-- What the placing hands back. -/
def Placed (ls : L) (R : Q) (w : World) (e : Ending) (w' : World) : Prop := ∃ g T cl, e = .returned (.pointer (some ⟨g, 0, none⟩)) ∧ St ls.length T g (Pq R) (Xq ls R) (Bq R) cl w' ∧ Kd.R (Kd.int .i64) 3 w' w.heap.size (fun k => k ≠ g ∧ k ≠ T) cl (closeTo ls R ls.length) ∧ Below w.heap.size w w'
/-- What holds at a round's head, with the rounds that are left. -/
def Left (ls : L) (R : Q) (k : Nat) (b : Bool) (q : Q) : Prop := Grow.Ok (ends ls) ls.length q ∧ (b = true → ∃ f, k = f + 1 ∧ 8 ≤ f + q.length ∧ grow (ends ls) ls.length f q = R) ∧ (b = false → q = R)
/-- What holds within a round, at leg k: the flag b, the growth p since q. -/
def Part (ls : L) (q : Q) (k : Nat) (b : Bool) (p : Q) : Prop := Grow.Ok (ends ls) ls.length p ∧ sweep (ends ls) (ls.length - k) k p = sweep (ends ls) ls.length 0 q ∧ q.length ≤ p.length ∧ b = decide (q.length < p.length)
theorem Part.start {ls : L} {q : Q} (h : Grow.Ok (ends ls) ls.length q) : Part ls q 0 false q := ⟨h, by simp, Nat.le_refl _, by simp⟩
theorem Part.next {ls : L} {q p : Q} {k : Nat} {b : Bool} (h : Part ls q k b p) (hk : k < ls.length) : Part ls q (k + 1) (decide (q.length < (Grow.step (ends ls) p k).length)) (Grow.step (ends ls) p k) := by
  obtain ⟨h1, h2, h3, h4⟩ := h
  refine ⟨h1.step _ (by omega) (by omega), ?_, Nat.le_trans h3 (Grow.step_len _ _ _), rfl⟩
  rw [← h2, show ls.length - k = (ls.length - (k + 1)) + 1 by omega]
  rfl
theorem Part.skip {ls : L} {q p : Q} {k a d : Nat} {b : Bool} (h : Part ls q k b p) (hk : k < ls.length) (he : ends ls k = ((a : Int), (d : Int))) (hs : Pq p a = Pq p d) : Part ls q (k + 1) b p := by
  have h' := h.next hk
  have e : Grow.step (ends ls) p k = p := by
    unfold Grow.step
    simp only [Pq, decide_eq_decide] at hs
    rw [he, if_neg (fun c => c.2 (hs.mp c.1)), if_neg (fun c => c.2 (hs.mpr c.1))]
  rw [e, ← h.2.2.2] at h'
  exact h'
theorem Part.fore {ls : L} {q p : Q} {k a d : Nat} {b : Bool} (h : Part ls q k b p) (hk : k < ls.length) (he : ends ls k = ((a : Int), (d : Int))) (ha : Pq p a = true) (hd : Pq p d = false) : Part ls q (k + 1) true ((k, a, d) :: p) := by
  have h' := h.next hk
  have e : Grow.step (ends ls) p k = ((k : Int), (a : Int), (d : Int)) :: p := by
    unfold Grow.step
    simp only [Pq, decide_eq_true_eq, decide_eq_false_iff_not] at ha hd
    rw [he, if_pos ⟨ha, hd⟩]
  have := h.2.2.1
  rw [e, decide_eq_true (by simp; omega)] at h'
  exact h'
theorem Part.back {ls : L} {q p : Q} {k a d : Nat} {b : Bool} (h : Part ls q k b p) (hk : k < ls.length) (he : ends ls k = ((a : Int), (d : Int))) (ha : Pq p a = false) (hd : Pq p d = true) : Part ls q (k + 1) true ((k, d, a) :: p) := by
  have h' := h.next hk
  have e : Grow.step (ends ls) p k = ((k : Int), (d : Int), (a : Int)) :: p := by
    unfold Grow.step
    simp only [Pq, decide_eq_true_eq, decide_eq_false_iff_not] at ha hd
    rw [he, if_neg (fun c => ha c.1), if_pos ⟨hd, ha⟩]
  have := h.2.2.1
  rw [e, decide_eq_true (by simp; omega)] at h'
  exact h'
theorem ends_range {ls : L} (hg : ∀ x ∈ ls, Good x) : ∀ i : Int, 0 ≤ i → i < ls.length → 0 ≤ (ends ls i).1 ∧ (ends ls i).1 < 8 ∧ 0 ≤ (ends ls i).2 ∧ (ends ls i).2 < 8 := by
  intro i h0 h1
  obtain ⟨k, rfl⟩ := Int.eq_ofNat_of_zero_le h0
  have h := hg (leg ls (k : Int)) (by
    unfold leg rd_T56
    rw [Int.toNat_natCast, List.getD_eq_getElem?_getD, List.getElem?_eq_getElem (show k < ls.length by omega)]
    exact List.getElem_mem _)
  exact ⟨h.1.1, h.1.2, h.2.1.1, h.2.1.2⟩
theorem Left.next {ls : L} (hg : ∀ x ∈ ls, Good x) {R q p : Q} {f : Nat} {b : Bool} (h : Left ls R (f + 1) true q) (hp : Part ls q ls.length b p) : Left ls R f b p := by
  obtain ⟨ok, h1, _⟩ := h
  obtain ⟨f', hf, h8, hR⟩ := h1 rfl
  obtain rfl : f = f' := by omega
  obtain ⟨okp, hs, hl, hb⟩ := hp
  rw [Nat.sub_self] at hs
  have hs : p = sweep (ends ls) ls.length 0 q := hs
  have h7 := ok.len _ (ends_range hg)
  obtain ⟨g, rfl⟩ : ∃ g, f = g + 1 := ⟨f - 1, by omega⟩
  rw [grow, ← hs] at hR
  refine ⟨okp, fun e => ?_, fun e => ?_⟩
  · rw [e] at hb
    have hb := of_decide_eq_true hb.symm
    rw [if_neg (by omega)] at hR
    exact ⟨g, rfl, by omega, hR⟩
  · rw [e] at hb
    have hb := of_decide_eq_false hb.symm
    rw [if_pos (by omega)] at hR
    have := (Grow.sweep_same (ends ls) (m := ls.length) (a := 0) (q := q) (by rw [← hs]; omega)).1
    rw [hs, this, hR]
theorem leg_mem {ls : L} {k : Nat} (h : k < ls.length) : rd_T56 ls (k : Int) ∈ ls := by
  unfold rd_T56
  rw [Int.toNat_natCast, List.getD_eq_getElem?_getD, List.getElem?_eq_getElem h]
  exact List.getElem_mem h
set_option maxHeartbeats 2000000 in
set_option maxRecDepth 100000 in
theorem place (A : Option Addr) (c : Nat) (ls : L) (w : World) (hL : Sine.Laid w) (hr0 : Kd.C k56 w A ls.length ls) (hc0 : ls.length ≤ c) (hn : ls.length ≤ 12) (hg : ∀ x ∈ ls, Good x) (R : Q) (hR : grow (ends ls) ls.length 8 [] = R) :
    Calls Tryd.prog 53 #[.slice A ls.length c] w (Placed ls R w) := by
  have HL := Aside0.mk hL
  have HR := Aside0.mk hr0
  have HG := Aside0.mk hg
  have HB := Aside0.mk (Below.refl w.heap.size w)
  have hmk := makeBools ls.length hn w
  have HS := Aside0.mk (St.start ls w)
  have HQ := Aside0.mk (show Left ls R 9 true [] from ⟨Grow.Ok.nil _ _, fun _ => ⟨8, rfl, by simp, hR⟩, fun h => by cases h⟩)
  clear hL hr0 hg hR
  go_enter Tryd.func53, Tryd.ntmps53
  go_wp2
  clear hmk
  go_loopg [4] 9 (fun kq v4 w' => ∃ (b : Bool) (q : Q), v4 = .bool b ∧ Aside0 (Left ls R kq b q) ∧ Aside0 (St ls.length w.heap.size (w.heap.size + 1) (Pq q) (Xq ls q) (Bq q) (.slice none 0 0) w') ∧ Aside0 (Below w.heap.size w w'))
  case atStart => exact ⟨true, [], rfl, HQ, HS, ⟨by repeat (first | exact HB.out | apply below_alloc | apply below_drew1)⟩⟩
  case round =>
    obtain ⟨b, q, rfl, HA, HS1, HB1⟩ := hrel
    clear HS HQ HB
    cases b with
    | false =>
      go_wp2
      have hq := HA.out.2.2 rfl
      subst hq
      go_loopw [101] (fun v101 w' => ∃ (k : Nat) (cl : Value), k ≤ ls.length ∧ v101 = .int .i64 k ∧ Aside0 (St ls.length w.heap.size (w.heap.size + 1) (Pq q) (Xq ls q) (Bq q) cl w') ∧ Aside0 (Kd.R (Kd.int .i64) 3 w' w.heap.size (fun k => k ≠ w.heap.size + 1 ∧ k ≠ w.heap.size) cl (closeTo ls q k)) ∧ Aside0 (Below w.heap.size w w')) (fun v101 _ => ls.length - (intOf v101).toNat)
      case atStart => exact ⟨0, .slice none 0 0, Nat.zero_le _, rfl, HS1, ⟨Kd.R_nil _ _ _ _ _⟩, HB1⟩
      case round =>
        obtain ⟨k, cl, hk, rfl, HS, HO, HB⟩ := hrel
        clear HS1 HB1
        by_cases hlt : k < ls.length
        · obtain ⟨_, e2, h0, h1, h2, h3, h4⟩ := at_T56 HR.out (k : Int) (by omega) (by omega)
          cases e2
          have HX : Aside0 (Good (leg ls (k : Int))) := ⟨HG.out _ (leg_mem hlt)⟩
          have ek : rd_T56 ls (k : Int) = leg ls k := rfl
          rw [Int.toNat_natCast] at h0 h1 h2 h3 h4
          rw [ek] at h0 h1 h2 h3 h4
          have HC := Aside0.mk (show closeTo ls q (k + 1) = if Pq q (leg ls k).f0.toNat = true ∧ Bq q k = false then closeTo ls q k ++ [(k : Int)] else closeTo ls q k from rfl)
          generalize leg ls (k : Int) = x at *
          obtain ⟨a, ha⟩ := Int.eq_ofNat_of_zero_le HX.out.1.1
          have ha8 : (a : Int) < 8 := by have := HX.out.1.2; omega
          rw [ha] at h0
          rw [ha, Int.toNat_natCast] at HC
          replace h0 := Sine.keepc h0 HB.out
          replace h1 := Sine.keepc h1 HB.out
          replace h2 := Sine.keepc h2 HB.out
          replace h3 := Sine.keepc h3 HB.out
          replace h4 := Sine.keepc h4 HB.out
          go_wp2
          have B1 := below_alloc (Below.refl wr.heap.size wr) (Obj.cells #[Value.int IntKind.i64 ↑a, Value.int IntKind.i64 x.f1, Value.int IntKind.i64 x.f2, Value.int IntKind.i64 x.f3, Value.int IntKind.i64 x.f4] 56)
          replace HB := Aside0.mk (below_step HB.out B1)
          replace HS := Aside0.mk (HS.out.keep B1)
          replace HO := Aside0.mk (Kd.R_alloc HO.out (Obj.cells #[Value.int IntKind.i64 ↑a, Value.int IntKind.i64 x.f1, Value.int IntKind.i64 x.f2, Value.int IntKind.i64 x.f3, Value.int IntKind.i64 x.f4] 56))
          clear B1 h0 h1 h2 h3 h4
          have h0 : (wr.alloc (Obj.cells #[Value.int IntKind.i64 ↑a, Value.int IntKind.i64 x.f1, Value.int IntKind.i64 x.f2, Value.int IntKind.i64 x.f3, Value.int IntKind.i64 x.f4] 56)).cell? ⟨wr.heap.size, 0, none⟩ = some (.int .i64 (a : Int)) := by go_simp
          generalize wr.alloc (Obj.cells #[Value.int IntKind.i64 ↑a, Value.int IntKind.i64 x.f1, Value.int IntKind.i64 x.f2, Value.int IntKind.i64 x.f3, Value.int IntKind.i64 x.f4] 56) = W1 at *
          generalize wr.heap.size = X at *
          have pa := HS.out.pb a (by omega)
          have tc := HS.out.tc
          have cc := HS.out.cc
          have zc := HS.out.fg 33
          have tk := HS.out.tb k hlt
          have k0 : (0 : Int) ≤ (k : Int) := by omega
          have k1 : (k : Int) < (ls.length : Int) := by omega
          by_cases hpa : Pq q a = true
          · rw [hpa] at pa
            by_cases hbk : Bq q k = true
            · rw [hbk] at tk
              go_quiet (fail)
              go_wp2
              exact ⟨⟨k + 1, cl, by omega, by go_num, ⟨HS.out.keep (pw_below_drewN (Below.refl _ _) _)⟩, ⟨by rw [HC.out, if_neg (by simp [hbk])]; exact Kd.R_drewN HO.out _⟩, ⟨pw_below_drewN HB.out _⟩⟩, by simp [intOf]; omega⟩
            · have hbk' : Bq q k = false := by simpa using hbk
              rw [hbk'] at tk
              have hTs : w.heap.size + 1 < W1.heap.size := World.block_lt_of_cell? _ _ tc
              have hcl := closeTo_len ls q k
              have HN1 : Aside0 (∀ b, cl.ownBlock = some b → b ≠ w.heap.size + 1 ∧ b ≠ w.heap.size) := ⟨HO.out.1⟩
              obtain ⟨cA, cC, ecl⟩ := Kd.R_slice HO.out
              subst ecl
              go_quiet (fail)
              go_wp2_with ((with_reducible refine gate_builtin (b := .append) (xs := #[.tmp 127, .tmp 129]) rfl ?_); at_builtin; refine Kd.R_append (Kd.int .i64) (w0 := w) w.heap.size rfl (.tmp 127) (.tmp 129) 38 3 (.int .i64 0) 8 rfl Tryd.underlying38 info3 rfl (by decide) (by omega) (.slice cA (closeTo ls q k).length cC) (closeTo ls q k) (k : Int) [.int .i64 (k : Int)] (fun b => b ≠ w.heap.size + 1 ∧ b ≠ w.heap.size) (fun _ => False) rfl rfl ?aP (fun _ hk => hk.elim) ?aF ?aO ?aB ?aS ?aL ?_
                           (case aP => exact rfl)
                           (case aF => intro b hb; simp only [World.heap_drewN] at hb; omega)
                           (case aO => exact Kd.R_drewN HO.out _)
                           (case aB => exact pw_below_drewN HB.out _)
                           (case aS => simp only [World.heap_drewN]; omega)
                           (case aL => omega)
                           intro v1 w1 ho hb hg hat
                           obtain ⟨A1, c1, ev1⟩ := Kd.R_slice ho
                           subst ev1
                           rw [show (closeTo ls q k ++ [(k : Int)]).length = (closeTo ls q k).length + 1 from by simp] at ho hat
                           have HS5 := Aside0.mk ((HS.out.keep (W := W1.drewN nq) (pw_below_drewN (Below.refl _ _) _)).blocks (W := w1) (hg.block _ (by simp only [World.heap_drewN]; omega) (fun e => (HN1.out _ e.symm).1 rfl)) (hg.block _ (by simp only [World.heap_drewN]; omega) (fun e => (HN1.out _ e.symm).2 rfl)) hg.size)
                           have HB5 := Aside0.mk hb
                           have HO5 := Aside0.mk ho
                           clear ho hb hg hat HO
                           have cc5 := HS5.out.cc
                           have zc5 := HS5.out.fg 33)
              exact ⟨⟨k + 1, _, by omega, by go_num, ⟨HS5.out.setC _⟩, ⟨by rw [HC.out, if_pos ⟨hpa, hbk'⟩]; exact Kd.R_far HO5.out (p := ⟨w.heap.size + 1, 33, none⟩) (fun b hb => hb.1) _⟩, ⟨below_set HB5.out (by omega)⟩⟩, by simp [intOf]; omega⟩
          · have hpa' : Pq q a = false := by simpa using hpa
            rw [hpa'] at pa
            go_quiet (fail)
            go_wp2
            exact ⟨⟨k + 1, cl, by omega, by go_num, ⟨HS.out.keep (pw_below_drewN (Below.refl _ _) _)⟩, ⟨by rw [HC.out, if_neg (by simp [hpa'])]; exact Kd.R_drewN HO.out _⟩, ⟨pw_below_drewN HB.out _⟩⟩, by simp [intOf]; omega⟩
        · obtain rfl : k = ls.length := by omega
          go_wp2
          go_ret
          exact ⟨_, _, cl, rfl, HS.out, HO.out, HB.out⟩
    | true =>
      go_wp2
      go_loopw [4, 21] (fun v4 v21 w' => ∃ (k : Nat) (b : Bool) (p : Q), k ≤ ls.length ∧ v4 = .bool b ∧ v21 = .int .i64 k ∧ Aside0 (Part ls q k b p) ∧ Aside0 (St ls.length w.heap.size (w.heap.size + 1) (Pq p) (Xq ls p) (Bq p) (.slice none 0 0) w') ∧ Aside0 (Below w.heap.size w w')) (fun _ v21 _ => ls.length - (intOf v21).toNat)
      case atStart => exact ⟨0, false, q, Nat.zero_le _, rfl, rfl, ⟨Part.start HA.out.1⟩, HS1, HB1⟩
      case round =>
        obtain ⟨k, b, p, hk, rfl, rfl, HP, HS, HB⟩ := hrel
        clear HS1 HB1
        by_cases hlt : k < ls.length
        · obtain ⟨_, e2, h0, h1, h2, h3, h4⟩ := at_T56 HR.out (k : Int) (by omega) (by omega)
          cases e2
          have HX : Aside0 (Good (leg ls (k : Int))) := ⟨HG.out _ (leg_mem hlt)⟩
          have ek : rd_T56 ls (k : Int) = leg ls k := rfl
          have HE := Aside0.mk (show ends ls k = ((leg ls k).f0, (leg ls k).f1) from rfl)
          rw [Int.toNat_natCast] at h0 h1 h2 h3 h4
          rw [ek] at h0 h1 h2 h3 h4
          generalize hxe : leg ls (k : Int) = x at *
          have HXE := Aside0.mk hxe
          clear hxe ek
          obtain ⟨a, ha⟩ := Int.eq_ofNat_of_zero_le HX.out.1.1
          obtain ⟨d, hd⟩ := Int.eq_ofNat_of_zero_le HX.out.2.1.1
          have ha8 : (a : Int) < 8 := by have := HX.out.1.2; omega
          have hd8 : (d : Int) < 8 := by have := HX.out.2.1.2; omega
          have had := HX.out.2.2.1
          rw [ha, hd] at had
          have LS := fun W (hl : Sine.Laid W) => legShift x W hl HX.out
          rw [ha, hd] at LS
          have HLS := Aside0.mk LS
          clear LS
          rw [ha] at h0 HE
          rw [hd] at h1 HE
          replace h0 := Sine.keepc h0 HB.out
          replace h1 := Sine.keepc h1 HB.out
          replace h2 := Sine.keepc h2 HB.out
          replace h3 := Sine.keepc h3 HB.out
          replace h4 := Sine.keepc h4 HB.out
          go_wp2
          have B1 := below_alloc (Below.refl wr.heap.size wr) (Obj.cells #[Value.int IntKind.i64 ↑a, Value.int IntKind.i64 ↑d, Value.int IntKind.i64 x.f2, Value.int IntKind.i64 x.f3, Value.int IntKind.i64 x.f4] 56)
          replace HB := Aside0.mk (below_step HB.out B1)
          have HSo := HS
          replace HS := Aside0.mk (HS.out.keep B1)
          clear B1 h0 h1 h2 h3 h4
          have h0 : (wr.alloc (Obj.cells #[Value.int IntKind.i64 ↑a, Value.int IntKind.i64 ↑d, Value.int IntKind.i64 x.f2, Value.int IntKind.i64 x.f3, Value.int IntKind.i64 x.f4] 56)).cell? ⟨wr.heap.size, 0, none⟩ = some (.int .i64 (a : Int)) := by go_simp
          have h1 : (wr.alloc (Obj.cells #[Value.int IntKind.i64 ↑a, Value.int IntKind.i64 ↑d, Value.int IntKind.i64 x.f2, Value.int IntKind.i64 x.f3, Value.int IntKind.i64 x.f4] 56)).cell? ⟨wr.heap.size, 1, none⟩ = some (.int .i64 (d : Int)) := by go_simp
          have h2 : (wr.alloc (Obj.cells #[Value.int IntKind.i64 ↑a, Value.int IntKind.i64 ↑d, Value.int IntKind.i64 x.f2, Value.int IntKind.i64 x.f3, Value.int IntKind.i64 x.f4] 56)).cell? ⟨wr.heap.size, 2, none⟩ = some (.int .i64 x.f2) := by go_simp
          have h3 : (wr.alloc (Obj.cells #[Value.int IntKind.i64 ↑a, Value.int IntKind.i64 ↑d, Value.int IntKind.i64 x.f2, Value.int IntKind.i64 x.f3, Value.int IntKind.i64 x.f4] 56)).cell? ⟨wr.heap.size, 3, none⟩ = some (.int .i64 x.f3) := by go_simp
          have h4 : (wr.alloc (Obj.cells #[Value.int IntKind.i64 ↑a, Value.int IntKind.i64 ↑d, Value.int IntKind.i64 x.f2, Value.int IntKind.i64 x.f3, Value.int IntKind.i64 x.f4] 56)).cell? ⟨wr.heap.size, 4, none⟩ = some (.int .i64 x.f4) := by go_simp
          generalize wr.alloc (Obj.cells #[Value.int IntKind.i64 ↑a, Value.int IntKind.i64 ↑d, Value.int IntKind.i64 x.f2, Value.int IntKind.i64 x.f3, Value.int IntKind.i64 x.f4] 56) = W1 at *
          have hgX : w.heap.size + 1 ≠ wr.heap.size := fun e => by have := World.block_lt_of_cell? _ _ HSo.out.tc; simp only at this; omega
          clear HSo
          generalize wr.heap.size = X at *
          have pa := HS.out.pb a (by omega)
          have pd := HS.out.pb d (by omega)
          by_cases hpa : Pq p a = true
          · rw [hpa] at pa
            by_cases hpd : Pq p d = true
            · rw [hpd] at pd
              go_quiet (fail)
              go_wp2
              exact ⟨⟨k + 1, b, p, by omega, rfl, by go_num, ⟨HP.out.skip hlt HE.out (hpa.trans hpd.symm)⟩, ⟨HS.out.keep (pw_below_drewN (Below.refl _ _) _)⟩, ⟨pw_below_drewN HB.out _⟩⟩, by simp [intOf]; omega⟩
            · have hpd' : Pq p d = false := by simpa using hpd
              rw [hpd'] at pd
              have x0 := HS.out.px a (by omega)
              have x1 := HS.out.py a (by omega)
              have x2 := HS.out.pz a (by omega)
              have y0 := HS.out.px d (by omega)
              have y1 := HS.out.py d (by omega)
              have y2 := HS.out.pz d (by omega)
              go_quiet (fail)
              go_wp2
              go_quiet (fail)
              go_wp2_with fail
              go_region_held3 (fun w' => w'.cell? ⟨X, 0, none⟩ = some (.int .i64 (a : Int)) ∧ w'.cell? ⟨X, 1, none⟩ = some (.int .i64 (d : Int)) ∧ w'.cell? ⟨X, 2, none⟩ = some (.int .i64 x.f2) ∧ w'.cell? ⟨X, 3, none⟩ = some (.int .i64 x.f3) ∧ w'.cell? ⟨X, 4, none⟩ = some (.int .i64 x.f4)
                  ∧ w'.cell? ⟨w.heap.size + 1, 8 + a * 3, none⟩ = some (.int .i64 (Xq ls p a).f0) ∧ w'.cell? ⟨w.heap.size + 1, 8 + a * 3 + 1, none⟩ = some (.int .i64 (Xq ls p a).f1) ∧ w'.cell? ⟨w.heap.size + 1, 8 + a * 3 + 2, none⟩ = some (.int .i64 (Xq ls p a).f2))
                ((repeat' refine And.intro ?_ ?_) <;> first
                  | ((with_reducible refine far (far (far ?_ ?_) ?_) ?_) <;> first | exact blkne hgX | exact offne (by omega) | exact Sine.keepc (w := W1) (by assumption) (by (repeat (first | exact Below.refl _ _ | apply pw_below_drewN | apply below_drew1 | exact HB.out | refine below_step ?_ (by assumption))); done))
                  | exact Sine.keepc (w := W1) (by assumption) (by (repeat (first | exact Below.refl _ _ | apply pw_below_drewN | apply below_drew1 | exact HB.out | refine below_step ?_ (by assumption))); done))
                (first
                  | (go_at_call 92; (with_reducible refine (HLS.out _ ?s1).mono ?_); (case s1 => exact HL.out.keep (by (repeat (first | exact Below.refl _ _ | apply pw_below_drewN | apply below_drew1 | exact HB.out | refine below_step ?_ (by assumption))); done)); rintro e w' ⟨rfl, hw1⟩)
                  | (go_at_call 91; (with_reducible refine (shiftPlus (Xq ls p a) (shift x) 1 _).mono ?_); rintro e w' ⟨rfl, hw2⟩
                     have HS2 := Aside0.mk (HS.out.keep (W := w') (by (repeat (first | exact Below.refl _ _ | apply pw_below_drewN | apply below_drew1 | exact HB.out | refine below_step ?_ (by assumption))); done))
                     have HB2 : Aside0 (Below w.heap.size w w') := ⟨by (repeat (first | exact Below.refl _ _ | apply pw_below_drewN | apply below_drew1 | exact HB.out | refine below_step ?_ (by assumption))); done⟩
                     have y0 := HS2.out.px d (by omega)
                     have y1 := HS2.out.py d (by omega)
                     have y2 := HS2.out.pz d (by omega)
                     have z0 := HS2.out.fg (8 + d * 3)
                     have z1 := HS2.out.fg (8 + d * 3 + 1)
                     have z2 := HS2.out.fg (8 + d * 3 + 2)))
              have h1' := far (far (far (Sine.keepc (w := W1) h1 (show Below W1.heap.size W1 w' from by (repeat (first | exact Below.refl _ _ | apply pw_below_drewN | apply below_drew1 | exact HB.out | refine below_step ?_ (by assumption))); done)) (v := .int .i64 (plus (Xq ls p a) (shift x) 1).f0) (blkne (i := 8 + d * 3) hgX)) (v := .int .i64 (plus (Xq ls p a) (shift x) 1).f1) (blkne (i := 8 + d * 3 + 1) hgX)) (v := .int .i64 (plus (Xq ls p a) (shift x) 1).f2) (blkne (i := 8 + d * 3 + 2) hgX)
              have HS3 := Aside0.mk (HS2.out.setX (s := d) (by omega) (plus (Xq ls p a) (shift x) 1))
              have HB3 := Aside0.mk (below_set (below_set (below_set HB2.out (j := 8 + d * 3) (v := .int .i64 (plus (Xq ls p a) (shift x) 1).f0) (g := w.heap.size + 1) (by omega)) (j := 8 + d * 3 + 1) (v := .int .i64 (plus (Xq ls p a) (shift x) 1).f1) (g := w.heap.size + 1) (by omega)) (j := 8 + d * 3 + 2) (v := .int .i64 (plus (Xq ls p a) (shift x) 1).f2) (g := w.heap.size + 1) (by omega))
              clear HS2 HB2 y0 y1 y2 z0 z1 z2 x0 x1 x2 h0 h1 h2 h3 h4 pa pd
              generalize ((w'.setCell { block := w.heap.size + 1, off := 8 + d * 3 } (Value.int IntKind.i64 (plus (Xq ls p a) (shift x) 1).f0)).setCell { block := w.heap.size + 1, off := 8 + d * 3 + 1 } (Value.int IntKind.i64 (plus (Xq ls p a) (shift x) 1).f1)).setCell { block := w.heap.size + 1, off := 8 + d * 3 + 2 } (Value.int IntKind.i64 (plus (Xq ls p a) (shift x) 1).f2) = W3 at *
              have pd := HS3.out.pb d (by omega)
              have zd := HS3.out.fg d
              go_wp2_with fail
              go_region_held3 (fun w' => w'.cell? ⟨X, 1, none⟩ = some (.int .i64 (d : Int)))
                (first
                  | ((with_reducible refine cdrew (far ?_ ?_)) <;> first | exact blkne hgX | exact h1')
                  | exact Sine.keepc (w := W3) h1' (by (repeat (first | exact Below.refl _ _ | apply pw_below_drewN | apply below_drew1 | exact HB.out | refine below_step ?_ (by assumption))); done))
                (first | fail)
              have HS4 := Aside0.mk (HS3.out.setP (s := d) (by omega)).drew
              have HB4 := Aside0.mk (below_drew1 (below_set HB3.out (j := d) (v := .bool true) (g := w.heap.size + 1) (by omega)))
              clear HS3 HB3 pd zd h1'
              generalize (W3.setCell { block := w.heap.size + 1, off := d } (Value.bool true)).drew = W4 at *
              have tc := HS4.out.tc
              have tk := HS4.out.tb k hlt
              have zk := HS4.out.ft k
              have k0 : (0 : Int) ≤ (k : Int) := by omega
              have k1 : (k : Int) < (ls.length : Int) := by omega
              go_wp2
              exact ⟨⟨k + 1, true, ((k : Int), (a : Int), (d : Int)) :: p, by omega, rfl, by go_num, ⟨HP.out.fore hlt HE.out hpa hpd'⟩, ⟨(HS4.out.setB hlt).congr (fun s _ => Pq_cons k a d s p) (fun s _ => Xq_fore HE.out HXE.out s) (fun i _ => Bq_cons k a d i p)⟩, ⟨below_set HB4.out (by omega)⟩⟩, by simp [intOf]; omega⟩
          · have hpa' : Pq p a = false := by simpa using hpa
            rw [hpa'] at pa
            by_cases hpd : Pq p d = true
            · rw [hpd] at pd
              have x0 := HS.out.px d (by omega)
              have x1 := HS.out.py d (by omega)
              have x2 := HS.out.pz d (by omega)
              have y0 := HS.out.px a (by omega)
              have y1 := HS.out.py a (by omega)
              have y2 := HS.out.pz a (by omega)
              go_quiet (fail)
              go_wp2
              go_quiet (fail)
              go_wp2_with fail
              go_region_held3 (fun w' => w'.cell? ⟨X, 0, none⟩ = some (.int .i64 (a : Int)) ∧ w'.cell? ⟨X, 1, none⟩ = some (.int .i64 (d : Int)) ∧ w'.cell? ⟨X, 2, none⟩ = some (.int .i64 x.f2) ∧ w'.cell? ⟨X, 3, none⟩ = some (.int .i64 x.f3) ∧ w'.cell? ⟨X, 4, none⟩ = some (.int .i64 x.f4)
                  ∧ w'.cell? ⟨w.heap.size + 1, 8 + d * 3, none⟩ = some (.int .i64 (Xq ls p d).f0) ∧ w'.cell? ⟨w.heap.size + 1, 8 + d * 3 + 1, none⟩ = some (.int .i64 (Xq ls p d).f1) ∧ w'.cell? ⟨w.heap.size + 1, 8 + d * 3 + 2, none⟩ = some (.int .i64 (Xq ls p d).f2))
                ((repeat' refine And.intro ?_ ?_) <;> first
                  | ((with_reducible refine far (far (far ?_ ?_) ?_) ?_) <;> first | exact blkne hgX | exact offne (by omega) | exact Sine.keepc (w := W1) (by assumption) (by (repeat (first | exact Below.refl _ _ | apply pw_below_drewN | apply below_drew1 | exact HB.out | refine below_step ?_ (by assumption))); done))
                  | exact Sine.keepc (w := W1) (by assumption) (by (repeat (first | exact Below.refl _ _ | apply pw_below_drewN | apply below_drew1 | exact HB.out | refine below_step ?_ (by assumption))); done))
                (first
                  | (go_at_call 92; (with_reducible refine (HLS.out _ ?s1).mono ?_); (case s1 => exact HL.out.keep (by (repeat (first | exact Below.refl _ _ | apply pw_below_drewN | apply below_drew1 | exact HB.out | refine below_step ?_ (by assumption))); done)); rintro e w' ⟨rfl, hw1⟩)
                  | (go_at_call 91; (with_reducible refine (shiftPlus (Xq ls p d) (shift x) (-1) _).mono ?_); rintro e w' ⟨rfl, hw2⟩
                     have HS2 := Aside0.mk (HS.out.keep (W := w') (by (repeat (first | exact Below.refl _ _ | apply pw_below_drewN | apply below_drew1 | exact HB.out | refine below_step ?_ (by assumption))); done))
                     have HB2 : Aside0 (Below w.heap.size w w') := ⟨by (repeat (first | exact Below.refl _ _ | apply pw_below_drewN | apply below_drew1 | exact HB.out | refine below_step ?_ (by assumption))); done⟩
                     have y0 := HS2.out.px a (by omega)
                     have y1 := HS2.out.py a (by omega)
                     have y2 := HS2.out.pz a (by omega)
                     have z0 := HS2.out.fg (8 + a * 3)
                     have z1 := HS2.out.fg (8 + a * 3 + 1)
                     have z2 := HS2.out.fg (8 + a * 3 + 2)))
              have h0' := far (far (far (Sine.keepc (w := W1) h0 (show Below W1.heap.size W1 w' from by (repeat (first | exact Below.refl _ _ | apply pw_below_drewN | apply below_drew1 | exact HB.out | refine below_step ?_ (by assumption))); done)) (v := .int .i64 (plus (Xq ls p d) (shift x) (-1)).f0) (blkne (i := 8 + a * 3) hgX)) (v := .int .i64 (plus (Xq ls p d) (shift x) (-1)).f1) (blkne (i := 8 + a * 3 + 1) hgX)) (v := .int .i64 (plus (Xq ls p d) (shift x) (-1)).f2) (blkne (i := 8 + a * 3 + 2) hgX)
              have HS3 := Aside0.mk (HS2.out.setX (s := a) (by omega) (plus (Xq ls p d) (shift x) (-1)))
              have HB3 := Aside0.mk (below_set (below_set (below_set HB2.out (j := 8 + a * 3) (v := .int .i64 (plus (Xq ls p d) (shift x) (-1)).f0) (g := w.heap.size + 1) (by omega)) (j := 8 + a * 3 + 1) (v := .int .i64 (plus (Xq ls p d) (shift x) (-1)).f1) (g := w.heap.size + 1) (by omega)) (j := 8 + a * 3 + 2) (v := .int .i64 (plus (Xq ls p d) (shift x) (-1)).f2) (g := w.heap.size + 1) (by omega))
              clear HS2 HB2 y0 y1 y2 z0 z1 z2 x0 x1 x2 h0 h1 h2 h3 h4 pd pa
              generalize ((w'.setCell { block := w.heap.size + 1, off := 8 + a * 3 } (Value.int IntKind.i64 (plus (Xq ls p d) (shift x) (-1)).f0)).setCell { block := w.heap.size + 1, off := 8 + a * 3 + 1 } (Value.int IntKind.i64 (plus (Xq ls p d) (shift x) (-1)).f1)).setCell { block := w.heap.size + 1, off := 8 + a * 3 + 2 } (Value.int IntKind.i64 (plus (Xq ls p d) (shift x) (-1)).f2) = W3 at *
              have pa := HS3.out.pb a (by omega)
              have zd := HS3.out.fg a
              go_wp2_with fail
              go_region_held3 (fun w' => w'.cell? ⟨X, 0, none⟩ = some (.int .i64 (a : Int)))
                (first
                  | ((with_reducible refine cdrew (far ?_ ?_)) <;> first | exact blkne hgX | exact h0')
                  | exact Sine.keepc (w := W3) h0' (by (repeat (first | exact Below.refl _ _ | apply pw_below_drewN | apply below_drew1 | exact HB.out | refine below_step ?_ (by assumption))); done))
                (first | fail)
              have HS4 := Aside0.mk (HS3.out.setP (s := a) (by omega)).drew
              have HB4 := Aside0.mk (below_drew1 (below_set HB3.out (j := a) (v := .bool true) (g := w.heap.size + 1) (by omega)))
              clear HS3 HB3 pa zd h0'
              generalize (W3.setCell { block := w.heap.size + 1, off := a } (Value.bool true)).drew = W4 at *
              have tc := HS4.out.tc
              have tk := HS4.out.tb k hlt
              have zk := HS4.out.ft k
              have k0 : (0 : Int) ≤ (k : Int) := by omega
              have k1 : (k : Int) < (ls.length : Int) := by omega
              go_wp2
              exact ⟨⟨k + 1, true, ((k : Int), (d : Int), (a : Int)) :: p, by omega, rfl, by go_num, ⟨HP.out.back hlt HE.out hpa' hpd⟩, ⟨(HS4.out.setB hlt).congr (fun s _ => Pq_cons k d a s p) (fun s _ => Xq_back HE.out had HXE.out s) (fun i _ => Bq_cons k d a i p)⟩, ⟨below_set HB4.out (by omega)⟩⟩, by simp [intOf]; omega⟩
            · have hpd' : Pq p d = false := by simpa using hpd
              rw [hpd'] at pd
              go_quiet (fail)
              go_wp2
              exact ⟨⟨k + 1, b, p, by omega, rfl, by go_num, ⟨HP.out.skip hlt HE.out (hpa'.trans hpd'.symm)⟩, ⟨HS.out.keep (pw_below_drewN (Below.refl _ _) _)⟩, ⟨pw_below_drewN HB.out _⟩⟩, by simp [intOf]; omega⟩
        · obtain rfl : k = ls.length := by omega
          go_wp2
          obtain ⟨f, hf, _⟩ := HA.out.2.1 rfl
          subst hf
          have HN := Aside0.mk (HA.out.next HG.out HP.out)
          go_roundg f
          case measure => omega
          case rel => exact ⟨b, p, rfl, HN, HS, HB⟩
end Go.Proofs.YtiooiefjcbooeaaDoor.Net

/- The reference's network, in plain: membership, putting into an ascending list, the shift of a leg, the placing. Conditions: valid legs. -/
namespace Go.Proofs.YtiooiefjcbooeaaDoor.Net
open Go.RowKit Go.Proofs.YtiooiefjcbooeaaDoorW.PrintWords Go.Proofs.YtiooiefjcbooeaaDoorW.PrintLast Go.Proofs.YtiooiefjcbooeaaDoorW.PrintMore Go.Proofs.YtiooiefjcbooeaaDoor.A Go.Proofs.YtiooiefjcbooeaaDoor.Plain
open Go.Proofs.YtiooiefjcbooeaaDoor.Tree (verts legs)
open Go.Proofs.YtiooiefjcbooeaaDoor.Grow (Q sweep grow)
set_option linter.unusedVariables false
set_option linter.unusedSimpArgs false
theorem Ev.step_ge {α : Type} {g f : Nat → Option α} {r : α} (N : Nat) (h : ∀ k, N ≤ k → g (k + 1) = f k) (k : Ev f r) : Ev g r := by
  obtain ⟨K, hK⟩ := k
  refine ⟨max N K + 1, fun m hm => ?_⟩
  obtain ⟨m, rfl⟩ : ∃ x, m = x + 1 := ⟨m - 1, by omega⟩
  rw [h m (by omega)]
  exact hK m (by omega)
theorem has_loop (l : List Int) (n : Int) (hl : l.length ≤ 1000000) : ∀ (d i k : Nat), i + d = l.length → d < k → spec_l1Has.l0 k l n (i : Int) = some (decide (n ∈ l.drop i)) := by
  intro d
  induction d with
  | zero =>
    intro i k hi hk
    obtain ⟨k, rfl⟩ : ∃ m, k = m + 1 := ⟨k - 1, by omega⟩
    simp only [spec_l1Has.l0]
    rw [if_neg (by omega), List.drop_eq_nil_of_le (by omega)]
    simp
  | succ d ih =>
    intro i k hi hk
    obtain ⟨k, rfl⟩ : ∃ m, k = m + 1 := ⟨k - 1, by omega⟩
    have hlt : i < l.length := by omega
    have er : rd l (i : Int) = l[i] := by
      unfold rd
      rw [Int.toNat_natCast, List.getD_eq_getElem?_getD, List.getElem?_eq_getElem hlt]
      rfl
    have e : wrap64 ((i : Int) + 1) = ((i + 1 : Nat) : Int) := by rw [w64 (by omega) (by omega)]; omega
    rw [List.drop_eq_getElem_cons hlt]
    simp only [spec_l1Has.l0]
    by_cases hc : l[i] = n
    · rw [if_pos (by omega), if_pos (by omega), er, if_pos hc, hc]
      simp
    · have hd : decide (n ∈ l[i] :: l.drop (i + 1)) = decide (n ∈ l.drop (i + 1)) := by rw [decide_eq_decide, List.mem_cons]; exact ⟨fun h => h.resolve_left (fun e => hc e.symm), Or.inr⟩
      rw [if_pos (by omega), if_pos (by omega), er, if_neg hc, e, hd]
      exact ih (i + 1) k (by omega) (by omega)
theorem has_at (l : List Int) (n : Int) (hl : l.length ≤ 1000000) (k : Nat) (hk : l.length < k) : spec_l1Has.f k l n = some (decide (n ∈ l)) := has_loop l n hl l.length 0 k (by omega) hk
theorem put_split (n : Int) : ∀ (p s : List Int), (∀ x ∈ p, x < n) → (∀ y ∈ s.head?, n < y) → Sort.put (p ++ s) n = p ++ n :: s
  | [], [], _, _ => rfl
  | [], y :: s, _, h => by
    have := h y rfl
    simp only [List.nil_append, Sort.put]
    rw [if_neg (by omega), if_neg (by omega)]
  | x :: p, s, h, hs => by
    have := h x List.mem_cons_self
    simp only [List.cons_append, Sort.put]
    rw [if_pos this, put_split n p s (fun x hx => h x (List.mem_cons_of_mem _ hx)) hs]
theorem put_loop (l : List Int) (n : Int) (hl : l.length ≤ 1000000) (ha : Sort.Asc l) (hn : n ∉ l) : ∀ (d i k : Nat), i + d = l.length → d < k → (∀ x ∈ l.take i, x < n) → spec_l1Put.l0 k l n (i : Int) = some (Sort.put l n) := by
  intro d
  induction d with
  | zero =>
    intro i k hi hk h
    obtain ⟨k, rfl⟩ : ∃ m, k = m + 1 := ⟨k - 1, by omega⟩
    have e1 : Sort.put l n = l.take i ++ n :: l.drop i := by
      have := put_split n (l.take i) (l.drop i) h (by rw [List.drop_eq_nil_of_le (by omega)]; simp)
      rwa [List.take_append_drop] at this
    simp only [spec_l1Put.l0]
    rw [if_neg (by omega)]
    simp only [Option.bind_some, Int.toNat_natCast]
    rw [if_pos (by omega), if_pos (by omega), if_pos (by simp; omega), if_pos (by simp; omega), if_pos (by simp; omega), e1]
    simp
  | succ d ih =>
    intro i k hi hk h
    obtain ⟨k, rfl⟩ : ∃ m, k = m + 1 := ⟨k - 1, by omega⟩
    have hlt : i < l.length := by omega
    have er : rd l (i : Int) = l[i] := by
      unfold rd
      rw [Int.toNat_natCast, List.getD_eq_getElem?_getD, List.getElem?_eq_getElem hlt]
      rfl
    have e : wrap64 ((i : Int) + 1) = ((i + 1 : Nat) : Int) := by rw [w64 (by omega) (by omega)]; omega
    have hne : l[i] ≠ n := fun e => hn (e ▸ List.getElem_mem hlt)
    by_cases hc : l[i] < n
    · simp only [spec_l1Put.l0]
      rw [if_pos (by omega), if_pos (by omega), er, if_pos hc, e]
      refine ih (i + 1) k (by omega) (by omega) (fun x hx => ?_)
      · rw [List.take_succ_eq_append_getElem hlt, List.mem_append, List.mem_singleton] at hx
        rcases hx with hx | rfl
        · exact h x hx
        · exact hc
    · have e1 : Sort.put l n = l.take i ++ n :: l.drop i := by
        have := put_split n (l.take i) (l.drop i) h (by
          rw [List.drop_eq_getElem_cons hlt]
          intro y hy
          simp only [List.head?_cons, Option.mem_def, Option.some.injEq] at hy
          omega)
        rwa [List.take_append_drop] at this
      simp only [spec_l1Put.l0]
      rw [if_pos (by omega), if_pos (by omega), er, if_neg hc, if_neg hne]
      simp only [Option.bind_some, Int.toNat_natCast]
      rw [if_pos (by omega), if_pos (by simp; omega), if_pos (by simp; omega), if_pos (by simp; omega), e1]
      simp
theorem put_at (l : List Int) (n : Int) (hl : l.length ≤ 1000000) (ha : Sort.Asc l) (hn : n ∉ l) (k : Nat) (hk : l.length < k) : spec_l1Put.f k l n = some (Sort.put l n) := put_loop l n hl ha hn l.length 0 k (by omega) hk (by simp)
/-! ### The shift -/
theorem div_eq (a : Int) (h0 : -1000000000 ≤ a) (h1 : a ≤ 1000000000) : spec_l2Div.f a 1000 = some (rnd a) := by
  unfold spec_l2Div.f rnd
  have e2 : wrap64 (2 * 1000) = 2000 := by unfold wrap64; omega
  by_cases h : a < 0
  · have e1 : wrap64 ((-2) * a) = 2 * (-a) := by unfold wrap64; omega
    have e3 : wrap64 (2 * (-a) + 1000) = 2 * (-a) + 1000 := by unfold wrap64; omega
    have e4 : Int.tdiv (2 * (-a) + 1000) 2000 = (2 * (-a) + 1000) / 2000 := Int.tdiv_eq_ediv_of_nonneg (by omega)
    have e5 : wrap64 ((2 * (-a) + 1000) / 2000) = (2 * (-a) + 1000) / 2000 := by unfold wrap64; omega
    have e6 : wrap64 (-((2 * (-a) + 1000) / 2000)) = -((2 * (-a) + 1000) / 2000) := by unfold wrap64; omega
    rw [if_pos h, e2, if_neg (by decide), e1, e3, e4, e5, e6, if_pos h]
  · have e1 : wrap64 (2 * a) = 2 * a := by unfold wrap64; omega
    have e3 : wrap64 (2 * a + 1000) = 2 * a + 1000 := by unfold wrap64; omega
    have e4 : Int.tdiv (2 * a + 1000) 2000 = (2 * a + 1000) / 2000 := Int.tdiv_eq_ediv_of_nonneg (by omega)
    have e5 : wrap64 ((2 * a + 1000) / 2000) = (2 * a + 1000) / 2000 := by unfold wrap64; omega
    rw [if_neg h, e2, if_neg (by decide), e1, e3, e4, e5, if_neg h]
theorem table_eq : spec_l2Table.f = some Sine.tab := rfl
theorem sine_eq (a : Int) (h0 : -1000000 ≤ a) (h1 : a ≤ 1000000) : spec_l2Sine.f a = some (Sine.f a) := by
  have hm : Int.tmod (wrap64 (Int.tmod a 360 + 360)) 360 = a % 360 := by
    have e0 : Int.tmod a 360 = a % 360 ∨ Int.tmod a 360 = a % 360 - 360 := by
      rw [Int.tmod_eq_emod]
      split
      · left; omega
      · right; simp
    have e1 : wrap64 (Int.tmod a 360 + 360) = Int.tmod a 360 + 360 := by unfold wrap64; omega
    rw [e1, Int.tmod_eq_emod_of_nonneg (by omega)]
    omega
  unfold spec_l2Sine.f Sine.f
  simp only [hm]
  have g0 : 0 ≤ a % 360 := by omega
  have g1 : a % 360 < 360 := by omega
  generalize a % 360 = d at *
  have hlen : (Sine.tab.length : Int) = 91 := rfl
  have w1 : wrap64 (180 - d) = 180 - d := by unfold wrap64; omega
  have w2 : wrap64 (d - 180) = d - 180 := by unfold wrap64; omega
  have w3 : wrap64 (360 - d) = 360 - d := by unfold wrap64; omega
  have hb : ∀ i : Nat, wrap64 (-(Sine.tab.getD i 0)) = -(Sine.tab.getD i 0) := fun i => by have := Sine.getD_bound i; unfold wrap64; omega
  by_cases c1 : d ≤ 90
  · rw [if_pos c1, table_eq, Option.bind_some, if_pos g0, if_pos (by omega), if_pos (by omega)]
    unfold Sine.s rd
    rw [if_pos c1]
  · rw [if_neg c1]
    by_cases c2 : d ≤ 180
    · rw [if_pos c2, table_eq, Option.bind_some, w1, if_pos (by omega), if_pos (by omega), if_pos c2]
      unfold Sine.s rd
      rw [if_neg c1]
    · rw [if_neg c2, if_neg c2]
      by_cases c3 : d ≤ 270
      · rw [if_pos c3, table_eq, Option.bind_some, w2, if_pos (by omega), if_pos (by omega)]
        unfold Sine.s rd
        rw [if_pos (by omega), hb]
      · rw [if_neg c3, table_eq, Option.bind_some, w3, if_pos (by omega), if_pos (by omega)]
        unfold Sine.s rd
        rw [if_neg (by omega), hb, show 180 - (d - 180) = 360 - d by omega]
theorem cosine_eq (a : Int) (h0 : -100000 ≤ a) (h1 : a ≤ 100000) : spec_l2Cosine.f a = some (Sine.f (a + 90)) := by
  unfold spec_l2Cosine.f
  rw [w64 (by omega) (by omega), sine_eq _ (by omega) (by omega)]
  rfl
theorem shift_eq (x : S56) (h : Good x) : spec_l4Shift.f x.f0 x.f1 x.f2 x.f3 x.f4 = some ((shift x).f0, (shift x).f1, (shift x).f2) := by
  obtain ⟨_, _, _, h2, h3, h4⟩ := h
  have a := part_bound x.f2 x.f4 500 (by omega) (by omega)
  have p1 := prod_bound x.f2 (x.f4 + 90) (by omega) (by omega)
  have p2 := prod_bound x.f2 x.f4 (by omega) (by omega)
  have p3 := prod_bound (part x.f2 x.f4).1 (x.f3 + 90) (by omega) (by omega)
  have p4 := prod_bound (part x.f2 x.f4).1 x.f3 (by omega) (by omega)
  have ep : rnd (x.f2 * Sine.f (x.f4 + 90)) = (part x.f2 x.f4).1 := rfl
  unfold spec_l4Shift.f
  rw [cosine_eq _ (by omega) (by omega), Option.bind_some, w64 (by omega) (by omega), div_eq _ (by omega) (by omega), Option.bind_some, ep, sine_eq _ (by omega) (by omega), Option.bind_some, w64 (by omega) (by omega), div_eq _ (by omega) (by omega), Option.bind_some,
    cosine_eq _ (by omega) (by omega), Option.bind_some, w64 (by omega) (by omega), div_eq _ (by omega) (by omega), Option.bind_some, sine_eq _ (by omega) (by omega), Option.bind_some, w64 (by omega) (by omega), div_eq _ (by omega) (by omega), Option.bind_some]
  rfl
/-! ### The placing -/
def plL : Q → List Int
  | [] => [0]
  | (_, _, s) :: q => Sort.put (plL q) s
def trL : Q → List Int
  | [] => []
  | (i, _, _) :: q => Sort.put (trL q) i
def XL (ls : L) (q : Q) : List S34 := (List.range 8).map (Xq ls q)
theorem mem_plL (q : Q) (s : Int) : s ∈ plL q ↔ s ∈ verts 0 q := by
  induction q with
  | nil => simp [plL, verts]
  | cons x q ih =>
    obtain ⟨i, u, t⟩ := x
    simp only [plL, Sort.mem_put, ih, verts, List.map_cons, List.mem_cons]
    constructor
    · rintro (h | h | h)
      · exact Or.inr (Or.inl h)
      · exact Or.inl h
      · exact Or.inr (Or.inr h)
    · rintro (h | h | h)
      · exact Or.inr (Or.inl h)
      · exact Or.inl h
      · exact Or.inr (Or.inr h)
theorem mem_trL (q : Q) (i : Int) : i ∈ trL q ↔ i ∈ legs q := by
  induction q with
  | nil => simp [trL, legs]
  | cons x q ih =>
    obtain ⟨j, u, t⟩ := x
    simp only [trL, Sort.mem_put, ih, legs, List.map_cons, List.mem_cons]
theorem put_len_le (l : List Int) (n : Int) : (Sort.put l n).length ≤ l.length + 1 := by
  induction l with
  | nil => simp [Sort.put]
  | cons x l ih =>
    simp only [Sort.put]
    split
    · simp; omega
    · split <;> simp
theorem asc_plL (q : Q) : Sort.Asc (plL q) := by
  induction q with
  | nil => simp [plL, Sort.Asc]
  | cons x q ih => exact Sort.asc_put ih _
theorem asc_trL (q : Q) : Sort.Asc (trL q) := by
  induction q with
  | nil => simp [trL, Sort.Asc]
  | cons x q ih => exact Sort.asc_put ih _
theorem plL_len (q : Q) : (plL q).length ≤ q.length + 1 := by
  induction q with
  | nil => simp [plL]
  | cons x q ih =>
    obtain ⟨i, u, s⟩ := x
    have := put_len_le (plL q) s
    simp only [plL, List.length_cons]
    omega
theorem trL_len (q : Q) : (trL q).length ≤ q.length := by
  induction q with
  | nil => simp [trL]
  | cons x q ih =>
    obtain ⟨i, u, s⟩ := x
    have := put_len_le (trL q) i
    simp only [trL, List.length_cons]
    omega
theorem XL_len (ls : L) (q : Q) : (XL ls q).length = 8 := by simp [XL]
theorem XL_at (ls : L) (q : Q) (a : Nat) (h : a < 8) : rd_T34 (XL ls q) (a : Int) = Xq ls q a := by
  unfold rd_T34 XL
  rw [Int.toNat_natCast, List.getD_eq_getElem?_getD, List.getElem?_map, List.getElem?_range h]
  rfl
theorem XL_set (ls : L) (q q' : Q) (d : Nat) (v : S34) (h : ∀ i, i < 8 → Xq ls q' i = if i = d then v else Xq ls q i) : (XL ls q).set d v = XL ls q' := by
  apply List.ext_getElem
  · simp [XL]
  · intro i h1 h2
    rw [List.getElem_set]
    simp only [XL, List.getElem_map, List.getElem_range]
    have hi : i < 8 := by simpa [XL] using h2
    rw [h i hi]
    by_cases e : i = d
    · subst e; simp
    · rw [if_neg e, if_neg (fun e' => e e'.symm)]
theorem leg_good {ls : L} (hg : ∀ x ∈ ls, Good x) (i : Nat) (hi : i < ls.length) : Good (leg ls (i : Int)) := hg _ (by
  unfold leg rd_T56
  rw [Int.toNat_natCast, List.getD_eq_getElem?_getD, List.getElem?_eq_getElem hi]
  exact List.getElem_mem _)
/-- One leg. -/
theorem one_leg (ls : L) (hn : ls.length ≤ 12) (hg : ∀ x ∈ ls, Good x) (q : Q) (ok : Grow.Ok (ends ls) ls.length q) (i : Nat) (hi : i < ls.length) (b : Bool) (hb : q.length ≤ 7) (r : List S34 × List Int × List Int)
    (h : ∀ b', b' = (b || decide (q.length < (Grow.step (ends ls) q i).length)) → Ev (fun k => spec_l6Place.l1 k ls (XL ls (Grow.step (ends ls) q i)) (plL (Grow.step (ends ls) q i)) (trL (Grow.step (ends ls) q i)) b' ((i + 1 : Nat) : Int)) r) :
    Ev (fun k => spec_l6Place.l1 k ls (XL ls q) (plL q) (trL q) b (i : Int)) r := by
  have b1 : (i : Int) < (ls.length : Int) := Int.ofNat_lt.mpr hi
  have b0 : (0 : Int) ≤ (i : Int) := Int.natCast_nonneg i
  have e : wrap64 ((i : Int) + 1) = ((i + 1 : Nat) : Int) := by rw [w64 (by omega) (by omega)]; omega
  have hgood := leg_good hg i hi
  have hE : ends ls i = ((leg ls i).f0, (leg ls i).f1) := rfl
  have hrd : rd_T56 ls (i : Int) = leg ls i := rfl
  have hsh := shift_eq _ hgood
  generalize hx : leg ls (i : Int) = x at hgood hE hrd hsh
  obtain ⟨⟨a0, a8⟩, ⟨d0, d8⟩, had, _⟩ := hgood
  obtain ⟨a, ha⟩ := Int.eq_ofNat_of_zero_le a0
  obtain ⟨d, hd⟩ := Int.eq_ofNat_of_zero_le d0
  rw [ha, hd] at had hE
  have ka0 : (0 : Int) ≤ (a : Int) := Int.natCast_nonneg a
  have kd0 : (0 : Int) ≤ (d : Int) := Int.natCast_nonneg d
  rw [ha] at a8
  rw [hd] at d8
  have na8 : a < 8 := Int.ofNat_lt.mp a8
  have nd8 : d < 8 := Int.ofNat_lt.mp d8
  have hlen : ((XL ls q).length : Int) = 8 := by rw [XL_len]; rfl
  have ka1 : (a : Int) < ((XL ls q).length : Int) := by rw [hlen]; exact Int.ofNat_lt.mpr na8
  have kd1 : (d : Int) < ((XL ls q).length : Int) := by rw [hlen]; exact Int.ofNat_lt.mpr nd8
  have l1 : (plL q).length ≤ 8 := Nat.le_trans (plL_len q) (Nat.succ_le_succ hb)
  have l2 : (trL q).length ≤ 7 := Nat.le_trans (trL_len q) hb
  have l1m : (plL q).length ≤ 1000000 := Nat.le_trans l1 (by decide)
  have l2m : (trL q).length ≤ 1000000 := Nat.le_trans l2 (by decide)
  have l1k : ∀ {k : Nat}, 20 ≤ k → (plL q).length < k := fun hk => Nat.lt_of_le_of_lt l1 (Nat.lt_of_lt_of_le (by decide : 8 < 20) hk)
  have l2k : ∀ {k : Nat}, 20 ≤ k → (trL q).length < k := fun hk => Nat.lt_of_le_of_lt l2 (Nat.lt_of_lt_of_le (by decide : 7 < 20) hk)
  have A1 := fun k (hk : 20 ≤ k) => has_at (plL q) (a : Int) l1m k (l1k hk)
  have D1 := fun k (hk : 20 ≤ k) => has_at (plL q) (d : Int) l1m k (l1k hk)
  simp only [mem_plL] at A1 D1
  have hitr : ¬ ((a : Int) ∈ verts 0 q ∧ (d : Int) ∈ verts 0 q) → (i : Int) ∉ trL q := by
    intro c h
    rw [mem_trL] at h
    have := ok.legs_ends _ h
    rw [hE] at this
    exact c ⟨this.1, this.2.1⟩
  have na : ∀ {c : Nat}, (c : Int) ∉ verts 0 q → (c : Int) ∉ plL q := fun h h' => h ((mem_plL q _).mp h')
  by_cases pa : (a : Int) ∈ verts 0 q
  · by_cases pd : (d : Int) ∈ verts 0 q
    · have hs : Grow.step (ends ls) q i = q := by
        unfold Grow.step
        rw [hE, if_neg (fun c => c.2 pd), if_neg (fun c => c.2 pa)]
      rw [hs] at h
      refine Ev.step_ge 20 (f := fun k => spec_l6Place.j2 k ls (XL ls q) (plL q) (trL q) b (i : Int) (a : Int) (d : Int) false) (fun k hk => ?_) ?_
      · simp only [spec_l6Place.l1]
        rw [if_pos b1, if_pos b0, hrd, ha, hd, A1 k hk, Option.bind_some, decide_eq_true pa, if_pos rfl, D1 k hk, Option.bind_some, decide_eq_true pd]
        rfl
      refine Ev.step_ge 20 (f := fun k => spec_l6Place.j3 k ls (XL ls q) (plL q) (trL q) b (i : Int) (a : Int) (d : Int) false) (fun k hk => ?_) ?_
      · simp only [spec_l6Place.j2]
        rw [if_neg (by decide), D1 k hk, Option.bind_some, decide_eq_true pd, if_pos rfl, A1 k hk, Option.bind_some, decide_eq_true pa]
        rfl
      refine Ev.step_ge 20 (fun k hk => ?_) (h b (by simp))
      simp only [spec_l6Place.j3]
      rw [if_neg (by decide), e]
    · have hs : Grow.step (ends ls) q i = ((i : Int), (a : Int), (d : Int)) :: q := by
        unfold Grow.step
        rw [hE, if_pos ⟨pa, pd⟩]
      rw [hs] at h
      refine Ev.step_ge 20 (f := fun k => spec_l6Place.j2 k ls (XL ls q) (plL q) (trL q) b (i : Int) (a : Int) (d : Int) true) (fun k hk => ?_) ?_
      · simp only [spec_l6Place.l1]
        rw [if_pos b1, if_pos b0, hrd, ha, hd, A1 k hk, Option.bind_some, decide_eq_true pa, if_pos rfl, D1 k hk, Option.bind_some, decide_eq_false pd]
        rfl
      refine Ev.step_ge 20 (fun k hk => ?_) (h true (by simp))
      simp only [spec_l6Place.j2]
      rw [if_pos trivial, if_pos ka0, if_pos ka1, if_pos b0, if_pos b1, hrd, hsh, Option.bind_some]
      simp only [spec_l4Plus.f, Option.bind_some]
      rw [if_pos kd0, if_pos kd1, put_at _ _ l1m (asc_plL q) (na pd) k (l1k hk), Option.bind_some, put_at _ _ l2m (asc_trL q) (hitr (fun c => pd c.2)) k (l2k hk), Option.bind_some, e, XL_at _ _ _ na8, Int.toNat_natCast]
      rw [← XL_set ls q (((i : Int), (a : Int), (d : Int)) :: q) d (plus (Xq ls q a) (shift x) 1) (fun s _ => Xq_fore hE hx s)]
      rfl
  · by_cases pd : (d : Int) ∈ verts 0 q
    · have hs : Grow.step (ends ls) q i = ((i : Int), (d : Int), (a : Int)) :: q := by
        unfold Grow.step
        rw [hE, if_neg (fun c => pa c.1), if_pos ⟨pd, pa⟩]
      rw [hs] at h
      refine Ev.step_ge 20 (f := fun k => spec_l6Place.j2 k ls (XL ls q) (plL q) (trL q) b (i : Int) (a : Int) (d : Int) false) (fun k hk => ?_) ?_
      · simp only [spec_l6Place.l1]
        rw [if_pos b1, if_pos b0, hrd, ha, hd, A1 k hk, Option.bind_some, decide_eq_false pa, if_neg (by decide)]
      refine Ev.step_ge 20 (f := fun k => spec_l6Place.j3 k ls (XL ls q) (plL q) (trL q) b (i : Int) (a : Int) (d : Int) true) (fun k hk => ?_) ?_
      · simp only [spec_l6Place.j2]
        rw [if_neg (by decide), D1 k hk, Option.bind_some, decide_eq_true pd, if_pos rfl, A1 k hk, Option.bind_some, decide_eq_false pa]
        rfl
      refine Ev.step_ge 20 (fun k hk => ?_) (h true (by simp))
      simp only [spec_l6Place.j3]
      rw [if_pos trivial, if_pos kd0, if_pos kd1, if_pos b0, if_pos b1, hrd, hsh, Option.bind_some]
      simp only [spec_l4Plus.f, Option.bind_some]
      rw [if_pos ka0, if_pos ka1, put_at _ _ l1m (asc_plL q) (na pa) k (l1k hk), Option.bind_some, put_at _ _ l2m (asc_trL q) (hitr (fun c => pa c.1)) k (l2k hk), Option.bind_some, e, XL_at _ _ _ nd8, Int.toNat_natCast]
      rw [← XL_set ls q (((i : Int), (d : Int), (a : Int)) :: q) a (plus (Xq ls q d) (shift x) (-1)) (fun s _ => Xq_back hE had hx s)]
      rfl
    · have hs : Grow.step (ends ls) q i = q := by
        unfold Grow.step
        rw [hE, if_neg (fun c => pa c.1), if_neg (fun c => pd c.1)]
      rw [hs] at h
      refine Ev.step_ge 20 (f := fun k => spec_l6Place.j2 k ls (XL ls q) (plL q) (trL q) b (i : Int) (a : Int) (d : Int) false) (fun k hk => ?_) ?_
      · simp only [spec_l6Place.l1]
        rw [if_pos b1, if_pos b0, hrd, ha, hd, A1 k hk, Option.bind_some, decide_eq_false pa, if_neg (by decide)]
      refine Ev.step_ge 20 (f := fun k => spec_l6Place.j3 k ls (XL ls q) (plL q) (trL q) b (i : Int) (a : Int) (d : Int) false) (fun k hk => ?_) ?_
      · simp only [spec_l6Place.j2]
        rw [if_neg (by decide), D1 k hk, Option.bind_some, decide_eq_false pd, if_neg (by decide)]
      refine Ev.step_ge 20 (fun k hk => ?_) (h b (by simp))
      simp only [spec_l6Place.j3]
      rw [if_neg (by decide), e]
theorem Good.range {ls : L} (hg : ∀ x ∈ ls, Good x) : ∀ i : Int, 0 ≤ i → i < ls.length → 0 ≤ (ends ls i).1 ∧ (ends ls i).1 < 8 ∧ 0 ≤ (ends ls i).2 ∧ (ends ls i).2 < 8 := by
  intro i h0 h1
  obtain ⟨k, rfl⟩ := Int.eq_ofNat_of_zero_le h0
  have h := leg_good hg k (Int.ofNat_lt.mp h1)
  exact ⟨h.1.1, h.1.2, h.2.1.1, h.2.1.2⟩
/-- One round from leg i on. -/
theorem round_ev (ls : L) (hn : ls.length ≤ 12) (hg : ∀ x ∈ ls, Good x) (r : List S34 × List Int × List Int) (q0 : Q) : ∀ (d i : Nat) (q : Q), i + d = ls.length → Grow.Ok (ends ls) ls.length q → q0.length ≤ q.length →
    (Ev (fun k => spec_l6Place.l0 k ls (XL ls (sweep (ends ls) d i q)) (plL (sweep (ends ls) d i q)) (trL (sweep (ends ls) d i q)) (decide (q0.length < (sweep (ends ls) d i q).length))) r) →
    Ev (fun k => spec_l6Place.l1 k ls (XL ls q) (plL q) (trL q) (decide (q0.length < q.length)) (i : Int)) r := by
  intro d
  induction d with
  | zero =>
    intro i q hi ok hq h
    refine Ev.step (fun k => ?_) h
    simp only [spec_l6Place.l1]
    rw [if_neg (fun c => by have := Int.ofNat_lt.mp c; omega)]
    rfl
  | succ d ih =>
    intro i q hi ok hq h
    refine one_leg ls hn hg q ok i (by omega) _ (ok.len _ (Good.range hg)) r (fun b' hb' => ?_)
    have hl := Grow.step_len (ends ls) q i
    have hb2 : b' = decide (q0.length < (Grow.step (ends ls) q i).length) := by
      rw [hb', ← Bool.decide_or, decide_eq_decide]
      omega
    rw [hb2]
    exact ih (i + 1) _ (by omega) (ok.step _ (by omega) (by omega)) (by omega) h
theorem rounds_ev (ls : L) (hn : ls.length ≤ 12) (hg : ∀ x ∈ ls, Good x) (R : Q) : ∀ (f : Nat) (q : Q), Grow.Ok (ends ls) ls.length q → 8 ≤ f + q.length → grow (ends ls) ls.length f q = R → Ev (fun k => spec_l6Place.l0 k ls (XL ls q) (plL q) (trL q) true) (XL ls R, plL R, trL R) := by
  intro f
  induction f with
  | zero =>
    intro q ok h8 hR
    have := ok.len _ (Good.range hg)
    omega
  | succ f ih =>
    intro q ok h8 hR
    refine Ev.step (f := fun k => spec_l6Place.l1 k ls (XL ls q) (plL q) (trL q) (decide (q.length < q.length)) ((0 : Nat) : Int)) (fun k => ?_) ?_
    · simp only [spec_l6Place.l0]
      rw [if_pos trivial, decide_eq_false (Nat.lt_irrefl _)]
      rfl
    · refine round_ev ls hn hg _ q ls.length 0 q (by omega) ok (Nat.le_refl _) ?_
      rw [grow] at hR
      have hl := Grow.sweep_len (ends ls) ls.length 0 q
      by_cases c : (sweep (ends ls) ls.length 0 q).length = q.length
      · rw [if_pos c] at hR
        have hs := (Grow.sweep_same (ends ls) c).1
        have e0 : sweep (ends ls) ls.length ((0 : Nat) : Int) q = q := hs
        rw [e0, decide_eq_false (Nat.lt_irrefl _), hR]
        refine Ev.step (f := fun _ => some (XL ls R, plL R, trL R)) (fun k => ?_) (Ev.now _)
        simp only [spec_l6Place.l0]
        rw [if_neg (by decide)]
      · rw [if_neg c] at hR
        have e1 : decide (q.length < (sweep (ends ls) ls.length ((0 : Nat) : Int) q).length) = true := decide_eq_true (by
          show q.length < (sweep (ends ls) ls.length 0 q).length
          omega)
        rw [e1]
        exact ih _ (ok.sweep _ (by omega) (by omega)) (by show 8 ≤ f + (sweep (ends ls) ls.length 0 q).length; omega) hR
/-- THE PLACING OF THE REFERENCE. -/
theorem place_ev (ls : L) (hn : ls.length ≤ 12) (hg : ∀ x ∈ ls, Good x) (R : Q) (hR : grow (ends ls) ls.length 8 [] = R) : Ev (fun k => spec_l6Place.f k ls) (XL ls R, plL R, trL R) := by
  refine Ev.congr (f := fun k => spec_l6Place.l0 k ls (XL ls []) (plL []) (trL []) true) (fun k => ?_) (rounds_ev ls hn hg R 8 [] (Grow.Ok.nil _ _) (by simp) hR)
  unfold spec_l6Place.f
  rw [if_pos (by decide)]
  rfl
end Go.Proofs.YtiooiefjcbooeaaDoor.Net

/- Valid legs, the closing legs, in plain. Conditions: the lists' lengths. -/
namespace Go.Proofs.YtiooiefjcbooeaaDoor.Net
open Go.RowKit Go.Proofs.YtiooiefjcbooeaaDoorW.PrintWords Go.Proofs.YtiooiefjcbooeaaDoorW.PrintLast Go.Proofs.YtiooiefjcbooeaaDoorW.PrintMore Go.Proofs.YtiooiefjcbooeaaDoor.A Go.Proofs.YtiooiefjcbooeaaDoor.Plain
open Go.Proofs.YtiooiefjcbooeaaDoor.Tree (verts legs)
open Go.Proofs.YtiooiefjcbooeaaDoor.Grow (Q sweep grow)
set_option linter.unusedVariables false
set_option linter.unusedSimpArgs false
instance : DecidablePred Good := fun x => by unfold Good; infer_instance
theorem within_eq (x a b : Int) : impl_within.f x a b = some (decide (a ≤ x ∧ x ≤ b)) := by
  unfold impl_within.f
  by_cases h : x ≥ a
  · rw [if_pos h]; congr 1; rw [decide_eq_decide]; omega
  · rw [if_neg h, decide_eq_false (by omega)]
theorem IsLeg_eq (x : S56) : impl_IsLeg.f x.f0 x.f1 x.f2 x.f3 x.f4 = some (decide (Good x)) := by
  unfold impl_IsLeg.f impl_isStation.f impl_isBearing.f
  simp only [within_eq, Option.bind_some]
  by_cases h0 : 0 ≤ x.f0 ∧ x.f0 ≤ 7
  · rw [decide_eq_true h0, if_pos rfl]
    by_cases h1 : 0 ≤ x.f1 ∧ x.f1 ≤ 7
    · rw [decide_eq_true h1, if_pos rfl]
      by_cases h2 : x.f0 = x.f1
      · rw [if_pos h2, decide_eq_false (fun c => c.2.2.1 h2)]
      · rw [if_neg h2]
        by_cases h3 : 1 ≤ x.f2 ∧ x.f2 ≤ 500
        · rw [decide_eq_true h3, if_pos rfl]
          by_cases h4 : 0 ≤ x.f3 ∧ x.f3 ≤ 359
          · rw [decide_eq_true h4, if_pos rfl]
            congr 1
            rw [decide_eq_decide]
            exact ⟨fun c => ⟨⟨h0.1, by omega⟩, ⟨h1.1, by omega⟩, h2, h3, h4, c⟩, fun c => c.2.2.2.2.2⟩
          · rw [decide_eq_false h4, if_neg (by decide), decide_eq_false (fun c => h4 c.2.2.2.2.1)]
        · rw [decide_eq_false h3, if_neg (by decide), decide_eq_false (fun c => h3 c.2.2.2.1)]
    · rw [decide_eq_false h1, if_neg (by decide), decide_eq_false (fun c => h1 ⟨c.2.1.1, by have := c.2.1.2; omega⟩)]
  · rw [decide_eq_false h0, if_neg (by decide), decide_eq_false (fun c => h0 ⟨c.1.1, by have := c.1.2; omega⟩)]
theorem l4Leg_eq (x : S56) : spec_l4Leg.f x.f0 x.f1 x.f2 x.f3 x.f4 = some (decide (Good x)) := IsLeg_eq x
def legsB (ls : L) : Bool := decide ((∀ x ∈ ls, Good x) ∧ ls.length ≤ 12)
theorem legsB_all (ls : L) : (if allFrom (fun i => decide (Good (ls.getD i z56))) 0 ls.length = true then some (decide ((ls.length : Int) ≤ 12)) else some false) = some (legsB ls) := by
  rw [allFrom_all ls z56 (fun x => decide (Good x))]
  unfold legsB
  by_cases h : ∀ x ∈ ls, Good x
  · rw [if_pos (by simpa using h)]
    congr 1
    rw [decide_eq_decide]
    exact ⟨fun c => ⟨h, by omega⟩, fun c => by have := c.2; omega⟩
  · rw [if_neg (by simpa using h), decide_eq_false (fun c => h c.1)]
theorem areLegs_ev (ls : L) (hb : ls.length ≤ 140737488351232) : Ev (fun k => impl_areLegs.f k ls) (legsB ls) := by
  obtain ⟨K, hK⟩ := all_ev (fun i => decide (Good (ls.getD i z56))) ls.length hb (fun k i => impl_areLegs.l0 k ls ls (ls.length : Int) i) (some (decide ((ls.length : Int) ≤ 12))) (by
      intro k i hi
      simp only [impl_areLegs.l0]
      rw [if_pos (by omega), if_pos (by omega), if_pos (by omega), IsLeg_eq, Option.bind_some]
      rfl) (by
      intro k
      simp only [impl_areLegs.l0]
      rw [if_neg (by omega)])
  refine ⟨K, fun k hk => ?_⟩
  have := hK k hk
  rw [legsB_all] at this
  exact this
theorem l4Legs_ev (ls : L) (hb : ls.length ≤ 140737488351232) : Ev (fun k => spec_l4Legs.f k ls) (legsB ls) := by
  obtain ⟨K, hK⟩ := all_ev (fun i => decide (Good (ls.getD i z56))) ls.length hb (fun k i => spec_l4Legs.l0 k ls i) (some (decide ((ls.length : Int) ≤ 12))) (by
      intro k i hi
      simp only [spec_l4Legs.l0]
      rw [if_pos (by omega), if_pos (by omega), l4Leg_eq, Option.bind_some]
      rfl) (by
      intro k
      simp only [spec_l4Legs.l0]
      rw [if_neg (by omega)])
  refine ⟨K, fun k hk => ?_⟩
  have := hK k hk
  rw [legsB_all] at this
  exact this
/-- The growth of the legs. -/
def RR (ls : L) : Q := grow (ends ls) ls.length 8 []
theorem RR_ok {ls : L} (hg : ∀ x ∈ ls, Good x) : Grow.Ok (ends ls) ls.length (RR ls) ∧ ∀ i : Int, 0 ≤ i → i < ls.length → ((ends ls i).1 ∈ verts 0 (RR ls) ↔ (ends ls i).2 ∈ verts 0 (RR ls)) := by
  have h := Grow.grow_end (ends ls) (Good.range hg) 8 [] (Grow.Ok.nil _ _) (by simp)
  exact ⟨h.1, h.2.2⟩
theorem RR_len {ls : L} (hg : ∀ x ∈ ls, Good x) : (RR ls).length ≤ 7 := (RR_ok hg).1.len _ (Good.range hg)
theorem plL_small {ls : L} (hg : ∀ x ∈ ls, Good x) : (plL (RR ls)).length ≤ 8 := Nat.le_trans (plL_len _) (Nat.succ_le_succ (RR_len hg))
theorem trL_small {ls : L} (hg : ∀ x ∈ ls, Good x) : (trL (RR ls)).length ≤ 7 := Nat.le_trans (trL_len _) (RR_len hg)
theorem Pq_eq (q : Q) (a : Nat) : Pq q a = decide ((a : Int) ∈ plL q) := by
  unfold Pq; rw [decide_eq_decide, mem_plL]
theorem Bq_eq (q : Q) (a : Nat) : Bq q a = decide ((a : Int) ∈ trL q) := by
  unfold Bq; rw [decide_eq_decide, mem_trL]
theorem closing_loop (ls : L) (hn : ls.length ≤ 12) (hg : ∀ x ∈ ls, Good x) (q : Q) (h1 : (plL q).length ≤ 8) (h2 : (trL q).length ≤ 7) : ∀ (d i : Nat), i + d = ls.length → Ev (fun k => spec_l6Closing.l0 k ls (closeTo ls q i) (plL q) (trL q) (i : Int)) (closeTo ls q ls.length) := by
  intro d
  induction d with
  | zero =>
    intro i hi
    obtain rfl : i = ls.length := by omega
    refine Ev.step (f := fun _ => some (closeTo ls q ls.length)) (fun k => ?_) (Ev.now _)
    simp only [spec_l6Closing.l0]
    rw [if_neg (by omega)]
  | succ d ih =>
    intro i hi
    have e : wrap64 ((i : Int) + 1) = ((i + 1 : Nat) : Int) := by rw [w64 (by omega) (by omega)]; omega
    have b1 : (i : Int) < (ls.length : Int) := by omega
    have b0 : (0 : Int) ≤ (i : Int) := by omega
    have hlen := closeTo_len ls q i
    have bl : (closeTo ls q i).length < 17592186044416 := by omega
    have hgood := leg_good hg i (by omega)
    have hrd : rd_T56 ls (i : Int) = leg ls i := rfl
    have hc : closeTo ls q (i + 1) = if Pq q (leg ls i).f0.toNat = true ∧ Bq q i = false then closeTo ls q i ++ [(i : Int)] else closeTo ls q i := rfl
    have h := ih (i + 1) (by omega)
    rw [hc] at h
    generalize leg ls (i : Int) = x at hgood hrd h
    obtain ⟨a, ha⟩ := Int.eq_ofNat_of_zero_le hgood.1.1
    rw [ha, Int.toNat_natCast, Pq_eq, Bq_eq] at h
    refine Ev.step_ge 20 (fun k hk => ?_) h
    simp only [spec_l6Closing.l0]
    rw [if_pos b1, if_pos b0, hrd, ha, has_at _ _ (Nat.le_trans h1 (by decide)) k (Nat.lt_of_le_of_lt h1 (Nat.lt_of_lt_of_le (by decide : 8 < 20) hk)), Option.bind_some]
    by_cases c1 : (a : Int) ∈ plL q
    · rw [decide_eq_true c1, if_pos rfl, has_at _ _ (Nat.le_trans h2 (by decide)) k (Nat.lt_of_le_of_lt h2 (Nat.lt_of_lt_of_le (by decide : 7 < 20) hk)), Option.bind_some]
      by_cases c2 : (i : Int) ∈ trL q
      · rw [decide_eq_true c2, if_pos rfl, e, if_neg (fun h => by cases h.2)]
      · rw [decide_eq_false c2, if_neg (by decide), if_pos bl, e, if_pos ⟨rfl, rfl⟩]
    · rw [decide_eq_false c1, if_neg (by decide), e, if_neg (fun h => by cases h.1)]
def closeL (ls : L) : List Int := closeTo ls (RR ls) ls.length
theorem closing_ev (ls : L) (hn : ls.length ≤ 12) (hg : ∀ x ∈ ls, Good x) : Ev (fun k => spec_l6Closing.f k ls) (closeL ls) := by
  refine Ev.congr (f := fun k => (spec_l6Place.f k ls).bind fun bt193 => spec_l6Closing.l0 k ls [] bt193.2.1 bt193.2.2 0) (fun k => rfl) ?_
  refine Ev.bind (place_ev ls hn hg (RR ls) rfl) ?_
  exact closing_loop ls hn hg (RR ls) (plL_small hg) (trL_small hg) ls.length 0 (by omega)
theorem legsB_iff {ls : L} : legsB ls = true ↔ (∀ x ∈ ls, Good x) ∧ ls.length ≤ 12 := by
  unfold legsB; exact decide_eq_true_iff
/-! ### CountLoops -/
end Go.Proofs.YtiooiefjcbooeaaDoor.Net

/- The error of a leg whose ends are placed. -/
namespace Go.Proofs.YtiooiefjcbooeaaDoor.Net
open Go.RowKit Go.Proofs.YtiooiefjcbooeaaDoorW.PrintWords Go.Proofs.YtiooiefjcbooeaaDoorW.PrintLast Go.Proofs.YtiooiefjcbooeaaDoorW.PrintMore Go.Proofs.YtiooiefjcbooeaaDoor.A Go.Proofs.YtiooiefjcbooeaaDoor.Plain
set_option linter.unusedVariables false
set_option linter.unusedSimpArgs false
def errM (X : Nat → S34) (x : S56) : S34 := plus (plus (shift x) (X x.f1.toNat) (-1)) (X x.f0.toNat) 1
set_option maxHeartbeats 2000000 in
set_option maxRecDepth 100000 in
theorem errorOf {n T g : Nat} {P : Nat → Bool} {X : Nat → S34} {B : Nat → Bool} {cl : Value} (x : S56) (w : World) (hL : Sine.Laid w) (hS : St n T g P X B cl w) (h : Good x) :
    Calls Tryd.prog 63 #[.pointer (some ⟨g, 0, none⟩), .agg #[.int .i64 x.f0, .int .i64 x.f1, .int .i64 x.f2, .int .i64 x.f3, .int .i64 x.f4]] w fun e w' => e = .returned (.agg #[.int .i64 (errM X x).f0, .int .i64 (errM X x).f1, .int .i64 (errM X x).f2]) ∧ Below w.heap.size w w' := by
  have LS := fun W (hl : Sine.Laid W) => legShift x W hl h
  obtain ⟨⟨a0, a8⟩, ⟨d0, d8⟩, had, _⟩ := h
  unfold errM
  obtain ⟨a, ha⟩ := Int.eq_ofNat_of_zero_le a0
  obtain ⟨d, hd⟩ := Int.eq_ofNat_of_zero_le d0
  rw [ha, hd] at LS
  rw [ha] at a8
  rw [hd] at d8
  rw [ha, hd, Int.toNat_natCast, Int.toNat_natCast]
  have HLS := Aside0.mk LS
  have HL := Aside0.mk hL
  have HS := Aside0.mk hS
  have HB := Aside0.mk (Below.refl w.heap.size w)
  clear LS hL hS a0 d0 had
  go_enter Tryd.func63, Tryd.ntmps63
  go_wp2
  have hgw : g < w.heap.size := World.block_lt_of_cell? _ _ HS.out.tc
  have h0 : ((w.alloc (Obj.cells #[Value.int IntKind.i64 ↑a, Value.int IntKind.i64 ↑d, Value.int IntKind.i64 x.f2, Value.int IntKind.i64 x.f3, Value.int IntKind.i64 x.f4] 56)).alloc (Obj.cells #[Value.int IntKind.i64 0, Value.int IntKind.i64 0, Value.int IntKind.i64 0] 34)).cell? ⟨w.heap.size, 0, none⟩ = some (.int .i64 (a : Int)) := by go_simp
  have h1 : ((w.alloc (Obj.cells #[Value.int IntKind.i64 ↑a, Value.int IntKind.i64 ↑d, Value.int IntKind.i64 x.f2, Value.int IntKind.i64 x.f3, Value.int IntKind.i64 x.f4] 56)).alloc (Obj.cells #[Value.int IntKind.i64 0, Value.int IntKind.i64 0, Value.int IntKind.i64 0] 34)).cell? ⟨w.heap.size, 1, none⟩ = some (.int .i64 (d : Int)) := by go_simp
  have h2 : ((w.alloc (Obj.cells #[Value.int IntKind.i64 ↑a, Value.int IntKind.i64 ↑d, Value.int IntKind.i64 x.f2, Value.int IntKind.i64 x.f3, Value.int IntKind.i64 x.f4] 56)).alloc (Obj.cells #[Value.int IntKind.i64 0, Value.int IntKind.i64 0, Value.int IntKind.i64 0] 34)).cell? ⟨w.heap.size, 2, none⟩ = some (.int .i64 x.f2) := by go_simp
  have h3 : ((w.alloc (Obj.cells #[Value.int IntKind.i64 ↑a, Value.int IntKind.i64 ↑d, Value.int IntKind.i64 x.f2, Value.int IntKind.i64 x.f3, Value.int IntKind.i64 x.f4] 56)).alloc (Obj.cells #[Value.int IntKind.i64 0, Value.int IntKind.i64 0, Value.int IntKind.i64 0] 34)).cell? ⟨w.heap.size, 3, none⟩ = some (.int .i64 x.f3) := by go_simp
  have h4 : ((w.alloc (Obj.cells #[Value.int IntKind.i64 ↑a, Value.int IntKind.i64 ↑d, Value.int IntKind.i64 x.f2, Value.int IntKind.i64 x.f3, Value.int IntKind.i64 x.f4] 56)).alloc (Obj.cells #[Value.int IntKind.i64 0, Value.int IntKind.i64 0, Value.int IntKind.i64 0] 34)).cell? ⟨w.heap.size, 4, none⟩ = some (.int .i64 x.f4) := by go_simp
  have g0 : ((w.alloc (Obj.cells #[Value.int IntKind.i64 ↑a, Value.int IntKind.i64 ↑d, Value.int IntKind.i64 x.f2, Value.int IntKind.i64 x.f3, Value.int IntKind.i64 x.f4] 56)).alloc (Obj.cells #[Value.int IntKind.i64 0, Value.int IntKind.i64 0, Value.int IntKind.i64 0] 34)).cell? ⟨w.heap.size + 1, 0, none⟩ = some (.int .i64 0) := by go_simp
  have g1 : ((w.alloc (Obj.cells #[Value.int IntKind.i64 ↑a, Value.int IntKind.i64 ↑d, Value.int IntKind.i64 x.f2, Value.int IntKind.i64 x.f3, Value.int IntKind.i64 x.f4] 56)).alloc (Obj.cells #[Value.int IntKind.i64 0, Value.int IntKind.i64 0, Value.int IntKind.i64 0] 34)).cell? ⟨w.heap.size + 1, 1, none⟩ = some (.int .i64 0) := by go_simp
  have g2 : ((w.alloc (Obj.cells #[Value.int IntKind.i64 ↑a, Value.int IntKind.i64 ↑d, Value.int IntKind.i64 x.f2, Value.int IntKind.i64 x.f3, Value.int IntKind.i64 x.f4] 56)).alloc (Obj.cells #[Value.int IntKind.i64 0, Value.int IntKind.i64 0, Value.int IntKind.i64 0] 34)).cell? ⟨w.heap.size + 1, 2, none⟩ = some (.int .i64 0) := by go_simp
  have z0 : ((w.alloc (Obj.cells #[Value.int IntKind.i64 ↑a, Value.int IntKind.i64 ↑d, Value.int IntKind.i64 x.f2, Value.int IntKind.i64 x.f3, Value.int IntKind.i64 x.f4] 56)).alloc (Obj.cells #[Value.int IntKind.i64 0, Value.int IntKind.i64 0, Value.int IntKind.i64 0] 34)).frozen? ⟨w.heap.size + 1, 0, none⟩ = false := by go_simp
  have z1 : ((w.alloc (Obj.cells #[Value.int IntKind.i64 ↑a, Value.int IntKind.i64 ↑d, Value.int IntKind.i64 x.f2, Value.int IntKind.i64 x.f3, Value.int IntKind.i64 x.f4] 56)).alloc (Obj.cells #[Value.int IntKind.i64 0, Value.int IntKind.i64 0, Value.int IntKind.i64 0] 34)).frozen? ⟨w.heap.size + 1, 1, none⟩ = false := by go_simp
  have z2 : ((w.alloc (Obj.cells #[Value.int IntKind.i64 ↑a, Value.int IntKind.i64 ↑d, Value.int IntKind.i64 x.f2, Value.int IntKind.i64 x.f3, Value.int IntKind.i64 x.f4] 56)).alloc (Obj.cells #[Value.int IntKind.i64 0, Value.int IntKind.i64 0, Value.int IntKind.i64 0] 34)).frozen? ⟨w.heap.size + 1, 2, none⟩ = false := by go_simp
  replace HB : Aside0 (Below w.heap.size w ((w.alloc (Obj.cells #[Value.int IntKind.i64 ↑a, Value.int IntKind.i64 ↑d, Value.int IntKind.i64 x.f2, Value.int IntKind.i64 x.f3, Value.int IntKind.i64 x.f4] 56)).alloc (Obj.cells #[Value.int IntKind.i64 0, Value.int IntKind.i64 0, Value.int IntKind.i64 0] 34))) := ⟨below_alloc (below_alloc HB.out _) _⟩
  replace HS := Aside0.mk (HS.out.keep HB.out)
  generalize ((w.alloc (Obj.cells #[Value.int IntKind.i64 ↑a, Value.int IntKind.i64 ↑d, Value.int IntKind.i64 x.f2, Value.int IntKind.i64 x.f3, Value.int IntKind.i64 x.f4] 56)).alloc (Obj.cells #[Value.int IntKind.i64 0, Value.int IntKind.i64 0, Value.int IntKind.i64 0] 34)) = W1 at *
  have p0 := HS.out.px a (by omega)
  have p1 := HS.out.py a (by omega)
  have p2 := HS.out.pz a (by omega)
  have q0 := HS.out.px d (by omega)
  have q1 := HS.out.py d (by omega)
  have q2 := HS.out.pz d (by omega)
  have n1 : w.heap.size + 1 ≠ w.heap.size := by omega
  have n2 : w.heap.size + 1 ≠ g := by omega
  go_region_held3 (fun w' => w'.cell? ⟨w.heap.size, 0, none⟩ = some (.int .i64 (a : Int)) ∧ w'.cell? ⟨w.heap.size, 1, none⟩ = some (.int .i64 (d : Int)) ∧ w'.cell? ⟨w.heap.size, 2, none⟩ = some (.int .i64 x.f2) ∧ w'.cell? ⟨w.heap.size, 3, none⟩ = some (.int .i64 x.f3) ∧ w'.cell? ⟨w.heap.size, 4, none⟩ = some (.int .i64 x.f4) ∧ w'.cell? ⟨g, 8 + a * 3, none⟩ = some (.int .i64 (X a).f0) ∧ w'.cell? ⟨g, 8 + a * 3 + 1, none⟩ = some (.int .i64 (X a).f1) ∧ w'.cell? ⟨g, 8 + a * 3 + 2, none⟩ = some (.int .i64 (X a).f2) ∧ w'.cell? ⟨g, 8 + d * 3, none⟩ = some (.int .i64 (X d).f0) ∧ w'.cell? ⟨g, 8 + d * 3 + 1, none⟩ = some (.int .i64 (X d).f1) ∧ w'.cell? ⟨g, 8 + d * 3 + 2, none⟩ = some (.int .i64 (X d).f2))
    ((repeat' refine And.intro ?_ ?_) <;> first
      | ((with_reducible refine far (far (far ?_ ?_) ?_) ?_) <;> first | exact blkne n1 | exact blkne n2 | exact Sine.keepc (w := W1) (by assumption) (by (repeat (first | exact Below.refl _ _ | apply pw_below_drewN | apply below_drew1 | exact HB.out | refine below_step ?_ (by assumption))); done))
      | exact Sine.keepc (w := W1) (by assumption) (by (repeat (first | exact Below.refl _ _ | apply pw_below_drewN | apply below_drew1 | exact HB.out | refine below_step ?_ (by assumption))); done))
    (first
      | (go_at_call 92; (with_reducible refine (HLS.out _ ?s1).mono ?_); (case s1 => exact HL.out.keep (by (repeat (first | exact Below.refl _ _ | apply pw_below_drewN | apply below_drew1 | exact HB.out | refine below_step ?_ (by assumption))); done)); rintro e w' ⟨rfl, hw1⟩)
      | (go_at_call 91; (with_reducible refine (shiftPlus (shift x) (X d) (-1) _).mono ?_); rintro e w' ⟨rfl, hw2⟩)
      | (go_at_call 91; (with_reducible refine (shiftPlus (plus (shift x) (X d) (-1)) (X a) 1 _).mono ?_); rintro e w' ⟨rfl, hw3⟩
         have HB3 : Aside0 (Below w.heap.size w w') := ⟨by (repeat (first | exact Below.refl _ _ | apply pw_below_drewN | apply below_drew1 | exact HB.out | refine below_step ?_ (by assumption))); done⟩
         have y0 := Sine.keepc (w := W1) g0 (show Below W1.heap.size W1 w' from by (repeat (first | exact Below.refl _ _ | apply pw_below_drewN | apply below_drew1 | exact HB.out | refine below_step ?_ (by assumption))); done)
         have u0 := keepz (w := W1) g0 z0 (show Below W1.heap.size W1 w' from by (repeat (first | exact Below.refl _ _ | apply pw_below_drewN | apply below_drew1 | exact HB.out | refine below_step ?_ (by assumption))); done)
         have y1 := Sine.keepc (w := W1) g1 (show Below W1.heap.size W1 w' from by (repeat (first | exact Below.refl _ _ | apply pw_below_drewN | apply below_drew1 | exact HB.out | refine below_step ?_ (by assumption))); done)
         have u1 := keepz (w := W1) g1 z1 (show Below W1.heap.size W1 w' from by (repeat (first | exact Below.refl _ _ | apply pw_below_drewN | apply below_drew1 | exact HB.out | refine below_step ?_ (by assumption))); done)
         have y2 := Sine.keepc (w := W1) g2 (show Below W1.heap.size W1 w' from by (repeat (first | exact Below.refl _ _ | apply pw_below_drewN | apply below_drew1 | exact HB.out | refine below_step ?_ (by assumption))); done)
         have u2 := keepz (w := W1) g2 z2 (show Below W1.heap.size W1 w' from by (repeat (first | exact Below.refl _ _ | apply pw_below_drewN | apply below_drew1 | exact HB.out | refine below_step ?_ (by assumption))); done)))
  go_wp2
  exact bodyPost_ret (v := .agg #[.int .i64 (plus (plus (shift x) (X d) (-1)) (X a) 1).f0, .int .i64 (plus (plus (shift x) (X d) (-1)) (X a) 1).f1, .int .i64 (plus (plus (shift x) (X d) (-1)) (X a) 1).f2]) (by simp [results, Tryd.results63, go_sem, y0, y1, y2]) rfl ⟨rfl, by repeat (first | exact HB3.out | apply below_drew1 | (refine below_set ?_ (by omega)))⟩
end Go.Proofs.YtiooiefjcbooeaaDoor.Net

/- The program's closingLeg, placedLeg, placedAt: the network, and whether it holds what is asked for. -/
namespace Go.Proofs.YtiooiefjcbooeaaDoor.Net
open Go.RowKit Go.Proofs.YtiooiefjcbooeaaDoorW.PrintWords Go.Proofs.YtiooiefjcbooeaaDoorW.PrintLast Go.Proofs.YtiooiefjcbooeaaDoorW.PrintMore Go.Proofs.YtiooiefjcbooeaaDoor.A Go.Proofs.YtiooiefjcbooeaaDoor.Plain
set_option linter.unusedVariables false
set_option linter.unusedSimpArgs false
theorem idx_loop (l : List Int) (n : Int) (hl : l.length ≤ 1000000) : ∀ (d i k : Nat), i + d = l.length → d < k → ∃ r, slices_Index_int_int.l0 k l n (l.length : Int) (i : Int) = some r ∧ (r ≥ 0 ↔ n ∈ l.drop i) := by
  intro d
  induction d with
  | zero =>
    intro i k hi hk
    obtain ⟨k, rfl⟩ : ∃ m, k = m + 1 := ⟨k - 1, by omega⟩
    refine ⟨-1, ?_, ?_⟩
    · simp only [slices_Index_int_int.l0]
      rw [if_neg (by omega)]
    · rw [List.drop_eq_nil_of_le (by omega)]
      simp
  | succ d ih =>
    intro i k hi hk
    obtain ⟨k, rfl⟩ : ∃ m, k = m + 1 := ⟨k - 1, by omega⟩
    have hlt : i < l.length := by omega
    have er : rd l (i : Int) = l[i] := by
      unfold rd
      rw [Int.toNat_natCast, List.getD_eq_getElem?_getD, List.getElem?_eq_getElem hlt]
      rfl
    have e : wrap64 ((i : Int) + 1) = ((i + 1 : Nat) : Int) := by rw [w64 (by omega) (by omega)]; omega
    rw [List.drop_eq_getElem_cons hlt]
    by_cases hc : n = l[i]
    · refine ⟨(i : Int), ?_, ?_⟩
      · simp only [slices_Index_int_int.l0]
        rw [if_pos (by omega), if_pos (by omega), if_pos (by omega), er, if_pos hc]
      · exact ⟨fun _ => by rw [hc]; exact List.mem_cons_self, fun _ => by omega⟩
    · obtain ⟨r, h1, h2⟩ := ih (i + 1) k (by omega) (by omega)
      refine ⟨r, ?_, ?_⟩
      · simp only [slices_Index_int_int.l0]
        rw [if_pos (by omega), if_pos (by omega), if_pos (by omega), er, if_neg hc, e, h1]
      · rw [h2, List.mem_cons]
        exact ⟨Or.inr, fun h => h.resolve_left hc⟩
theorem hasI_at (l : List Int) (n : Int) (hl : l.length ≤ 1000000) (k : Nat) (hk : l.length < k) : impl_has.f k l n = some (decide (n ∈ l)) := by
  obtain ⟨r, h1, h2⟩ := idx_loop l n hl l.length 0 k (by omega) hk
  have h1' : slices_Index_int_int.f k l n = some r := h1
  simp only [impl_has.f, slices_Contains_int_int.f, h1', Option.bind_some]
  congr 1
  rw [decide_eq_decide, h2, List.drop_zero]
/-- What such a function hands back for valid legs. -/
def Gate (ls : L) (b : Bool) (w : World) (e : Ending) (w' : World) : Prop := ∃ g T cA cC, e = .returned (.tuple #[.pointer (some ⟨g, 0, none⟩), .bool b]) ∧ St ls.length T g (Pq (RR ls)) (Xq ls (RR ls)) (Bq (RR ls)) (.slice cA (closeL ls).length cC) w' ∧ Kd.R (Kd.int .i64) 3 w' w.heap.size (fun k => k ≠ g ∧ k ≠ T) (.slice cA (closeL ls).length cC) (closeL ls) ∧ Below w.heap.size w w'
theorem closeL_len (ls : L) : (closeL ls).length ≤ ls.length := closeTo_len ls (RR ls) ls.length
set_option maxHeartbeats 1000000 in
theorem closingLeg (A : Option Addr) (c : Nat) (ls : L) (leg : Int) (w : World) (hL : Sine.Laid w) (hr0 : Kd.C k56 w A ls.length ls) (hc : ls.length ≤ c) (hv : legsB ls = true) :
    Calls Tryd.prog 62 #[.slice A ls.length c, .int .i64 leg] w (Gate ls (decide (leg ∈ closeL ls)) w) := by
  have hv' := legsB_iff.mp hv
  have hn := hv'.2
  obtain ⟨K, hK⟩ := areLegs_ev ls (by omega)
  have HA := Aside0.mk (hK K (Nat.le_refl _))
  rw [hv] at HA
  have hcl := closeL_len ls
  have HH := Aside0.mk (hasI_at (closeL ls) leg (by omega) 20 (by omega))
  have HG := Aside0.mk hv'.1
  have HR := Aside0.mk hr0
  have HL := Aside0.mk hL
  have HB := Aside0.mk (Below.refl w.heap.size w)
  clear hK hr0 hL hv hv'
  go_enter Tryd.func62, Tryd.ntmps62
  go_wp2_with (first
    | (go_at_call 52; (with_reducible refine (impl_areLegs.calls K _ _ ls true _ ?s1 ?s2 HA.out).mono ?_); (case s1 => exact Kd.C_below HR.out (by (repeat (first | exact HB.out | exact Below.refl _ _ | apply below_alloc | apply pw_below_drewN | apply below_drew1)); done)); (case s2 => exact hc); rintro e w' ⟨rfl, hw⟩; replace HB := Aside0.mk (below_step (show Below w.heap.size w _ from by (repeat (first | exact HB.out | exact Below.refl _ _ | apply below_alloc | apply pw_below_drewN | apply below_drew1)); done) hw); clear hw)
    | ((go_at_call 53; (with_reducible refine (place _ c ls _ ?s1 ?s2 hc hn HG.out (RR ls) rfl).mono ?_); (case s1 => exact HL.out.keep (by (repeat (first | exact HB.out | exact Below.refl _ _ | apply below_alloc | apply pw_below_drewN | apply below_drew1)); done)); (case s2 => exact Kd.C_below HR.out (by (repeat (first | exact HB.out | exact Below.refl _ _ | apply below_alloc | apply pw_below_drewN | apply below_drew1)); done)); rintro e w' ⟨g, T, cl, rfl, hst, ho, hw⟩; have HO : Aside0 (Kd.R (Kd.int .i64) 3 w' w.heap.size (fun k => k ≠ g ∧ k ≠ T) cl (closeL ls)) := ⟨Kd.R_lower ho (below_size (show Below w.heap.size w _ from by (repeat (first | exact HB.out | exact Below.refl _ _ | apply below_alloc | apply pw_below_drewN | apply below_drew1)); done))⟩; replace HB := Aside0.mk (below_step (show Below w.heap.size w _ from by (repeat (first | exact HB.out | exact Below.refl _ _ | apply below_alloc | apply pw_below_drewN | apply below_drew1)); done) hw); have HS := Aside0.mk hst; clear hst ho hw; obtain ⟨cA, cC, ecl⟩ := Kd.R_slice HO.out; subst ecl); have cc := HS.out.cc)
    | (go_at_call 87; (with_reducible refine (impl_has.calls 20 _ _ (closeL ls) leg _ _ ?s1 ?s2 HH.out).mono ?_); (case s1 => exact (Kd.R_reads' HO.out).2.2); (case s2 => exact (Kd.R_reads' HO.out).2.1); rintro e w' ⟨rfl, ⟨nd, rfl⟩⟩))
  go_ret2
  exact ⟨g, T, cA, cC, rfl, HS.out.keep (pw_below_drewN (Below.refl _ _) _), Kd.R_drewN HO.out _, pw_below_drewN HB.out _⟩
theorem isStation_eq (x : Int) : impl_isStation.f x = some (decide (0 ≤ x ∧ x ≤ 7)) := by
  unfold impl_isStation.f
  rw [within_eq]; rfl
set_option maxHeartbeats 1000000 in
set_option maxRecDepth 100000 in
theorem placedLeg (A : Option Addr) (c : Nat) (ls : L) (i : Int) (w : World) (hL : Sine.Laid w) (hr0 : Kd.C k56 w A ls.length ls) (hc : ls.length ≤ c) (hv : legsB ls = true) (h0 : 0 ≤ i) (h1 : i < ls.length) :
    Calls Tryd.prog 58 #[.slice A ls.length c, .int .i64 i] w (Gate ls (Pq (RR ls) (leg ls i).f0.toNat) w) := by
  have hv' := legsB_iff.mp hv
  have hn := hv'.2
  obtain ⟨K, hK⟩ := areLegs_ev ls (by omega)
  have HA := Aside0.mk (hK K (Nat.le_refl _))
  rw [hv] at HA
  have HW : Aside0 (impl_within.f i 0 ((ls.length : Int) - 1) = some true) := ⟨by rw [within_eq, decide_eq_true (by omega)]⟩
  obtain ⟨k, rfl⟩ := Int.eq_ofNat_of_zero_le h0
  have hg := leg_good hv'.1 k (by omega)
  obtain ⟨a, ha⟩ := Int.eq_ofNat_of_zero_le hg.1.1
  have ha8 : (a : Int) < 8 := by have := hg.1.2; omega
  rw [ha, Int.toNat_natCast]
  obtain ⟨_, e2, h2, _⟩ := at_T56 hr0 (k : Int) h0 h1
  cases e2
  rw [Int.toNat_natCast, show rd_T56 ls (k : Int) = leg ls k from rfl, ha] at h2
  have H2 := Aside0.mk h2
  have HG := Aside0.mk hv'.1
  have HR := Aside0.mk hr0
  have HL := Aside0.mk hL
  have HB := Aside0.mk (Below.refl w.heap.size w)
  clear hK hr0 hL hv hv' hg ha h2
  go_enter Tryd.func58, Tryd.ntmps58
  go_wp2_with (first
    | (go_at_call 52; (with_reducible refine (impl_areLegs.calls K _ _ ls true _ ?s1 ?s2 HA.out).mono ?_); (case s1 => exact Kd.C_below HR.out (by (repeat (first | exact HB.out | exact Below.refl _ _ | apply below_alloc | apply pw_below_drewN | apply below_drew1)); done)); (case s2 => exact hc); rintro e w' ⟨rfl, hw⟩; replace HB := Aside0.mk (below_step (show Below w.heap.size w _ from by (repeat (first | exact HB.out | exact Below.refl _ _ | apply below_alloc | apply pw_below_drewN | apply below_drew1)); done) hw); clear hw)
    | (go_at_call 68; (with_reducible refine (impl_within.calls _ _ _ _ _ HW.out).mono ?_); rintro e w' ⟨rfl, ⟨nd, rfl⟩⟩; replace HB := Aside0.mk (pw_below_drewN HB.out nd))
    | ((go_at_call 53; (with_reducible refine (place _ c ls _ ?s1 ?s2 hc hn HG.out (RR ls) rfl).mono ?_); (case s1 => exact HL.out.keep (by (repeat (first | exact HB.out | exact Below.refl _ _ | apply below_alloc | apply pw_below_drewN | apply below_drew1)); done)); (case s2 => exact Kd.C_below HR.out (by (repeat (first | exact HB.out | exact Below.refl _ _ | apply below_alloc | apply pw_below_drewN | apply below_drew1)); done)); rintro e w' ⟨g, T, cl, rfl, hst, ho, hw⟩; have HO : Aside0 (Kd.R (Kd.int .i64) 3 w' w.heap.size (fun k => k ≠ g ∧ k ≠ T) cl (closeL ls)) := ⟨Kd.R_lower ho (below_size (show Below w.heap.size w _ from by (repeat (first | exact HB.out | exact Below.refl _ _ | apply below_alloc | apply pw_below_drewN | apply below_drew1)); done))⟩; replace HB := Aside0.mk (below_step (show Below w.heap.size w _ from by (repeat (first | exact HB.out | exact Below.refl _ _ | apply below_alloc | apply pw_below_drewN | apply below_drew1)); done) hw); have HS := Aside0.mk hst; clear hst ho hw; obtain ⟨cA, cC, ecl⟩ := Kd.R_slice HO.out; subst ecl); have h2 := Sine.keepc H2.out HB.out; have pa := HS.out.pb a (by omega)))
  go_quiet (fail)
  go_wp2
  go_ret2
  exact ⟨g, T, cA, cC, rfl, HS.out.keep (pw_below_drewN (Below.refl _ _) _), Kd.R_drewN HO.out _, pw_below_drewN HB.out _⟩
set_option maxHeartbeats 1000000 in
set_option maxRecDepth 100000 in
theorem placedAt (A : Option Addr) (c : Nat) (ls : L) (s : Int) (w : World) (hL : Sine.Laid w) (hr0 : Kd.C k56 w A ls.length ls) (hc : ls.length ≤ c) (hv : legsB ls = true) (h0 : 0 ≤ s) (h1 : s < 8) :
    Calls Tryd.prog 81 #[.slice A ls.length c, .int .i64 s] w (Gate ls (Pq (RR ls) s.toNat) w) := by
  have hv' := legsB_iff.mp hv
  have hn := hv'.2
  obtain ⟨K, hK⟩ := areLegs_ev ls (by omega)
  have HA := Aside0.mk (hK K (Nat.le_refl _))
  rw [hv] at HA
  have HW : Aside0 (impl_isStation.f s = some true) := ⟨by rw [isStation_eq, decide_eq_true (by omega)]⟩
  obtain ⟨a, rfl⟩ := Int.eq_ofNat_of_zero_le h0
  rw [Int.toNat_natCast]
  have HG := Aside0.mk hv'.1
  have HR := Aside0.mk hr0
  have HL := Aside0.mk hL
  have HB := Aside0.mk (Below.refl w.heap.size w)
  clear hK hr0 hL hv hv'
  go_enter Tryd.func81, Tryd.ntmps81
  go_wp2_with (first
    | (go_at_call 52; (with_reducible refine (impl_areLegs.calls K _ _ ls true _ ?s1 ?s2 HA.out).mono ?_); (case s1 => exact Kd.C_below HR.out (by (repeat (first | exact HB.out | exact Below.refl _ _ | apply below_alloc | apply pw_below_drewN | apply below_drew1)); done)); (case s2 => exact hc); rintro e w' ⟨rfl, hw⟩; replace HB := Aside0.mk (below_step (show Below w.heap.size w _ from by (repeat (first | exact HB.out | exact Below.refl _ _ | apply below_alloc | apply pw_below_drewN | apply below_drew1)); done) hw); clear hw)
    | (go_at_call 104; (with_reducible refine (impl_isStation.calls _ _ _ HW.out).mono ?_); rintro e w' ⟨rfl, ⟨nd, rfl⟩⟩; replace HB := Aside0.mk (pw_below_drewN HB.out nd))
    | ((go_at_call 53; (with_reducible refine (place _ c ls _ ?s1 ?s2 hc hn HG.out (RR ls) rfl).mono ?_); (case s1 => exact HL.out.keep (by (repeat (first | exact HB.out | exact Below.refl _ _ | apply below_alloc | apply pw_below_drewN | apply below_drew1)); done)); (case s2 => exact Kd.C_below HR.out (by (repeat (first | exact HB.out | exact Below.refl _ _ | apply below_alloc | apply pw_below_drewN | apply below_drew1)); done)); rintro e w' ⟨g, T, cl, rfl, hst, ho, hw⟩; have HO : Aside0 (Kd.R (Kd.int .i64) 3 w' w.heap.size (fun k => k ≠ g ∧ k ≠ T) cl (closeL ls)) := ⟨Kd.R_lower ho (below_size (show Below w.heap.size w _ from by (repeat (first | exact HB.out | exact Below.refl _ _ | apply below_alloc | apply pw_below_drewN | apply below_drew1)); done))⟩; replace HB := Aside0.mk (below_step (show Below w.heap.size w _ from by (repeat (first | exact HB.out | exact Below.refl _ _ | apply below_alloc | apply pw_below_drewN | apply below_drew1)); done) hw); have HS := Aside0.mk hst; clear hst ho hw; obtain ⟨cA, cC, ecl⟩ := Kd.R_slice HO.out; subst ecl); have pa := HS.out.pb a (by omega)))
  go_quiet (fail)
  go_wp2
  go_ret2
  exact ⟨g, T, cA, cC, rfl, HS.out.keep (pw_below_drewN (Below.refl _ _) _), Kd.R_drewN HO.out _, pw_below_drewN HB.out _⟩
end Go.Proofs.YtiooiefjcbooeaaDoor.Net

namespace Go.Proofs.YtiooiefjcbooeaaDoor.Net
open Go.RowKit Go.Proofs.YtiooiefjcbooeaaDoorW.PrintWords Go.Proofs.YtiooiefjcbooeaaDoorW.PrintLast Go.Proofs.YtiooiefjcbooeaaDoorW.PrintMore Go.Proofs.YtiooiefjcbooeaaDoor.A Go.Proofs.YtiooiefjcbooeaaDoor.Plain
open Go.Proofs.YtiooiefjcbooeaaDoor.Tree (verts legs W)
open Go.Proofs.YtiooiefjcbooeaaDoor.Dfs (dfs try_)
open Go.Proofs.YtiooiefjcbooeaaDoor.Grow (Q sweep grow)
set_option linter.unusedVariables false
set_option linter.unusedSimpArgs false
theorem rd_at (l : List Int) (i : Nat) (h : i < l.length) : rd l (i : Int) = l[i] := by
  unfold rd
  rw [Int.toNat_natCast, List.getD_eq_getElem?_getD, List.getElem?_eq_getElem h]
  rfl
section
variable (ls : L) (hg : ∀ x ∈ ls, Good x) (tree : List Int) (ht : ∀ i ∈ tree, 0 ≤ i ∧ i < (ls.length : Int)) (hl : tree.length ≤ 1000) (dst : Int)
include hg ht hl
theorem way_of_dfs : ∀ (f : Nat), f ≤ 1000 →
    (∀ fr last r, 0 ≤ fr → fr < 8 → dfs (ends ls) tree dst f fr last = some r → r.1.length ≤ f ∧ Ev (fun k => spec_l8Way.f k ls tree fr dst last) r) := by
  intro f
  induction f with
  | zero => intro hf fr last r h0 h8 h; simp [dfs] at h
  | succ f ihf =>
    intro hf
    have ihf := ihf (by omega)
    have inner : ∀ (fr last : Int), 0 ≤ fr → fr < 8 → ∀ (d j : Nat) r, j + d = tree.length → try_ (ends ls) tree dst f fr last (tree.drop j) = some r → r.1.length ≤ f + 1 ∧ Ev (fun k => spec_l8Way.l0 k ls tree fr dst last (j : Int)) r := by
      intro fr last h0 h8 d
      induction d with
      | zero =>
        intro j r hj h
        rw [List.drop_eq_nil_of_le (by omega), try_] at h
        obtain rfl := Option.some.inj h
        refine ⟨by simp, Ev.step (f := fun _ => some ([], false)) (fun k => ?_) (Ev.now _)⟩
        simp only [spec_l8Way.l0]
        rw [if_neg (by omega)]
      | succ d ih =>
        intro j r hj h
        have hlt : j < tree.length := by omega
        have er := rd_at tree j hlt
        have hin := ht _ (List.getElem_mem hlt)
        rw [List.drop_eq_getElem_cons hlt, try_] at h
        have e : wrap64 ((j : Int) + 1) = ((j + 1 : Nat) : Int) := by rw [w64 (by omega) (by omega)]; omega
        have bj : (j : Int) < (tree.length : Int) := Int.ofNat_lt.mpr hlt
        have bj0 : (0 : Int) ≤ (j : Int) := Int.natCast_nonneg j
        obtain ⟨i, hi⟩ := Int.eq_ofNat_of_zero_le hin.1
        rw [hi] at hin h er
        have hgi := leg_good hg i (Int.ofNat_lt.mp hin.2)
        have hrd : rd_T56 ls (i : Int) = leg ls i := rfl
        have hE : ends ls i = ((leg ls i).f0, (leg ls i).f1) := rfl
        rw [hE] at h
        obtain ⟨⟨a0, a8⟩, ⟨b0, b8⟩, _⟩ := hgi
        generalize leg ls (i : Int) = x at *
        simp only at h
        have next : ∀ r, try_ (ends ls) tree dst f fr last (tree.drop (j + 1)) = some r → r.1.length ≤ f + 1 ∧ Ev (fun k => spec_l8Way.j1 k ls tree fr dst last (j : Int) (i : Int) true) r := by
          intro r hr
          obtain ⟨h1, h2⟩ := ih (j + 1) r (by omega) hr
          refine ⟨h1, Ev.step (fun k => ?_) h2⟩
          simp only [spec_l8Way.j1]
          rw [if_pos trivial, e]
        by_cases c1 : (i : Int) = last
        · rw [if_pos (Or.inl c1)] at h
          obtain ⟨h1, h2⟩ := next r h
          refine ⟨h1, Ev.step (fun k => ?_) h2⟩
          simp only [spec_l8Way.l0]
          rw [if_pos bj, if_pos bj0, er, if_pos c1]
        · by_cases c2 : x.f0 = fr ∨ x.f1 = fr
          · rw [if_neg (by
              rintro (c | ⟨c3, c4⟩)
              · exact c1 c
              · rcases c2 with c2 | c2
                · exact c3 c2
                · exact c4 c2)] at h
            have hstep : ∀ r, Ev (fun k => spec_l8Way.j1 k ls tree fr dst last (j : Int) (i : Int) false) r → Ev (fun k => spec_l8Way.l0 k ls tree fr dst last (j : Int)) r := by
              intro r hr
              refine Ev.step (fun k => ?_) hr
              simp only [spec_l8Way.l0]
              rw [if_pos bj, if_pos bj0, er, if_neg c1, if_pos hin.1, if_pos hin.2, hrd]
              by_cases c3 : x.f0 = fr
              · rw [if_pos c3]
              · rw [if_neg c3, c2.resolve_left c3]
                simp
            have ho : wrap64 ((wrap64 (x.f0 + x.f1)) - fr) = x.f0 + x.f1 - fr := by rw [w64 (x := x.f0 + x.f1) (by omega) (by omega), w64 (by omega) (by omega)]
            have ho8 : 0 ≤ x.f0 + x.f1 - fr ∧ x.f0 + x.f1 - fr < 8 := by rcases c2 with c2 | c2 <;> omega
            cases hd : dfs (ends ls) tree dst f (x.f0 + x.f1 - fr) i with
            | none => rw [hd] at h; cases h
            | some y =>
              rw [hd, Option.bind_some] at h
              obtain ⟨l1, l2⟩ := ihf _ _ y ho8.1 ho8.2 hd
              by_cases c5 : y.2 = true
              · rw [if_pos c5] at h
                obtain rfl := Option.some.inj h
                refine ⟨by simp; omega, hstep _ ?_⟩
                refine Ev.step (f := fun k => (spec_l8Way.f k ls tree (x.f0 + x.f1 - fr) dst (i : Int)).bind fun bt344 => (if bt344.2 = true then ((some (([(i : Int)] : List Int) : List Int)).bind fun y348 => (if y348.length + bt344.1.length < 17592186044416 then (some ((y348 ++ bt344.1), true)) else (none))) else (spec_l8Way.l0 k ls tree fr dst last (wrap64 ((j : Int) + 1))))) (fun k => ?_) ?_
                · simp only [spec_l8Way.j1]
                  rw [if_neg (by decide), if_pos hin.1, if_pos hin.2, hrd, ho]
                · refine Ev.bind l2 (Ev.pos c5 ?_)
                  refine Ev.bindc rfl (Ev.pos (by simp; omega) (Ev.now _))
              · rw [if_neg c5] at h
                obtain ⟨h1, h2⟩ := ih (j + 1) r (by omega) h
                refine ⟨h1, hstep _ ?_⟩
                refine Ev.step (f := fun k => (spec_l8Way.f k ls tree (x.f0 + x.f1 - fr) dst (i : Int)).bind fun bt344 => (if bt344.2 = true then ((some (([(i : Int)] : List Int) : List Int)).bind fun y348 => (if y348.length + bt344.1.length < 17592186044416 then (some ((y348 ++ bt344.1), true)) else (none))) else (spec_l8Way.l0 k ls tree fr dst last (wrap64 ((j : Int) + 1))))) (fun k => ?_) ?_
                · simp only [spec_l8Way.j1]
                  rw [if_neg (by decide), if_pos hin.1, if_pos hin.2, hrd, ho]
                · refine Ev.bind l2 (Ev.neg c5 ?_)
                  rw [e]
                  exact h2
          · rw [if_pos (Or.inr ⟨fun c => c2 (Or.inl c), fun c => c2 (Or.inr c)⟩)] at h
            obtain ⟨h1, h2⟩ := next r h
            refine ⟨h1, Ev.step (fun k => ?_) h2⟩
            simp only [spec_l8Way.l0]
            rw [if_pos bj, if_pos bj0, er, if_neg c1, if_pos hin.1, if_pos hin.2, hrd, if_neg (fun c => c2 (Or.inl c)), show (x.f1 != fr) = true from by simpa using fun c => c2 (Or.inr c)]
    intro fr last r h0 h8 h
    rw [dfs] at h
    by_cases c : fr = dst
    · rw [if_pos c] at h
      obtain rfl := Option.some.inj h
      refine ⟨by simp, Ev.step (f := fun _ => some ([], true)) (fun k => ?_) (Ev.now _)⟩
      simp only [spec_l8Way.f]
      rw [if_pos c]
    · rw [if_neg c] at h
      obtain ⟨h1, h2⟩ := inner fr last h0 h8 tree.length 0 r (by omega) (by simpa using h)
      refine ⟨h1, Ev.step (fun k => ?_) h2⟩
      simp only [spec_l8Way.f]
      rw [if_neg c]
      rfl
end
theorem mem_closeTo (ls : L) (q : Q) : ∀ (n : Nat) (i : Int), i ∈ closeTo ls q n ↔ ∃ k : Nat, i = k ∧ k < n ∧ Pq q (leg ls k).f0.toNat = true ∧ Bq q k = false
  | 0, i => by simp [closeTo]
  | n + 1, i => by
    have ih := mem_closeTo ls q n i
    unfold closeTo
    split
    · rename_i c
      rw [List.mem_append, ih, List.mem_singleton]
      constructor
      · rintro (⟨k, h1, h2, h3⟩ | rfl)
        · exact ⟨k, h1, by omega, h3⟩
        · exact ⟨n, rfl, by omega, c⟩
      · rintro ⟨k, h1, h2, h3⟩
        by_cases e : k = n
        · exact Or.inr (by rw [h1, e])
        · exact Or.inl ⟨k, h1, by omega, h3⟩
    · rename_i c
      rw [ih]
      constructor
      · rintro ⟨k, h1, h2, h3⟩
        exact ⟨k, h1, by omega, h3⟩
      · rintro ⟨k, h1, h2, h3⟩
        by_cases e : k = n
        · exact absurd (e ▸ h3) c
        · exact ⟨k, h1, by omega, h3⟩
/-- A closing leg: its index, its ends, and that it is no tree leg. -/
theorem mem_closeL {ls : L} (hg : ∀ x ∈ ls, Good x) {i : Int} (h : i ∈ closeL ls) : 0 ≤ i ∧ i < (ls.length : Int) ∧ (ends ls i).1 ∈ verts 0 (RR ls) ∧ (ends ls i).2 ∈ verts 0 (RR ls) ∧ i ∉ legs (RR ls) := by
  obtain ⟨k, rfl, h1, h2, h3⟩ := (mem_closeTo ls (RR ls) ls.length i).mp h
  have hk := (leg_good hg k h1).1.1
  have hv : (ends ls k).1 ∈ verts 0 (RR ls) := by
    have := of_decide_eq_true h2
    rwa [Int.toNat_of_nonneg hk] at this
  exact ⟨by omega, by omega, hv, ((RR_ok hg).2 k (by omega) (by omega)).mp hv, of_decide_eq_false h3⟩
theorem RR_ends {ls : L} (hg : ∀ x ∈ ls, Good x) : ∀ x ∈ RR ls, (ends ls x.1 = (x.2.1, x.2.2) ∨ ends ls x.1 = (x.2.2, x.2.1)) ∧ 0 ≤ x.1 := fun x hx => by
  have := (RR_ok hg).1.ends x hx
  exact ⟨this.1, this.2.1⟩
theorem trL_range {ls : L} (hg : ∀ x ∈ ls, Good x) : ∀ i ∈ trL (RR ls), 0 ≤ i ∧ i < (ls.length : Int) := fun i hi => by
  have := (RR_ok hg).1.legs_ends (ends ls) ((mem_trL _ _).mp hi)
  exact ⟨this.2.2.2.1, this.2.2.2.2⟩
theorem way_ev {ls : L} (hn : ls.length ≤ 12) (hg : ∀ x ∈ ls, Good x) {a b : Int} (ha : a ∈ verts 0 (RR ls)) (hb : b ∈ verts 0 (RR ls)) : Ev (fun k => spec_l8Way.f k ls (trL (RR ls)) a b (-1)) (W (RR ls) a b, true) := by
  have h8 := Grow.in_range (ends ls) (RR_ok hg).1 (Good.range hg) a ha
  have hl := RR_len hg
  have ht := trL_small hg
  exact (way_of_dfs ls hg (trL (RR ls)) (trL_range hg) (by omega) b 8 (by omega) a (-1) _ h8.1 h8.2 (Dfs.dfs_way (ends ls) (RR_ok hg).1.tr (RR_ends hg) (fun i => mem_trL _ i) ha hb (by omega))).2
def loopL (ls : L) (i : Int) : List Int := W (RR ls) (ends ls i).2 (ends ls i).1 ++ [i]
theorem loop_ev {ls : L} (hn : ls.length ≤ 12) (hg : ∀ x ∈ ls, Good x) {i : Int} (hi : i ∈ closeL ls) : Ev (fun k => spec_l8Legs.f k ls i) (loopL ls i) := by
  obtain ⟨h0, h1, h2, h3, _⟩ := mem_closeL hg hi
  refine Ev.bind (place_ev ls hn hg (RR ls) rfl) (Ev.pos h0 (Ev.pos h1 ?_))
  refine Ev.bind (way_ev hn hg h3 h2) ?_
  have := Tree.W_len (RR ls) (ends ls i).2 (ends ls i).1
  have hl := RR_len hg
  exact Ev.pos (show (W (RR ls) (ends ls i).2 (ends ls i).1).length < 17592186044416 by omega) (Ev.now _)
/-! ### Places without wraps -/
theorem pl_bound {ls : L} (sh : Int → Int) (hs : ∀ i, 0 ≤ i → i < (ls.length : Int) → -500 ≤ sh i ∧ sh i ≤ 500) : ∀ {q : Q}, (∀ x ∈ q, 0 ≤ x.1 ∧ x.1 < (ls.length : Int)) → ∀ x, -(500 * (q.length : Int)) ≤ Sum.pl (ends ls) sh q x ∧ Sum.pl (ends ls) sh q x ≤ 500 * (q.length : Int)
  | [], _, x => by simp [Sum.pl]
  | (i, u, s) :: q, h, x => by
    have hi := hs i (h _ List.mem_cons_self).1 (h _ List.mem_cons_self).2
    have ih := pl_bound sh hs (q := q) (fun x hx => h x (List.mem_cons_of_mem _ hx))
    have h1 := ih u
    have h2 := ih x
    simp only [Sum.pl, List.length_cons]
    split
    · split <;> omega
    · omega
theorem plus_exact {a b : S34} (ha : (-1000000 ≤ a.f0 ∧ a.f0 ≤ 1000000) ∧ (-1000000 ≤ a.f1 ∧ a.f1 ≤ 1000000) ∧ (-1000000 ≤ a.f2 ∧ a.f2 ≤ 1000000)) (hb : (-1000000 ≤ b.f0 ∧ b.f0 ≤ 1000000) ∧ (-1000000 ≤ b.f1 ∧ b.f1 ≤ 1000000) ∧ (-1000000 ≤ b.f2 ∧ b.f2 ≤ 1000000)) :
    plus a b 1 = ⟨a.f0 + b.f0, a.f1 + b.f1, a.f2 + b.f2⟩ ∧ plus a b (-1) = ⟨a.f0 - b.f0, a.f1 - b.f1, a.f2 - b.f2⟩ := by
  unfold plus
  constructor
  · rw [Int.one_mul, Int.one_mul, Int.one_mul, w64 (x := b.f0) (by omega) (by omega), w64 (x := b.f1) (by omega) (by omega), w64 (x := b.f2) (by omega) (by omega), w64 (by omega) (by omega), w64 (by omega) (by omega), w64 (by omega) (by omega)]
  · rw [w64 (x := -1 * b.f0) (by omega) (by omega), w64 (x := -1 * b.f1) (by omega) (by omega), w64 (x := -1 * b.f2) (by omega) (by omega), w64 (by omega) (by omega), w64 (by omega) (by omega), w64 (by omega) (by omega)]
    congr 1 <;> omega
def sh0 (ls : L) (i : Int) : Int := (shift (leg ls i)).f0
def sh1 (ls : L) (i : Int) : Int := (shift (leg ls i)).f1
def sh2 (ls : L) (i : Int) : Int := (shift (leg ls i)).f2
theorem sh_bound {ls : L} (hg : ∀ x ∈ ls, Good x) (i : Int) (h0 : 0 ≤ i) (h1 : i < (ls.length : Int)) : (-500 ≤ sh0 ls i ∧ sh0 ls i ≤ 500) ∧ (-500 ≤ sh1 ls i ∧ sh1 ls i ≤ 500) ∧ (-500 ≤ sh2 ls i ∧ sh2 ls i ≤ 500) := by
  obtain ⟨k, rfl⟩ := Int.eq_ofNat_of_zero_le h0
  exact shift_bound _ (leg_good hg k (Int.ofNat_lt.mp h1))
theorem plq_pl {ls : L} (hg : ∀ x ∈ ls, Good x) : ∀ {q : Q}, q.length ≤ 100 → (∀ x ∈ q, 0 ≤ x.1 ∧ x.1 < (ls.length : Int)) → ∀ x, plq ls q x = ⟨Sum.pl (ends ls) (sh0 ls) q x, Sum.pl (ends ls) (sh1 ls) q x, Sum.pl (ends ls) (sh2 ls) q x⟩
  | [], _, _, x => rfl
  | (i, u, s) :: q, hl, h, x => by
    have hi := sh_bound hg i (h _ List.mem_cons_self).1 (h _ List.mem_cons_self).2
    have hr := fun x hx => h x (List.mem_cons_of_mem (i, u, s) hx)
    have hl' : q.length ≤ 100 := by simp only [List.length_cons] at hl; omega
    have ih := plq_pl hg hl' hr
    have b0 := pl_bound (sh0 ls) (fun i a b => (sh_bound hg i a b).1) hr u
    have b1 := pl_bound (sh1 ls) (fun i a b => (sh_bound hg i a b).2.1) hr u
    have b2 := pl_bound (sh2 ls) (fun i a b => (sh_bound hg i a b).2.2) hr u
    simp only [plq, Sum.pl]
    by_cases c : x = s
    · simp only [if_pos c]
      rw [ih u]
      have ex := plus_exact (a := ⟨Sum.pl (ends ls) (sh0 ls) q u, Sum.pl (ends ls) (sh1 ls) q u, Sum.pl (ends ls) (sh2 ls) q u⟩) (b := shift (leg ls i)) ⟨by simp only; omega, by simp only; omega, by simp only; omega⟩ ⟨by have := hi.1; unfold sh0 at this; omega, by have := hi.2.1; unfold sh1 at this; omega, by have := hi.2.2; unfold sh2 at this; omega⟩
      by_cases c2 : (ends ls i).1 = u
      · simp only [if_pos c2]
        rw [ex.1]; rfl
      · simp only [if_neg c2]
        rw [ex.2]; rfl
    · simp only [if_neg c]
      exact ih x
end Go.Proofs.YtiooiefjcbooeaaDoor.Net
