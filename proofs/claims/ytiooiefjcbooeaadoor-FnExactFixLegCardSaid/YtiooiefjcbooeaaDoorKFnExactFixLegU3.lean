/- The program's FixLeg, in the form of the printed functions, over the laid table of sines. -/
import Derived.Test.YtiooiefjcbooeaaDoorKFnExactFixLeg0
import Derived.Test.YtiooiefjcbooeaaDoorKFnExactFixLeg2
import Derived.Test.YtiooiefjcbooeaaDoorKFnExactFixLeg3
import Derived.Test.YtiooiefjcbooeaaDoorKFnExactFixLegU2
/- The program's fixed, walked. -/
namespace Go.Proofs.YtiooiefjcbooeaaDoor.Net
open Go Go.RowKit Go.Proofs.YtiooiefjcbooeaaDoorW.PrintWords Go.Proofs.YtiooiefjcbooeaaDoorW.PrintLast Go.Proofs.YtiooiefjcbooeaaDoorW.PrintMore Go.Proofs.YtiooiefjcbooeaaDoor.A Go.Proofs.YtiooiefjcbooeaaDoor.Plain
set_option linter.unusedVariables false
set_option linter.unusedSimpArgs false
def fixedM (x : S56) (fix : Int) : S56 × Bool := if 1 ≤ fix ∧ fix ≤ 4 then (fixX x fix, decide (Good (fixX x fix))) else (⟨0, 0, 0, 0, 0⟩, false)
def FixPost (y : S56) (b : Bool) (w : World) (e : Ending) (w' : World) : Prop := e = .returned (.tuple #[.agg #[.int .i64 y.f0, .int .i64 y.f1, .int .i64 y.f2, .int .i64 y.f3, .int .i64 y.f4], .bool b]) ∧ Below w.heap.size w w'
set_option maxHeartbeats 4000000 in
set_option maxRecDepth 100000 in
theorem fixed1 (x : S56) (nv : Int) (hnv : nv = (Int.tmod (wrap64 (x.f3 + 180)) 360)) (w : World) :
    Calls Tryd.prog 100 #[.agg #[.int .i64 x.f0, .int .i64 x.f1, .int .i64 x.f2, .int .i64 x.f3, .int .i64 x.f4], .int .i64 1] w (FixPost ⟨x.f0, x.f1, x.f2, nv, x.f4⟩ (decide (Good ⟨x.f0, x.f1, x.f2, nv, x.f4⟩)) w) := by
  have HI := Aside0.mk (IsLeg_eq ⟨x.f0, x.f1, x.f2, nv, x.f4⟩)
  simp only at HI
  generalize decide (Good ⟨x.f0, x.f1, x.f2, nv, x.f4⟩) = bb at *
  have HBK : Aside0 (impl_back.f x.f3 = some nv) := ⟨by rw [hnv]; rfl⟩
  clear hnv
  go_enter Tryd.func100, Tryd.ntmps100
  go_wp2_with (go_at_call 117; (with_reducible refine (impl_back.calls _ _ _ HBK.out).mono ?_); rintro e w' ⟨rfl, ⟨nd, rfl⟩⟩)
  have h0 : ((((w.alloc (Obj.cells #[Value.int IntKind.i64 x.f0, Value.int IntKind.i64 x.f1, Value.int IntKind.i64 x.f2, Value.int IntKind.i64 x.f3, Value.int IntKind.i64 x.f4] 56)).alloc (Obj.cells #[Value.int IntKind.i64 0, Value.int IntKind.i64 0, Value.int IntKind.i64 0, Value.int IntKind.i64 0, Value.int IntKind.i64 0] 56)).drewN nd).setCell ⟨w.heap.size, 3, none⟩ (.int .i64 nv)).cell? ⟨w.heap.size, 0, none⟩ = some (.int .i64 x.f0) := by go_simp
  have h1 : ((((w.alloc (Obj.cells #[Value.int IntKind.i64 x.f0, Value.int IntKind.i64 x.f1, Value.int IntKind.i64 x.f2, Value.int IntKind.i64 x.f3, Value.int IntKind.i64 x.f4] 56)).alloc (Obj.cells #[Value.int IntKind.i64 0, Value.int IntKind.i64 0, Value.int IntKind.i64 0, Value.int IntKind.i64 0, Value.int IntKind.i64 0] 56)).drewN nd).setCell ⟨w.heap.size, 3, none⟩ (.int .i64 nv)).cell? ⟨w.heap.size, 1, none⟩ = some (.int .i64 x.f1) := by go_simp
  have h2 : ((((w.alloc (Obj.cells #[Value.int IntKind.i64 x.f0, Value.int IntKind.i64 x.f1, Value.int IntKind.i64 x.f2, Value.int IntKind.i64 x.f3, Value.int IntKind.i64 x.f4] 56)).alloc (Obj.cells #[Value.int IntKind.i64 0, Value.int IntKind.i64 0, Value.int IntKind.i64 0, Value.int IntKind.i64 0, Value.int IntKind.i64 0] 56)).drewN nd).setCell ⟨w.heap.size, 3, none⟩ (.int .i64 nv)).cell? ⟨w.heap.size, 2, none⟩ = some (.int .i64 x.f2) := by go_simp
  have h3 : ((((w.alloc (Obj.cells #[Value.int IntKind.i64 x.f0, Value.int IntKind.i64 x.f1, Value.int IntKind.i64 x.f2, Value.int IntKind.i64 x.f3, Value.int IntKind.i64 x.f4] 56)).alloc (Obj.cells #[Value.int IntKind.i64 0, Value.int IntKind.i64 0, Value.int IntKind.i64 0, Value.int IntKind.i64 0, Value.int IntKind.i64 0] 56)).drewN nd).setCell ⟨w.heap.size, 3, none⟩ (.int .i64 nv)).cell? ⟨w.heap.size, 3, none⟩ = some (.int .i64 nv) := by go_simp
  have h4 : ((((w.alloc (Obj.cells #[Value.int IntKind.i64 x.f0, Value.int IntKind.i64 x.f1, Value.int IntKind.i64 x.f2, Value.int IntKind.i64 x.f3, Value.int IntKind.i64 x.f4] 56)).alloc (Obj.cells #[Value.int IntKind.i64 0, Value.int IntKind.i64 0, Value.int IntKind.i64 0, Value.int IntKind.i64 0, Value.int IntKind.i64 0] 56)).drewN nd).setCell ⟨w.heap.size, 3, none⟩ (.int .i64 nv)).cell? ⟨w.heap.size, 4, none⟩ = some (.int .i64 x.f4) := by go_simp
  have y0 : ((((w.alloc (Obj.cells #[Value.int IntKind.i64 x.f0, Value.int IntKind.i64 x.f1, Value.int IntKind.i64 x.f2, Value.int IntKind.i64 x.f3, Value.int IntKind.i64 x.f4] 56)).alloc (Obj.cells #[Value.int IntKind.i64 0, Value.int IntKind.i64 0, Value.int IntKind.i64 0, Value.int IntKind.i64 0, Value.int IntKind.i64 0] 56)).drewN nd).setCell ⟨w.heap.size, 3, none⟩ (.int .i64 nv)).cell? ⟨w.heap.size + 1, 0, none⟩ = some (.int .i64 0) := by go_simp
  have y1 : ((((w.alloc (Obj.cells #[Value.int IntKind.i64 x.f0, Value.int IntKind.i64 x.f1, Value.int IntKind.i64 x.f2, Value.int IntKind.i64 x.f3, Value.int IntKind.i64 x.f4] 56)).alloc (Obj.cells #[Value.int IntKind.i64 0, Value.int IntKind.i64 0, Value.int IntKind.i64 0, Value.int IntKind.i64 0, Value.int IntKind.i64 0] 56)).drewN nd).setCell ⟨w.heap.size, 3, none⟩ (.int .i64 nv)).cell? ⟨w.heap.size + 1, 1, none⟩ = some (.int .i64 0) := by go_simp
  have y2 : ((((w.alloc (Obj.cells #[Value.int IntKind.i64 x.f0, Value.int IntKind.i64 x.f1, Value.int IntKind.i64 x.f2, Value.int IntKind.i64 x.f3, Value.int IntKind.i64 x.f4] 56)).alloc (Obj.cells #[Value.int IntKind.i64 0, Value.int IntKind.i64 0, Value.int IntKind.i64 0, Value.int IntKind.i64 0, Value.int IntKind.i64 0] 56)).drewN nd).setCell ⟨w.heap.size, 3, none⟩ (.int .i64 nv)).cell? ⟨w.heap.size + 1, 2, none⟩ = some (.int .i64 0) := by go_simp
  have y3 : ((((w.alloc (Obj.cells #[Value.int IntKind.i64 x.f0, Value.int IntKind.i64 x.f1, Value.int IntKind.i64 x.f2, Value.int IntKind.i64 x.f3, Value.int IntKind.i64 x.f4] 56)).alloc (Obj.cells #[Value.int IntKind.i64 0, Value.int IntKind.i64 0, Value.int IntKind.i64 0, Value.int IntKind.i64 0, Value.int IntKind.i64 0] 56)).drewN nd).setCell ⟨w.heap.size, 3, none⟩ (.int .i64 nv)).cell? ⟨w.heap.size + 1, 3, none⟩ = some (.int .i64 0) := by go_simp
  have y4 : ((((w.alloc (Obj.cells #[Value.int IntKind.i64 x.f0, Value.int IntKind.i64 x.f1, Value.int IntKind.i64 x.f2, Value.int IntKind.i64 x.f3, Value.int IntKind.i64 x.f4] 56)).alloc (Obj.cells #[Value.int IntKind.i64 0, Value.int IntKind.i64 0, Value.int IntKind.i64 0, Value.int IntKind.i64 0, Value.int IntKind.i64 0] 56)).drewN nd).setCell ⟨w.heap.size, 3, none⟩ (.int .i64 nv)).cell? ⟨w.heap.size + 1, 4, none⟩ = some (.int .i64 0) := by go_simp
  have u0 : ((((w.alloc (Obj.cells #[Value.int IntKind.i64 x.f0, Value.int IntKind.i64 x.f1, Value.int IntKind.i64 x.f2, Value.int IntKind.i64 x.f3, Value.int IntKind.i64 x.f4] 56)).alloc (Obj.cells #[Value.int IntKind.i64 0, Value.int IntKind.i64 0, Value.int IntKind.i64 0, Value.int IntKind.i64 0, Value.int IntKind.i64 0] 56)).drewN nd).setCell ⟨w.heap.size, 3, none⟩ (.int .i64 nv)).frozen? ⟨w.heap.size + 1, 0, none⟩ = false := by go_simp
  have u1 : ((((w.alloc (Obj.cells #[Value.int IntKind.i64 x.f0, Value.int IntKind.i64 x.f1, Value.int IntKind.i64 x.f2, Value.int IntKind.i64 x.f3, Value.int IntKind.i64 x.f4] 56)).alloc (Obj.cells #[Value.int IntKind.i64 0, Value.int IntKind.i64 0, Value.int IntKind.i64 0, Value.int IntKind.i64 0, Value.int IntKind.i64 0] 56)).drewN nd).setCell ⟨w.heap.size, 3, none⟩ (.int .i64 nv)).frozen? ⟨w.heap.size + 1, 1, none⟩ = false := by go_simp
  have u2 : ((((w.alloc (Obj.cells #[Value.int IntKind.i64 x.f0, Value.int IntKind.i64 x.f1, Value.int IntKind.i64 x.f2, Value.int IntKind.i64 x.f3, Value.int IntKind.i64 x.f4] 56)).alloc (Obj.cells #[Value.int IntKind.i64 0, Value.int IntKind.i64 0, Value.int IntKind.i64 0, Value.int IntKind.i64 0, Value.int IntKind.i64 0] 56)).drewN nd).setCell ⟨w.heap.size, 3, none⟩ (.int .i64 nv)).frozen? ⟨w.heap.size + 1, 2, none⟩ = false := by go_simp
  have u3 : ((((w.alloc (Obj.cells #[Value.int IntKind.i64 x.f0, Value.int IntKind.i64 x.f1, Value.int IntKind.i64 x.f2, Value.int IntKind.i64 x.f3, Value.int IntKind.i64 x.f4] 56)).alloc (Obj.cells #[Value.int IntKind.i64 0, Value.int IntKind.i64 0, Value.int IntKind.i64 0, Value.int IntKind.i64 0, Value.int IntKind.i64 0] 56)).drewN nd).setCell ⟨w.heap.size, 3, none⟩ (.int .i64 nv)).frozen? ⟨w.heap.size + 1, 3, none⟩ = false := by go_simp
  have u4 : ((((w.alloc (Obj.cells #[Value.int IntKind.i64 x.f0, Value.int IntKind.i64 x.f1, Value.int IntKind.i64 x.f2, Value.int IntKind.i64 x.f3, Value.int IntKind.i64 x.f4] 56)).alloc (Obj.cells #[Value.int IntKind.i64 0, Value.int IntKind.i64 0, Value.int IntKind.i64 0, Value.int IntKind.i64 0, Value.int IntKind.i64 0] 56)).drewN nd).setCell ⟨w.heap.size, 3, none⟩ (.int .i64 nv)).frozen? ⟨w.heap.size + 1, 4, none⟩ = false := by go_simp
  have HB : Aside0 (Below w.heap.size w ((((w.alloc (Obj.cells #[Value.int IntKind.i64 x.f0, Value.int IntKind.i64 x.f1, Value.int IntKind.i64 x.f2, Value.int IntKind.i64 x.f3, Value.int IntKind.i64 x.f4] 56)).alloc (Obj.cells #[Value.int IntKind.i64 0, Value.int IntKind.i64 0, Value.int IntKind.i64 0, Value.int IntKind.i64 0, Value.int IntKind.i64 0] 56)).drewN nd).setCell ⟨w.heap.size, 3, none⟩ (.int .i64 nv))) := ⟨by repeat (first | exact Below.refl _ _ | apply below_alloc | apply pw_below_drewN | (refine below_set ?_ (by omega)))⟩
  generalize ((((w.alloc (Obj.cells #[Value.int IntKind.i64 x.f0, Value.int IntKind.i64 x.f1, Value.int IntKind.i64 x.f2, Value.int IntKind.i64 x.f3, Value.int IntKind.i64 x.f4] 56)).alloc (Obj.cells #[Value.int IntKind.i64 0, Value.int IntKind.i64 0, Value.int IntKind.i64 0, Value.int IntKind.i64 0, Value.int IntKind.i64 0] 56)).drewN nd).setCell ⟨w.heap.size, 3, none⟩ (.int .i64 nv)) = W1 at *
  have n1 : w.heap.size + 1 ≠ w.heap.size := by omega
  go_region_held3 (fun w' => w'.cell? ⟨w.heap.size, 0, none⟩ = some (.int .i64 x.f0) ∧ w'.cell? ⟨w.heap.size, 1, none⟩ = some (.int .i64 x.f1) ∧ w'.cell? ⟨w.heap.size, 2, none⟩ = some (.int .i64 x.f2) ∧ w'.cell? ⟨w.heap.size, 3, none⟩ = some (.int .i64 nv) ∧ w'.cell? ⟨w.heap.size, 4, none⟩ = some (.int .i64 x.f4))
    ((repeat' refine And.intro ?_ ?_) <;> first
      | ((with_reducible refine far (far (far (far (far ?_ ?_) ?_) ?_) ?_) ?_) <;> first | exact blkne n1 | exact Sine.keepc (w := W1) (by assumption) (by (repeat (first | exact Below.refl _ _ | apply pw_below_drewN | apply below_drew1 | exact HB.out | refine below_step ?_ (by assumption))); done))
      | exact Sine.keepc (w := W1) (by assumption) (by (repeat (first | exact Below.refl _ _ | apply pw_below_drewN | apply below_drew1 | exact HB.out | refine below_step ?_ (by assumption))); done))
    (first
      | (go_at_call 90; (with_reducible refine (impl_IsLeg.calls _ _ _ _ _ _ _ HI.out).mono ?_); rintro e w' ⟨rfl, hw1⟩
         have HB3 : Aside0 (Below w.heap.size w w') := ⟨by (repeat (first | exact Below.refl _ _ | apply pw_below_drewN | apply below_drew1 | exact HB.out | refine below_step ?_ (by assumption))); done⟩
         have k0 := Sine.keepc (w := W1) y0 (show Below W1.heap.size W1 w' from by (repeat (first | exact Below.refl _ _ | apply pw_below_drewN | apply below_drew1 | exact HB.out | refine below_step ?_ (by assumption))); done)
         have z0 := keepz (w := W1) y0 u0 (show Below W1.heap.size W1 w' from by (repeat (first | exact Below.refl _ _ | apply pw_below_drewN | apply below_drew1 | exact HB.out | refine below_step ?_ (by assumption))); done)
         have k1 := Sine.keepc (w := W1) y1 (show Below W1.heap.size W1 w' from by (repeat (first | exact Below.refl _ _ | apply pw_below_drewN | apply below_drew1 | exact HB.out | refine below_step ?_ (by assumption))); done)
         have z1 := keepz (w := W1) y1 u1 (show Below W1.heap.size W1 w' from by (repeat (first | exact Below.refl _ _ | apply pw_below_drewN | apply below_drew1 | exact HB.out | refine below_step ?_ (by assumption))); done)
         have k2 := Sine.keepc (w := W1) y2 (show Below W1.heap.size W1 w' from by (repeat (first | exact Below.refl _ _ | apply pw_below_drewN | apply below_drew1 | exact HB.out | refine below_step ?_ (by assumption))); done)
         have z2 := keepz (w := W1) y2 u2 (show Below W1.heap.size W1 w' from by (repeat (first | exact Below.refl _ _ | apply pw_below_drewN | apply below_drew1 | exact HB.out | refine below_step ?_ (by assumption))); done)
         have k3 := Sine.keepc (w := W1) y3 (show Below W1.heap.size W1 w' from by (repeat (first | exact Below.refl _ _ | apply pw_below_drewN | apply below_drew1 | exact HB.out | refine below_step ?_ (by assumption))); done)
         have z3 := keepz (w := W1) y3 u3 (show Below W1.heap.size W1 w' from by (repeat (first | exact Below.refl _ _ | apply pw_below_drewN | apply below_drew1 | exact HB.out | refine below_step ?_ (by assumption))); done)
         have k4 := Sine.keepc (w := W1) y4 (show Below W1.heap.size W1 w' from by (repeat (first | exact Below.refl _ _ | apply pw_below_drewN | apply below_drew1 | exact HB.out | refine below_step ?_ (by assumption))); done)
         have z4 := keepz (w := W1) y4 u4 (show Below W1.heap.size W1 w' from by (repeat (first | exact Below.refl _ _ | apply pw_below_drewN | apply below_drew1 | exact HB.out | refine below_step ?_ (by assumption))); done)))
  go_wp2
  exact bodyPost_ret (v := .tuple #[.agg #[.int .i64 x.f0, .int .i64 x.f1, .int .i64 x.f2, .int .i64 nv, .int .i64 x.f4], .bool bb]) (by simp [results, Tryd.results100, go_sem, k0, k1, k2, k3, k4]) rfl ⟨rfl, by repeat (first | exact HB3.out | apply below_drew1 | (refine below_set ?_ (by omega)))⟩
set_option maxHeartbeats 4000000 in
set_option maxRecDepth 100000 in
theorem fixed2 (x : S56) (nv : Int) (hnv : nv = (wrap64 (-x.f4))) (w : World) :
    Calls Tryd.prog 100 #[.agg #[.int .i64 x.f0, .int .i64 x.f1, .int .i64 x.f2, .int .i64 x.f3, .int .i64 x.f4], .int .i64 2] w (FixPost ⟨x.f0, x.f1, x.f2, x.f3, nv⟩ (decide (Good ⟨x.f0, x.f1, x.f2, x.f3, nv⟩)) w) := by
  have HI := Aside0.mk (IsLeg_eq ⟨x.f0, x.f1, x.f2, x.f3, nv⟩)
  simp only at HI
  generalize decide (Good ⟨x.f0, x.f1, x.f2, x.f3, nv⟩) = bb at *
  go_enter Tryd.func100, Tryd.ntmps100
  go_wp2
  rw [← hnv]
  clear hnv
  have h0 : ((w.alloc (Obj.cells #[Value.int IntKind.i64 x.f0, Value.int IntKind.i64 x.f1, Value.int IntKind.i64 x.f2, Value.int IntKind.i64 x.f3, Value.int IntKind.i64 nv] 56)).alloc (Obj.cells #[Value.int IntKind.i64 0, Value.int IntKind.i64 0, Value.int IntKind.i64 0, Value.int IntKind.i64 0, Value.int IntKind.i64 0] 56)).cell? ⟨w.heap.size, 0, none⟩ = some (.int .i64 x.f0) := by go_simp
  have h1 : ((w.alloc (Obj.cells #[Value.int IntKind.i64 x.f0, Value.int IntKind.i64 x.f1, Value.int IntKind.i64 x.f2, Value.int IntKind.i64 x.f3, Value.int IntKind.i64 nv] 56)).alloc (Obj.cells #[Value.int IntKind.i64 0, Value.int IntKind.i64 0, Value.int IntKind.i64 0, Value.int IntKind.i64 0, Value.int IntKind.i64 0] 56)).cell? ⟨w.heap.size, 1, none⟩ = some (.int .i64 x.f1) := by go_simp
  have h2 : ((w.alloc (Obj.cells #[Value.int IntKind.i64 x.f0, Value.int IntKind.i64 x.f1, Value.int IntKind.i64 x.f2, Value.int IntKind.i64 x.f3, Value.int IntKind.i64 nv] 56)).alloc (Obj.cells #[Value.int IntKind.i64 0, Value.int IntKind.i64 0, Value.int IntKind.i64 0, Value.int IntKind.i64 0, Value.int IntKind.i64 0] 56)).cell? ⟨w.heap.size, 2, none⟩ = some (.int .i64 x.f2) := by go_simp
  have h3 : ((w.alloc (Obj.cells #[Value.int IntKind.i64 x.f0, Value.int IntKind.i64 x.f1, Value.int IntKind.i64 x.f2, Value.int IntKind.i64 x.f3, Value.int IntKind.i64 nv] 56)).alloc (Obj.cells #[Value.int IntKind.i64 0, Value.int IntKind.i64 0, Value.int IntKind.i64 0, Value.int IntKind.i64 0, Value.int IntKind.i64 0] 56)).cell? ⟨w.heap.size, 3, none⟩ = some (.int .i64 x.f3) := by go_simp
  have h4 : ((w.alloc (Obj.cells #[Value.int IntKind.i64 x.f0, Value.int IntKind.i64 x.f1, Value.int IntKind.i64 x.f2, Value.int IntKind.i64 x.f3, Value.int IntKind.i64 nv] 56)).alloc (Obj.cells #[Value.int IntKind.i64 0, Value.int IntKind.i64 0, Value.int IntKind.i64 0, Value.int IntKind.i64 0, Value.int IntKind.i64 0] 56)).cell? ⟨w.heap.size, 4, none⟩ = some (.int .i64 nv) := by go_simp
  have y0 : ((w.alloc (Obj.cells #[Value.int IntKind.i64 x.f0, Value.int IntKind.i64 x.f1, Value.int IntKind.i64 x.f2, Value.int IntKind.i64 x.f3, Value.int IntKind.i64 nv] 56)).alloc (Obj.cells #[Value.int IntKind.i64 0, Value.int IntKind.i64 0, Value.int IntKind.i64 0, Value.int IntKind.i64 0, Value.int IntKind.i64 0] 56)).cell? ⟨w.heap.size + 1, 0, none⟩ = some (.int .i64 0) := by go_simp
  have y1 : ((w.alloc (Obj.cells #[Value.int IntKind.i64 x.f0, Value.int IntKind.i64 x.f1, Value.int IntKind.i64 x.f2, Value.int IntKind.i64 x.f3, Value.int IntKind.i64 nv] 56)).alloc (Obj.cells #[Value.int IntKind.i64 0, Value.int IntKind.i64 0, Value.int IntKind.i64 0, Value.int IntKind.i64 0, Value.int IntKind.i64 0] 56)).cell? ⟨w.heap.size + 1, 1, none⟩ = some (.int .i64 0) := by go_simp
  have y2 : ((w.alloc (Obj.cells #[Value.int IntKind.i64 x.f0, Value.int IntKind.i64 x.f1, Value.int IntKind.i64 x.f2, Value.int IntKind.i64 x.f3, Value.int IntKind.i64 nv] 56)).alloc (Obj.cells #[Value.int IntKind.i64 0, Value.int IntKind.i64 0, Value.int IntKind.i64 0, Value.int IntKind.i64 0, Value.int IntKind.i64 0] 56)).cell? ⟨w.heap.size + 1, 2, none⟩ = some (.int .i64 0) := by go_simp
  have y3 : ((w.alloc (Obj.cells #[Value.int IntKind.i64 x.f0, Value.int IntKind.i64 x.f1, Value.int IntKind.i64 x.f2, Value.int IntKind.i64 x.f3, Value.int IntKind.i64 nv] 56)).alloc (Obj.cells #[Value.int IntKind.i64 0, Value.int IntKind.i64 0, Value.int IntKind.i64 0, Value.int IntKind.i64 0, Value.int IntKind.i64 0] 56)).cell? ⟨w.heap.size + 1, 3, none⟩ = some (.int .i64 0) := by go_simp
  have y4 : ((w.alloc (Obj.cells #[Value.int IntKind.i64 x.f0, Value.int IntKind.i64 x.f1, Value.int IntKind.i64 x.f2, Value.int IntKind.i64 x.f3, Value.int IntKind.i64 nv] 56)).alloc (Obj.cells #[Value.int IntKind.i64 0, Value.int IntKind.i64 0, Value.int IntKind.i64 0, Value.int IntKind.i64 0, Value.int IntKind.i64 0] 56)).cell? ⟨w.heap.size + 1, 4, none⟩ = some (.int .i64 0) := by go_simp
  have u0 : ((w.alloc (Obj.cells #[Value.int IntKind.i64 x.f0, Value.int IntKind.i64 x.f1, Value.int IntKind.i64 x.f2, Value.int IntKind.i64 x.f3, Value.int IntKind.i64 nv] 56)).alloc (Obj.cells #[Value.int IntKind.i64 0, Value.int IntKind.i64 0, Value.int IntKind.i64 0, Value.int IntKind.i64 0, Value.int IntKind.i64 0] 56)).frozen? ⟨w.heap.size + 1, 0, none⟩ = false := by go_simp
  have u1 : ((w.alloc (Obj.cells #[Value.int IntKind.i64 x.f0, Value.int IntKind.i64 x.f1, Value.int IntKind.i64 x.f2, Value.int IntKind.i64 x.f3, Value.int IntKind.i64 nv] 56)).alloc (Obj.cells #[Value.int IntKind.i64 0, Value.int IntKind.i64 0, Value.int IntKind.i64 0, Value.int IntKind.i64 0, Value.int IntKind.i64 0] 56)).frozen? ⟨w.heap.size + 1, 1, none⟩ = false := by go_simp
  have u2 : ((w.alloc (Obj.cells #[Value.int IntKind.i64 x.f0, Value.int IntKind.i64 x.f1, Value.int IntKind.i64 x.f2, Value.int IntKind.i64 x.f3, Value.int IntKind.i64 nv] 56)).alloc (Obj.cells #[Value.int IntKind.i64 0, Value.int IntKind.i64 0, Value.int IntKind.i64 0, Value.int IntKind.i64 0, Value.int IntKind.i64 0] 56)).frozen? ⟨w.heap.size + 1, 2, none⟩ = false := by go_simp
  have u3 : ((w.alloc (Obj.cells #[Value.int IntKind.i64 x.f0, Value.int IntKind.i64 x.f1, Value.int IntKind.i64 x.f2, Value.int IntKind.i64 x.f3, Value.int IntKind.i64 nv] 56)).alloc (Obj.cells #[Value.int IntKind.i64 0, Value.int IntKind.i64 0, Value.int IntKind.i64 0, Value.int IntKind.i64 0, Value.int IntKind.i64 0] 56)).frozen? ⟨w.heap.size + 1, 3, none⟩ = false := by go_simp
  have u4 : ((w.alloc (Obj.cells #[Value.int IntKind.i64 x.f0, Value.int IntKind.i64 x.f1, Value.int IntKind.i64 x.f2, Value.int IntKind.i64 x.f3, Value.int IntKind.i64 nv] 56)).alloc (Obj.cells #[Value.int IntKind.i64 0, Value.int IntKind.i64 0, Value.int IntKind.i64 0, Value.int IntKind.i64 0, Value.int IntKind.i64 0] 56)).frozen? ⟨w.heap.size + 1, 4, none⟩ = false := by go_simp
  have HB : Aside0 (Below w.heap.size w ((w.alloc (Obj.cells #[Value.int IntKind.i64 x.f0, Value.int IntKind.i64 x.f1, Value.int IntKind.i64 x.f2, Value.int IntKind.i64 x.f3, Value.int IntKind.i64 nv] 56)).alloc (Obj.cells #[Value.int IntKind.i64 0, Value.int IntKind.i64 0, Value.int IntKind.i64 0, Value.int IntKind.i64 0, Value.int IntKind.i64 0] 56))) := ⟨by repeat (first | exact Below.refl _ _ | apply below_alloc | apply pw_below_drewN | (refine below_set ?_ (by omega)))⟩
  generalize ((w.alloc (Obj.cells #[Value.int IntKind.i64 x.f0, Value.int IntKind.i64 x.f1, Value.int IntKind.i64 x.f2, Value.int IntKind.i64 x.f3, Value.int IntKind.i64 nv] 56)).alloc (Obj.cells #[Value.int IntKind.i64 0, Value.int IntKind.i64 0, Value.int IntKind.i64 0, Value.int IntKind.i64 0, Value.int IntKind.i64 0] 56)) = W1 at *
  have n1 : w.heap.size + 1 ≠ w.heap.size := by omega
  go_region_held3 (fun w' => w'.cell? ⟨w.heap.size, 0, none⟩ = some (.int .i64 x.f0) ∧ w'.cell? ⟨w.heap.size, 1, none⟩ = some (.int .i64 x.f1) ∧ w'.cell? ⟨w.heap.size, 2, none⟩ = some (.int .i64 x.f2) ∧ w'.cell? ⟨w.heap.size, 3, none⟩ = some (.int .i64 x.f3) ∧ w'.cell? ⟨w.heap.size, 4, none⟩ = some (.int .i64 nv))
    ((repeat' refine And.intro ?_ ?_) <;> first
      | ((with_reducible refine far (far (far (far (far ?_ ?_) ?_) ?_) ?_) ?_) <;> first | exact blkne n1 | exact Sine.keepc (w := W1) (by assumption) (by (repeat (first | exact Below.refl _ _ | apply pw_below_drewN | apply below_drew1 | exact HB.out | refine below_step ?_ (by assumption))); done))
      | exact Sine.keepc (w := W1) (by assumption) (by (repeat (first | exact Below.refl _ _ | apply pw_below_drewN | apply below_drew1 | exact HB.out | refine below_step ?_ (by assumption))); done))
    (first
      | (go_at_call 90; (with_reducible refine (impl_IsLeg.calls _ _ _ _ _ _ _ HI.out).mono ?_); rintro e w' ⟨rfl, hw1⟩
         have HB3 : Aside0 (Below w.heap.size w w') := ⟨by (repeat (first | exact Below.refl _ _ | apply pw_below_drewN | apply below_drew1 | exact HB.out | refine below_step ?_ (by assumption))); done⟩
         have k0 := Sine.keepc (w := W1) y0 (show Below W1.heap.size W1 w' from by (repeat (first | exact Below.refl _ _ | apply pw_below_drewN | apply below_drew1 | exact HB.out | refine below_step ?_ (by assumption))); done)
         have z0 := keepz (w := W1) y0 u0 (show Below W1.heap.size W1 w' from by (repeat (first | exact Below.refl _ _ | apply pw_below_drewN | apply below_drew1 | exact HB.out | refine below_step ?_ (by assumption))); done)
         have k1 := Sine.keepc (w := W1) y1 (show Below W1.heap.size W1 w' from by (repeat (first | exact Below.refl _ _ | apply pw_below_drewN | apply below_drew1 | exact HB.out | refine below_step ?_ (by assumption))); done)
         have z1 := keepz (w := W1) y1 u1 (show Below W1.heap.size W1 w' from by (repeat (first | exact Below.refl _ _ | apply pw_below_drewN | apply below_drew1 | exact HB.out | refine below_step ?_ (by assumption))); done)
         have k2 := Sine.keepc (w := W1) y2 (show Below W1.heap.size W1 w' from by (repeat (first | exact Below.refl _ _ | apply pw_below_drewN | apply below_drew1 | exact HB.out | refine below_step ?_ (by assumption))); done)
         have z2 := keepz (w := W1) y2 u2 (show Below W1.heap.size W1 w' from by (repeat (first | exact Below.refl _ _ | apply pw_below_drewN | apply below_drew1 | exact HB.out | refine below_step ?_ (by assumption))); done)
         have k3 := Sine.keepc (w := W1) y3 (show Below W1.heap.size W1 w' from by (repeat (first | exact Below.refl _ _ | apply pw_below_drewN | apply below_drew1 | exact HB.out | refine below_step ?_ (by assumption))); done)
         have z3 := keepz (w := W1) y3 u3 (show Below W1.heap.size W1 w' from by (repeat (first | exact Below.refl _ _ | apply pw_below_drewN | apply below_drew1 | exact HB.out | refine below_step ?_ (by assumption))); done)
         have k4 := Sine.keepc (w := W1) y4 (show Below W1.heap.size W1 w' from by (repeat (first | exact Below.refl _ _ | apply pw_below_drewN | apply below_drew1 | exact HB.out | refine below_step ?_ (by assumption))); done)
         have z4 := keepz (w := W1) y4 u4 (show Below W1.heap.size W1 w' from by (repeat (first | exact Below.refl _ _ | apply pw_below_drewN | apply below_drew1 | exact HB.out | refine below_step ?_ (by assumption))); done)))
  go_wp2
  exact bodyPost_ret (v := .tuple #[.agg #[.int .i64 x.f0, .int .i64 x.f1, .int .i64 x.f2, .int .i64 x.f3, .int .i64 nv], .bool bb]) (by simp [results, Tryd.results100, go_sem, k0, k1, k2, k3, k4]) rfl ⟨rfl, by repeat (first | exact HB3.out | apply below_drew1 | (refine below_set ?_ (by omega)))⟩
set_option maxHeartbeats 4000000 in
set_option maxRecDepth 100000 in
theorem fixed3 (x : S56) (nv : Int) (hnv : nv = (wrap64 (x.f2 + 100))) (w : World) :
    Calls Tryd.prog 100 #[.agg #[.int .i64 x.f0, .int .i64 x.f1, .int .i64 x.f2, .int .i64 x.f3, .int .i64 x.f4], .int .i64 3] w (FixPost ⟨x.f0, x.f1, nv, x.f3, x.f4⟩ (decide (Good ⟨x.f0, x.f1, nv, x.f3, x.f4⟩)) w) := by
  have HI := Aside0.mk (IsLeg_eq ⟨x.f0, x.f1, nv, x.f3, x.f4⟩)
  simp only at HI
  generalize decide (Good ⟨x.f0, x.f1, nv, x.f3, x.f4⟩) = bb at *
  go_enter Tryd.func100, Tryd.ntmps100
  go_wp2
  rw [← hnv]
  clear hnv
  have h0 : ((w.alloc (Obj.cells #[Value.int IntKind.i64 x.f0, Value.int IntKind.i64 x.f1, Value.int IntKind.i64 nv, Value.int IntKind.i64 x.f3, Value.int IntKind.i64 x.f4] 56)).alloc (Obj.cells #[Value.int IntKind.i64 0, Value.int IntKind.i64 0, Value.int IntKind.i64 0, Value.int IntKind.i64 0, Value.int IntKind.i64 0] 56)).cell? ⟨w.heap.size, 0, none⟩ = some (.int .i64 x.f0) := by go_simp
  have h1 : ((w.alloc (Obj.cells #[Value.int IntKind.i64 x.f0, Value.int IntKind.i64 x.f1, Value.int IntKind.i64 nv, Value.int IntKind.i64 x.f3, Value.int IntKind.i64 x.f4] 56)).alloc (Obj.cells #[Value.int IntKind.i64 0, Value.int IntKind.i64 0, Value.int IntKind.i64 0, Value.int IntKind.i64 0, Value.int IntKind.i64 0] 56)).cell? ⟨w.heap.size, 1, none⟩ = some (.int .i64 x.f1) := by go_simp
  have h2 : ((w.alloc (Obj.cells #[Value.int IntKind.i64 x.f0, Value.int IntKind.i64 x.f1, Value.int IntKind.i64 nv, Value.int IntKind.i64 x.f3, Value.int IntKind.i64 x.f4] 56)).alloc (Obj.cells #[Value.int IntKind.i64 0, Value.int IntKind.i64 0, Value.int IntKind.i64 0, Value.int IntKind.i64 0, Value.int IntKind.i64 0] 56)).cell? ⟨w.heap.size, 2, none⟩ = some (.int .i64 nv) := by go_simp
  have h3 : ((w.alloc (Obj.cells #[Value.int IntKind.i64 x.f0, Value.int IntKind.i64 x.f1, Value.int IntKind.i64 nv, Value.int IntKind.i64 x.f3, Value.int IntKind.i64 x.f4] 56)).alloc (Obj.cells #[Value.int IntKind.i64 0, Value.int IntKind.i64 0, Value.int IntKind.i64 0, Value.int IntKind.i64 0, Value.int IntKind.i64 0] 56)).cell? ⟨w.heap.size, 3, none⟩ = some (.int .i64 x.f3) := by go_simp
  have h4 : ((w.alloc (Obj.cells #[Value.int IntKind.i64 x.f0, Value.int IntKind.i64 x.f1, Value.int IntKind.i64 nv, Value.int IntKind.i64 x.f3, Value.int IntKind.i64 x.f4] 56)).alloc (Obj.cells #[Value.int IntKind.i64 0, Value.int IntKind.i64 0, Value.int IntKind.i64 0, Value.int IntKind.i64 0, Value.int IntKind.i64 0] 56)).cell? ⟨w.heap.size, 4, none⟩ = some (.int .i64 x.f4) := by go_simp
  have y0 : ((w.alloc (Obj.cells #[Value.int IntKind.i64 x.f0, Value.int IntKind.i64 x.f1, Value.int IntKind.i64 nv, Value.int IntKind.i64 x.f3, Value.int IntKind.i64 x.f4] 56)).alloc (Obj.cells #[Value.int IntKind.i64 0, Value.int IntKind.i64 0, Value.int IntKind.i64 0, Value.int IntKind.i64 0, Value.int IntKind.i64 0] 56)).cell? ⟨w.heap.size + 1, 0, none⟩ = some (.int .i64 0) := by go_simp
  have y1 : ((w.alloc (Obj.cells #[Value.int IntKind.i64 x.f0, Value.int IntKind.i64 x.f1, Value.int IntKind.i64 nv, Value.int IntKind.i64 x.f3, Value.int IntKind.i64 x.f4] 56)).alloc (Obj.cells #[Value.int IntKind.i64 0, Value.int IntKind.i64 0, Value.int IntKind.i64 0, Value.int IntKind.i64 0, Value.int IntKind.i64 0] 56)).cell? ⟨w.heap.size + 1, 1, none⟩ = some (.int .i64 0) := by go_simp
  have y2 : ((w.alloc (Obj.cells #[Value.int IntKind.i64 x.f0, Value.int IntKind.i64 x.f1, Value.int IntKind.i64 nv, Value.int IntKind.i64 x.f3, Value.int IntKind.i64 x.f4] 56)).alloc (Obj.cells #[Value.int IntKind.i64 0, Value.int IntKind.i64 0, Value.int IntKind.i64 0, Value.int IntKind.i64 0, Value.int IntKind.i64 0] 56)).cell? ⟨w.heap.size + 1, 2, none⟩ = some (.int .i64 0) := by go_simp
  have y3 : ((w.alloc (Obj.cells #[Value.int IntKind.i64 x.f0, Value.int IntKind.i64 x.f1, Value.int IntKind.i64 nv, Value.int IntKind.i64 x.f3, Value.int IntKind.i64 x.f4] 56)).alloc (Obj.cells #[Value.int IntKind.i64 0, Value.int IntKind.i64 0, Value.int IntKind.i64 0, Value.int IntKind.i64 0, Value.int IntKind.i64 0] 56)).cell? ⟨w.heap.size + 1, 3, none⟩ = some (.int .i64 0) := by go_simp
  have y4 : ((w.alloc (Obj.cells #[Value.int IntKind.i64 x.f0, Value.int IntKind.i64 x.f1, Value.int IntKind.i64 nv, Value.int IntKind.i64 x.f3, Value.int IntKind.i64 x.f4] 56)).alloc (Obj.cells #[Value.int IntKind.i64 0, Value.int IntKind.i64 0, Value.int IntKind.i64 0, Value.int IntKind.i64 0, Value.int IntKind.i64 0] 56)).cell? ⟨w.heap.size + 1, 4, none⟩ = some (.int .i64 0) := by go_simp
  have u0 : ((w.alloc (Obj.cells #[Value.int IntKind.i64 x.f0, Value.int IntKind.i64 x.f1, Value.int IntKind.i64 nv, Value.int IntKind.i64 x.f3, Value.int IntKind.i64 x.f4] 56)).alloc (Obj.cells #[Value.int IntKind.i64 0, Value.int IntKind.i64 0, Value.int IntKind.i64 0, Value.int IntKind.i64 0, Value.int IntKind.i64 0] 56)).frozen? ⟨w.heap.size + 1, 0, none⟩ = false := by go_simp
  have u1 : ((w.alloc (Obj.cells #[Value.int IntKind.i64 x.f0, Value.int IntKind.i64 x.f1, Value.int IntKind.i64 nv, Value.int IntKind.i64 x.f3, Value.int IntKind.i64 x.f4] 56)).alloc (Obj.cells #[Value.int IntKind.i64 0, Value.int IntKind.i64 0, Value.int IntKind.i64 0, Value.int IntKind.i64 0, Value.int IntKind.i64 0] 56)).frozen? ⟨w.heap.size + 1, 1, none⟩ = false := by go_simp
  have u2 : ((w.alloc (Obj.cells #[Value.int IntKind.i64 x.f0, Value.int IntKind.i64 x.f1, Value.int IntKind.i64 nv, Value.int IntKind.i64 x.f3, Value.int IntKind.i64 x.f4] 56)).alloc (Obj.cells #[Value.int IntKind.i64 0, Value.int IntKind.i64 0, Value.int IntKind.i64 0, Value.int IntKind.i64 0, Value.int IntKind.i64 0] 56)).frozen? ⟨w.heap.size + 1, 2, none⟩ = false := by go_simp
  have u3 : ((w.alloc (Obj.cells #[Value.int IntKind.i64 x.f0, Value.int IntKind.i64 x.f1, Value.int IntKind.i64 nv, Value.int IntKind.i64 x.f3, Value.int IntKind.i64 x.f4] 56)).alloc (Obj.cells #[Value.int IntKind.i64 0, Value.int IntKind.i64 0, Value.int IntKind.i64 0, Value.int IntKind.i64 0, Value.int IntKind.i64 0] 56)).frozen? ⟨w.heap.size + 1, 3, none⟩ = false := by go_simp
  have u4 : ((w.alloc (Obj.cells #[Value.int IntKind.i64 x.f0, Value.int IntKind.i64 x.f1, Value.int IntKind.i64 nv, Value.int IntKind.i64 x.f3, Value.int IntKind.i64 x.f4] 56)).alloc (Obj.cells #[Value.int IntKind.i64 0, Value.int IntKind.i64 0, Value.int IntKind.i64 0, Value.int IntKind.i64 0, Value.int IntKind.i64 0] 56)).frozen? ⟨w.heap.size + 1, 4, none⟩ = false := by go_simp
  have HB : Aside0 (Below w.heap.size w ((w.alloc (Obj.cells #[Value.int IntKind.i64 x.f0, Value.int IntKind.i64 x.f1, Value.int IntKind.i64 nv, Value.int IntKind.i64 x.f3, Value.int IntKind.i64 x.f4] 56)).alloc (Obj.cells #[Value.int IntKind.i64 0, Value.int IntKind.i64 0, Value.int IntKind.i64 0, Value.int IntKind.i64 0, Value.int IntKind.i64 0] 56))) := ⟨by repeat (first | exact Below.refl _ _ | apply below_alloc | apply pw_below_drewN | (refine below_set ?_ (by omega)))⟩
  generalize ((w.alloc (Obj.cells #[Value.int IntKind.i64 x.f0, Value.int IntKind.i64 x.f1, Value.int IntKind.i64 nv, Value.int IntKind.i64 x.f3, Value.int IntKind.i64 x.f4] 56)).alloc (Obj.cells #[Value.int IntKind.i64 0, Value.int IntKind.i64 0, Value.int IntKind.i64 0, Value.int IntKind.i64 0, Value.int IntKind.i64 0] 56)) = W1 at *
  have n1 : w.heap.size + 1 ≠ w.heap.size := by omega
  go_region_held3 (fun w' => w'.cell? ⟨w.heap.size, 0, none⟩ = some (.int .i64 x.f0) ∧ w'.cell? ⟨w.heap.size, 1, none⟩ = some (.int .i64 x.f1) ∧ w'.cell? ⟨w.heap.size, 2, none⟩ = some (.int .i64 nv) ∧ w'.cell? ⟨w.heap.size, 3, none⟩ = some (.int .i64 x.f3) ∧ w'.cell? ⟨w.heap.size, 4, none⟩ = some (.int .i64 x.f4))
    ((repeat' refine And.intro ?_ ?_) <;> first
      | ((with_reducible refine far (far (far (far (far ?_ ?_) ?_) ?_) ?_) ?_) <;> first | exact blkne n1 | exact Sine.keepc (w := W1) (by assumption) (by (repeat (first | exact Below.refl _ _ | apply pw_below_drewN | apply below_drew1 | exact HB.out | refine below_step ?_ (by assumption))); done))
      | exact Sine.keepc (w := W1) (by assumption) (by (repeat (first | exact Below.refl _ _ | apply pw_below_drewN | apply below_drew1 | exact HB.out | refine below_step ?_ (by assumption))); done))
    (first
      | (go_at_call 90; (with_reducible refine (impl_IsLeg.calls _ _ _ _ _ _ _ HI.out).mono ?_); rintro e w' ⟨rfl, hw1⟩
         have HB3 : Aside0 (Below w.heap.size w w') := ⟨by (repeat (first | exact Below.refl _ _ | apply pw_below_drewN | apply below_drew1 | exact HB.out | refine below_step ?_ (by assumption))); done⟩
         have k0 := Sine.keepc (w := W1) y0 (show Below W1.heap.size W1 w' from by (repeat (first | exact Below.refl _ _ | apply pw_below_drewN | apply below_drew1 | exact HB.out | refine below_step ?_ (by assumption))); done)
         have z0 := keepz (w := W1) y0 u0 (show Below W1.heap.size W1 w' from by (repeat (first | exact Below.refl _ _ | apply pw_below_drewN | apply below_drew1 | exact HB.out | refine below_step ?_ (by assumption))); done)
         have k1 := Sine.keepc (w := W1) y1 (show Below W1.heap.size W1 w' from by (repeat (first | exact Below.refl _ _ | apply pw_below_drewN | apply below_drew1 | exact HB.out | refine below_step ?_ (by assumption))); done)
         have z1 := keepz (w := W1) y1 u1 (show Below W1.heap.size W1 w' from by (repeat (first | exact Below.refl _ _ | apply pw_below_drewN | apply below_drew1 | exact HB.out | refine below_step ?_ (by assumption))); done)
         have k2 := Sine.keepc (w := W1) y2 (show Below W1.heap.size W1 w' from by (repeat (first | exact Below.refl _ _ | apply pw_below_drewN | apply below_drew1 | exact HB.out | refine below_step ?_ (by assumption))); done)
         have z2 := keepz (w := W1) y2 u2 (show Below W1.heap.size W1 w' from by (repeat (first | exact Below.refl _ _ | apply pw_below_drewN | apply below_drew1 | exact HB.out | refine below_step ?_ (by assumption))); done)
         have k3 := Sine.keepc (w := W1) y3 (show Below W1.heap.size W1 w' from by (repeat (first | exact Below.refl _ _ | apply pw_below_drewN | apply below_drew1 | exact HB.out | refine below_step ?_ (by assumption))); done)
         have z3 := keepz (w := W1) y3 u3 (show Below W1.heap.size W1 w' from by (repeat (first | exact Below.refl _ _ | apply pw_below_drewN | apply below_drew1 | exact HB.out | refine below_step ?_ (by assumption))); done)
         have k4 := Sine.keepc (w := W1) y4 (show Below W1.heap.size W1 w' from by (repeat (first | exact Below.refl _ _ | apply pw_below_drewN | apply below_drew1 | exact HB.out | refine below_step ?_ (by assumption))); done)
         have z4 := keepz (w := W1) y4 u4 (show Below W1.heap.size W1 w' from by (repeat (first | exact Below.refl _ _ | apply pw_below_drewN | apply below_drew1 | exact HB.out | refine below_step ?_ (by assumption))); done)))
  go_wp2
  exact bodyPost_ret (v := .tuple #[.agg #[.int .i64 x.f0, .int .i64 x.f1, .int .i64 nv, .int .i64 x.f3, .int .i64 x.f4], .bool bb]) (by simp [results, Tryd.results100, go_sem, k0, k1, k2, k3, k4]) rfl ⟨rfl, by repeat (first | exact HB3.out | apply below_drew1 | (refine below_set ?_ (by omega)))⟩
set_option maxHeartbeats 4000000 in
set_option maxRecDepth 100000 in
theorem fixed4 (x : S56) (nv : Int) (hnv : nv = (wrap64 (x.f2 - 100))) (w : World) :
    Calls Tryd.prog 100 #[.agg #[.int .i64 x.f0, .int .i64 x.f1, .int .i64 x.f2, .int .i64 x.f3, .int .i64 x.f4], .int .i64 4] w (FixPost ⟨x.f0, x.f1, nv, x.f3, x.f4⟩ (decide (Good ⟨x.f0, x.f1, nv, x.f3, x.f4⟩)) w) := by
  have HI := Aside0.mk (IsLeg_eq ⟨x.f0, x.f1, nv, x.f3, x.f4⟩)
  simp only at HI
  generalize decide (Good ⟨x.f0, x.f1, nv, x.f3, x.f4⟩) = bb at *
  go_enter Tryd.func100, Tryd.ntmps100
  go_wp2
  rw [← hnv]
  clear hnv
  have h0 : ((w.alloc (Obj.cells #[Value.int IntKind.i64 x.f0, Value.int IntKind.i64 x.f1, Value.int IntKind.i64 nv, Value.int IntKind.i64 x.f3, Value.int IntKind.i64 x.f4] 56)).alloc (Obj.cells #[Value.int IntKind.i64 0, Value.int IntKind.i64 0, Value.int IntKind.i64 0, Value.int IntKind.i64 0, Value.int IntKind.i64 0] 56)).cell? ⟨w.heap.size, 0, none⟩ = some (.int .i64 x.f0) := by go_simp
  have h1 : ((w.alloc (Obj.cells #[Value.int IntKind.i64 x.f0, Value.int IntKind.i64 x.f1, Value.int IntKind.i64 nv, Value.int IntKind.i64 x.f3, Value.int IntKind.i64 x.f4] 56)).alloc (Obj.cells #[Value.int IntKind.i64 0, Value.int IntKind.i64 0, Value.int IntKind.i64 0, Value.int IntKind.i64 0, Value.int IntKind.i64 0] 56)).cell? ⟨w.heap.size, 1, none⟩ = some (.int .i64 x.f1) := by go_simp
  have h2 : ((w.alloc (Obj.cells #[Value.int IntKind.i64 x.f0, Value.int IntKind.i64 x.f1, Value.int IntKind.i64 nv, Value.int IntKind.i64 x.f3, Value.int IntKind.i64 x.f4] 56)).alloc (Obj.cells #[Value.int IntKind.i64 0, Value.int IntKind.i64 0, Value.int IntKind.i64 0, Value.int IntKind.i64 0, Value.int IntKind.i64 0] 56)).cell? ⟨w.heap.size, 2, none⟩ = some (.int .i64 nv) := by go_simp
  have h3 : ((w.alloc (Obj.cells #[Value.int IntKind.i64 x.f0, Value.int IntKind.i64 x.f1, Value.int IntKind.i64 nv, Value.int IntKind.i64 x.f3, Value.int IntKind.i64 x.f4] 56)).alloc (Obj.cells #[Value.int IntKind.i64 0, Value.int IntKind.i64 0, Value.int IntKind.i64 0, Value.int IntKind.i64 0, Value.int IntKind.i64 0] 56)).cell? ⟨w.heap.size, 3, none⟩ = some (.int .i64 x.f3) := by go_simp
  have h4 : ((w.alloc (Obj.cells #[Value.int IntKind.i64 x.f0, Value.int IntKind.i64 x.f1, Value.int IntKind.i64 nv, Value.int IntKind.i64 x.f3, Value.int IntKind.i64 x.f4] 56)).alloc (Obj.cells #[Value.int IntKind.i64 0, Value.int IntKind.i64 0, Value.int IntKind.i64 0, Value.int IntKind.i64 0, Value.int IntKind.i64 0] 56)).cell? ⟨w.heap.size, 4, none⟩ = some (.int .i64 x.f4) := by go_simp
  have y0 : ((w.alloc (Obj.cells #[Value.int IntKind.i64 x.f0, Value.int IntKind.i64 x.f1, Value.int IntKind.i64 nv, Value.int IntKind.i64 x.f3, Value.int IntKind.i64 x.f4] 56)).alloc (Obj.cells #[Value.int IntKind.i64 0, Value.int IntKind.i64 0, Value.int IntKind.i64 0, Value.int IntKind.i64 0, Value.int IntKind.i64 0] 56)).cell? ⟨w.heap.size + 1, 0, none⟩ = some (.int .i64 0) := by go_simp
  have y1 : ((w.alloc (Obj.cells #[Value.int IntKind.i64 x.f0, Value.int IntKind.i64 x.f1, Value.int IntKind.i64 nv, Value.int IntKind.i64 x.f3, Value.int IntKind.i64 x.f4] 56)).alloc (Obj.cells #[Value.int IntKind.i64 0, Value.int IntKind.i64 0, Value.int IntKind.i64 0, Value.int IntKind.i64 0, Value.int IntKind.i64 0] 56)).cell? ⟨w.heap.size + 1, 1, none⟩ = some (.int .i64 0) := by go_simp
  have y2 : ((w.alloc (Obj.cells #[Value.int IntKind.i64 x.f0, Value.int IntKind.i64 x.f1, Value.int IntKind.i64 nv, Value.int IntKind.i64 x.f3, Value.int IntKind.i64 x.f4] 56)).alloc (Obj.cells #[Value.int IntKind.i64 0, Value.int IntKind.i64 0, Value.int IntKind.i64 0, Value.int IntKind.i64 0, Value.int IntKind.i64 0] 56)).cell? ⟨w.heap.size + 1, 2, none⟩ = some (.int .i64 0) := by go_simp
  have y3 : ((w.alloc (Obj.cells #[Value.int IntKind.i64 x.f0, Value.int IntKind.i64 x.f1, Value.int IntKind.i64 nv, Value.int IntKind.i64 x.f3, Value.int IntKind.i64 x.f4] 56)).alloc (Obj.cells #[Value.int IntKind.i64 0, Value.int IntKind.i64 0, Value.int IntKind.i64 0, Value.int IntKind.i64 0, Value.int IntKind.i64 0] 56)).cell? ⟨w.heap.size + 1, 3, none⟩ = some (.int .i64 0) := by go_simp
  have y4 : ((w.alloc (Obj.cells #[Value.int IntKind.i64 x.f0, Value.int IntKind.i64 x.f1, Value.int IntKind.i64 nv, Value.int IntKind.i64 x.f3, Value.int IntKind.i64 x.f4] 56)).alloc (Obj.cells #[Value.int IntKind.i64 0, Value.int IntKind.i64 0, Value.int IntKind.i64 0, Value.int IntKind.i64 0, Value.int IntKind.i64 0] 56)).cell? ⟨w.heap.size + 1, 4, none⟩ = some (.int .i64 0) := by go_simp
  have u0 : ((w.alloc (Obj.cells #[Value.int IntKind.i64 x.f0, Value.int IntKind.i64 x.f1, Value.int IntKind.i64 nv, Value.int IntKind.i64 x.f3, Value.int IntKind.i64 x.f4] 56)).alloc (Obj.cells #[Value.int IntKind.i64 0, Value.int IntKind.i64 0, Value.int IntKind.i64 0, Value.int IntKind.i64 0, Value.int IntKind.i64 0] 56)).frozen? ⟨w.heap.size + 1, 0, none⟩ = false := by go_simp
  have u1 : ((w.alloc (Obj.cells #[Value.int IntKind.i64 x.f0, Value.int IntKind.i64 x.f1, Value.int IntKind.i64 nv, Value.int IntKind.i64 x.f3, Value.int IntKind.i64 x.f4] 56)).alloc (Obj.cells #[Value.int IntKind.i64 0, Value.int IntKind.i64 0, Value.int IntKind.i64 0, Value.int IntKind.i64 0, Value.int IntKind.i64 0] 56)).frozen? ⟨w.heap.size + 1, 1, none⟩ = false := by go_simp
  have u2 : ((w.alloc (Obj.cells #[Value.int IntKind.i64 x.f0, Value.int IntKind.i64 x.f1, Value.int IntKind.i64 nv, Value.int IntKind.i64 x.f3, Value.int IntKind.i64 x.f4] 56)).alloc (Obj.cells #[Value.int IntKind.i64 0, Value.int IntKind.i64 0, Value.int IntKind.i64 0, Value.int IntKind.i64 0, Value.int IntKind.i64 0] 56)).frozen? ⟨w.heap.size + 1, 2, none⟩ = false := by go_simp
  have u3 : ((w.alloc (Obj.cells #[Value.int IntKind.i64 x.f0, Value.int IntKind.i64 x.f1, Value.int IntKind.i64 nv, Value.int IntKind.i64 x.f3, Value.int IntKind.i64 x.f4] 56)).alloc (Obj.cells #[Value.int IntKind.i64 0, Value.int IntKind.i64 0, Value.int IntKind.i64 0, Value.int IntKind.i64 0, Value.int IntKind.i64 0] 56)).frozen? ⟨w.heap.size + 1, 3, none⟩ = false := by go_simp
  have u4 : ((w.alloc (Obj.cells #[Value.int IntKind.i64 x.f0, Value.int IntKind.i64 x.f1, Value.int IntKind.i64 nv, Value.int IntKind.i64 x.f3, Value.int IntKind.i64 x.f4] 56)).alloc (Obj.cells #[Value.int IntKind.i64 0, Value.int IntKind.i64 0, Value.int IntKind.i64 0, Value.int IntKind.i64 0, Value.int IntKind.i64 0] 56)).frozen? ⟨w.heap.size + 1, 4, none⟩ = false := by go_simp
  have HB : Aside0 (Below w.heap.size w ((w.alloc (Obj.cells #[Value.int IntKind.i64 x.f0, Value.int IntKind.i64 x.f1, Value.int IntKind.i64 nv, Value.int IntKind.i64 x.f3, Value.int IntKind.i64 x.f4] 56)).alloc (Obj.cells #[Value.int IntKind.i64 0, Value.int IntKind.i64 0, Value.int IntKind.i64 0, Value.int IntKind.i64 0, Value.int IntKind.i64 0] 56))) := ⟨by repeat (first | exact Below.refl _ _ | apply below_alloc | apply pw_below_drewN | (refine below_set ?_ (by omega)))⟩
  generalize ((w.alloc (Obj.cells #[Value.int IntKind.i64 x.f0, Value.int IntKind.i64 x.f1, Value.int IntKind.i64 nv, Value.int IntKind.i64 x.f3, Value.int IntKind.i64 x.f4] 56)).alloc (Obj.cells #[Value.int IntKind.i64 0, Value.int IntKind.i64 0, Value.int IntKind.i64 0, Value.int IntKind.i64 0, Value.int IntKind.i64 0] 56)) = W1 at *
  have n1 : w.heap.size + 1 ≠ w.heap.size := by omega
  go_region_held3 (fun w' => w'.cell? ⟨w.heap.size, 0, none⟩ = some (.int .i64 x.f0) ∧ w'.cell? ⟨w.heap.size, 1, none⟩ = some (.int .i64 x.f1) ∧ w'.cell? ⟨w.heap.size, 2, none⟩ = some (.int .i64 nv) ∧ w'.cell? ⟨w.heap.size, 3, none⟩ = some (.int .i64 x.f3) ∧ w'.cell? ⟨w.heap.size, 4, none⟩ = some (.int .i64 x.f4))
    ((repeat' refine And.intro ?_ ?_) <;> first
      | ((with_reducible refine far (far (far (far (far ?_ ?_) ?_) ?_) ?_) ?_) <;> first | exact blkne n1 | exact Sine.keepc (w := W1) (by assumption) (by (repeat (first | exact Below.refl _ _ | apply pw_below_drewN | apply below_drew1 | exact HB.out | refine below_step ?_ (by assumption))); done))
      | exact Sine.keepc (w := W1) (by assumption) (by (repeat (first | exact Below.refl _ _ | apply pw_below_drewN | apply below_drew1 | exact HB.out | refine below_step ?_ (by assumption))); done))
    (first
      | (go_at_call 90; (with_reducible refine (impl_IsLeg.calls _ _ _ _ _ _ _ HI.out).mono ?_); rintro e w' ⟨rfl, hw1⟩
         have HB3 : Aside0 (Below w.heap.size w w') := ⟨by (repeat (first | exact Below.refl _ _ | apply pw_below_drewN | apply below_drew1 | exact HB.out | refine below_step ?_ (by assumption))); done⟩
         have k0 := Sine.keepc (w := W1) y0 (show Below W1.heap.size W1 w' from by (repeat (first | exact Below.refl _ _ | apply pw_below_drewN | apply below_drew1 | exact HB.out | refine below_step ?_ (by assumption))); done)
         have z0 := keepz (w := W1) y0 u0 (show Below W1.heap.size W1 w' from by (repeat (first | exact Below.refl _ _ | apply pw_below_drewN | apply below_drew1 | exact HB.out | refine below_step ?_ (by assumption))); done)
         have k1 := Sine.keepc (w := W1) y1 (show Below W1.heap.size W1 w' from by (repeat (first | exact Below.refl _ _ | apply pw_below_drewN | apply below_drew1 | exact HB.out | refine below_step ?_ (by assumption))); done)
         have z1 := keepz (w := W1) y1 u1 (show Below W1.heap.size W1 w' from by (repeat (first | exact Below.refl _ _ | apply pw_below_drewN | apply below_drew1 | exact HB.out | refine below_step ?_ (by assumption))); done)
         have k2 := Sine.keepc (w := W1) y2 (show Below W1.heap.size W1 w' from by (repeat (first | exact Below.refl _ _ | apply pw_below_drewN | apply below_drew1 | exact HB.out | refine below_step ?_ (by assumption))); done)
         have z2 := keepz (w := W1) y2 u2 (show Below W1.heap.size W1 w' from by (repeat (first | exact Below.refl _ _ | apply pw_below_drewN | apply below_drew1 | exact HB.out | refine below_step ?_ (by assumption))); done)
         have k3 := Sine.keepc (w := W1) y3 (show Below W1.heap.size W1 w' from by (repeat (first | exact Below.refl _ _ | apply pw_below_drewN | apply below_drew1 | exact HB.out | refine below_step ?_ (by assumption))); done)
         have z3 := keepz (w := W1) y3 u3 (show Below W1.heap.size W1 w' from by (repeat (first | exact Below.refl _ _ | apply pw_below_drewN | apply below_drew1 | exact HB.out | refine below_step ?_ (by assumption))); done)
         have k4 := Sine.keepc (w := W1) y4 (show Below W1.heap.size W1 w' from by (repeat (first | exact Below.refl _ _ | apply pw_below_drewN | apply below_drew1 | exact HB.out | refine below_step ?_ (by assumption))); done)
         have z4 := keepz (w := W1) y4 u4 (show Below W1.heap.size W1 w' from by (repeat (first | exact Below.refl _ _ | apply pw_below_drewN | apply below_drew1 | exact HB.out | refine below_step ?_ (by assumption))); done)))
  go_wp2
  exact bodyPost_ret (v := .tuple #[.agg #[.int .i64 x.f0, .int .i64 x.f1, .int .i64 nv, .int .i64 x.f3, .int .i64 x.f4], .bool bb]) (by simp [results, Tryd.results100, go_sem, k0, k1, k2, k3, k4]) rfl ⟨rfl, by repeat (first | exact HB3.out | apply below_drew1 | (refine below_set ?_ (by omega)))⟩
end Go.Proofs.YtiooiefjcbooeaaDoor.Net

/- The program's fixLeg, walked. -/
namespace Go.Proofs.YtiooiefjcbooeaaDoor.Net
open Go Go.RowKit Go.Proofs.YtiooiefjcbooeaaDoorW.PrintWords Go.Proofs.YtiooiefjcbooeaaDoorW.PrintLast Go.Proofs.YtiooiefjcbooeaaDoorW.PrintMore Go.Proofs.YtiooiefjcbooeaaDoor.A Go.Proofs.YtiooiefjcbooeaaDoor.Plain
set_option linter.unusedVariables false
set_option linter.unusedSimpArgs false
set_option maxHeartbeats 1000000 in
set_option maxRecDepth 100000 in
theorem fixed0 (x : S56) (fix : Int) (hf : ¬ (1 ≤ fix ∧ fix ≤ 4)) (w : World) :
    Calls Tryd.prog 100 #[.agg #[.int .i64 x.f0, .int .i64 x.f1, .int .i64 x.f2, .int .i64 x.f3, .int .i64 x.f4], .int .i64 fix] w (FixPost ⟨0, 0, 0, 0, 0⟩ false w) := by
  have h1 : (fix == 1) = false := by rw [beq_eq_false_iff_ne]; omega
  have h2 : (fix == 2) = false := by rw [beq_eq_false_iff_ne]; omega
  have h3 : (fix == 3) = false := by rw [beq_eq_false_iff_ne]; omega
  have h4 : (fix == 4) = false := by rw [beq_eq_false_iff_ne]; omega
  clear hf
  go_enter Tryd.func100, Tryd.ntmps100
  go_wp2
  exact bodyPost_ret (v := .tuple #[.agg #[.int .i64 0, .int .i64 0, .int .i64 0, .int .i64 0, .int .i64 0], .bool false]) (by simp [results, Tryd.results100, go_sem]) rfl ⟨rfl, by repeat (first | exact Below.refl _ _ | apply below_alloc | apply below_drew1 | (refine below_set ?_ (by omega)))⟩
theorem fixedW (x : S56) (fix : Int) (w : World) :
    Calls Tryd.prog 100 #[.agg #[.int .i64 x.f0, .int .i64 x.f1, .int .i64 x.f2, .int .i64 x.f3, .int .i64 x.f4], .int .i64 fix] w (FixPost (fixedM x fix).1 (fixedM x fix).2 w) := by
  by_cases hf : 1 ≤ fix ∧ fix ≤ 4
  · unfold fixedM
    rw [if_pos hf]
    have hc : fix = 1 ∨ fix = 2 ∨ fix = 3 ∨ fix = 4 := by omega
    rcases hc with rfl | rfl | rfl | rfl
    · exact fixed1 x _ rfl w
    · exact fixed2 x _ rfl w
    · exact fixed3 x _ rfl w
    · exact fixed4 x _ rfl w
  · unfold fixedM
    rw [if_neg hf]
    exact fixed0 x fix hf w
theorem eqNil (la : Addr) (n c : Nat) (w : World) : (binOp .eql 26 (.slice (some la) n c) (.slice none 0 0)).run Tryd.prog w = .ok (.bool false) w := by
  have h : ∀ d : Nat, (Op.equalIn (d + 1) 26 (.slice (some la) n c) (.slice none 0 0)).run Tryd.prog w = .ok false w := fun d => by simp [Op.equalIn, run_underlying Tryd.underlying26]
  simp [binOp, Op.equal, Op.maxDepth, h]
attribute [local go_sem] eqNil
set_option maxHeartbeats 1000000 in
set_option maxRecDepth 100000 in
theorem cloneW (la : Addr) (c : Nat) (ls : L) (w : World) (hr0 : Kd.C k56 w (some la) ls.length ls) (hc : ls.length ≤ c) (hn : ls.length ≤ 12) :
    Calls Tryd.prog 101 #[.slice (some la) ls.length c] w fun e w' => ∃ v, e = .returned v ∧ Kd.R k56 56 w' w.heap.size (fun b => w.heap.size ≤ b) v ls ∧ Below w.heap.size w w' := by
  have HR0 := Aside0.mk hr0
  have HB := Aside0.mk (Below.refl w.heap.size w)
  clear hr0
  go_enter Tryd.func101, Tryd.ntmps101
  go_wp2_with (first
    | ((with_reducible refine gate_dst (N := 5) rfl ?_); refine Kd.R_lit k56 _ 56 ?hg (N := 5) ?hd (xs := ([] : List (S56))) (inner := []) (ok := fun b => w.heap.size ≤ b) (okp := fun b => w.heap.size ≤ b) ?hr ?hp (fun _ hk => hk) (Nat.le_refl _) (Below.refl _ _) (Nat.le_refl _) (by simp) ?_; (case hd => rfl); (case hg => rfl); (case hr => first | (go_simp; done) | (go_simp; rfl)); (case hp => exact (Reps.none _ _)); intro v1 w1 ho1 hb hg_ hnew_; clear hg_ hnew_; have HO := Aside0.mk ho1; replace HB := Aside0.mk (below_step HB.out hb); clear hb ho1)
    | ((with_reducible refine gate_builtin (b := .append) (xs := #[.tmp 5, .tmp 6]) rfl ?_); at_builtin; refine Kd.R_append_rows k56 (w0 := w) w.heap.size rfl (.tmp 5) (.tmp 6) 26 56 (.agg #[(.int .i64 0), (.int .i64 0), (.int .i64 0), (.int .i64 0), (.int .i64 0)]) 40 rfl Tryd.underlying26 info56 rfl (by decide) (by omega) v1 [] ls _ _ _ (fun b => w.heap.size ≤ b) (fun _ => False) rfl rfl ?aO ?aR (fun _ _ h => h) (fun _ h => h.elim) ?aF ?aB ?aS ?aL ?_; (case aR => exact (Kd.C_below HR0.out HB.out)); (case aB => exact HB.out); (case aF => intro b hb; have := below_size HB.out; omega); (case aO => exact HO.out); (case aS => exact (below_size HB.out)); (case aL => simp; omega); intro v2 w2 ho hb hg hat; have HP1 := Aside0.mk ho; have HP2 := Aside0.mk hb; clear ho hb hg hat))
  go_ret
  exact ⟨_, rfl, HP1.out, HP2.out⟩
set_option maxHeartbeats 2000000 in
set_option maxRecDepth 100000 in
theorem fixLegNo (A : Option Addr) (c : Nat) (ls : L) (k : Nat) (fix : Int) (w : World) (hr0 : Kd.C k56 w A ls.length ls) (hk : k < ls.length) (hno : (fixedM (leg ls k) fix).2 = false) :
    Calls Tryd.prog 77 #[.slice A ls.length c, .int .i64 (k : Int), .int .i64 fix] w fun e w' => e = .returned (.tuple #[.slice none 0 0, .bool false]) ∧ Below w.heap.size w w' := by
  obtain ⟨la, e2, h0, h1, h2, h3, h4⟩ := at_T56 hr0 (k : Int) (by omega) (by omega)
  cases e2
  rw [Int.toNat_natCast, show rd_T56 ls (k : Int) = leg ls k from rfl] at h0 h1 h2 h3 h4
  have k0 : (0 : Int) ≤ (k : Int) := by omega
  have k1 : (k : Int) < (ls.length : Int) := by omega
  have HF := Aside0.mk (fun W => fixedW (leg ls k) fix W)
  rw [hno] at HF
  have HB := Aside0.mk (Below.refl w.heap.size w)
  clear hr0 hno
  generalize (fixedM (leg ls k) fix).1 = y at *
  generalize leg ls (k : Int) = x at *
  go_enter Tryd.func77, Tryd.ntmps77
  go_wp2_with (go_at_call 100; have hq := HF.out w; (with_reducible refine hq.mono ?_); clear hq; rintro e w1 ⟨rfl, hw⟩; replace HB := Aside0.mk hw; clear hw)
  exact bodyPost_ret (v := .tuple #[.slice none 0 0, .bool false]) (by simp [results, Tryd.results77, go_sem]) rfl ⟨rfl, by repeat (first | exact HB.out | apply below_alloc | apply below_drew1 | (refine below_set ?_ (by have := below_size HB.out; omega)))⟩
set_option maxHeartbeats 4000000 in
set_option maxRecDepth 100000 in
theorem fixLegYes (A : Option Addr) (c : Nat) (ls : L) (k : Nat) (fix : Int) (w : World) (hr0 : Kd.C k56 w A ls.length ls) (hc : ls.length ≤ c) (hn : ls.length ≤ 12) (hk : k < ls.length) (hyes : (fixedM (leg ls k) fix).2 = true) :
    Calls Tryd.prog 77 #[.slice A ls.length c, .int .i64 (k : Int), .int .i64 fix] w fun e w' => ∃ v, e = .returned (.tuple #[v, .bool true]) ∧ Kd.R k56 56 w' w.heap.size (fun _ => True) v (ls.set k (fixedM (leg ls k) fix).1) ∧ Below w.heap.size w w' := by
  obtain ⟨la, e2, h0, h1, h2, h3, h4⟩ := at_T56 hr0 (k : Int) (by omega) (by omega)
  cases e2
  rw [Int.toNat_natCast, show rd_T56 ls (k : Int) = leg ls k from rfl] at h0 h1 h2 h3 h4
  have k0 : (0 : Int) ≤ (k : Int) := by omega
  have k1 : (k : Int) < (ls.length : Int) := by omega
  have HF := Aside0.mk (fun W => fixedW (leg ls k) fix W)
  rw [hyes] at HF
  have HR := Aside0.mk hr0
  have HB := Aside0.mk (Below.refl w.heap.size w)
  clear hr0 hyes
  generalize (fixedM (leg ls k) fix).1 = y at *
  generalize leg ls (k : Int) = x at *
  go_enter Tryd.func77, Tryd.ntmps77
  go_wp2_with (first
    | (go_at_call 100; have hq := HF.out w; (with_reducible refine hq.mono ?_); clear hq; rintro e w1 ⟨rfl, hw⟩; replace HB := Aside0.mk hw; clear hw)
    | (go_at_call 101
       have HB2 := Aside0.mk (below_alloc HB.out (Obj.cells #[Value.int IntKind.i64 y.f0, Value.int IntKind.i64 y.f1, Value.int IntKind.i64 y.f2, Value.int IntKind.i64 y.f3, Value.int IntKind.i64 y.f4] 56))
       have c0 : (w1.alloc (Obj.cells #[Value.int IntKind.i64 y.f0, Value.int IntKind.i64 y.f1, Value.int IntKind.i64 y.f2, Value.int IntKind.i64 y.f3, Value.int IntKind.i64 y.f4] 56)).cell? ⟨w1.heap.size, 0, none⟩ = some (.int .i64 y.f0) := by go_simp
       have c1 : (w1.alloc (Obj.cells #[Value.int IntKind.i64 y.f0, Value.int IntKind.i64 y.f1, Value.int IntKind.i64 y.f2, Value.int IntKind.i64 y.f3, Value.int IntKind.i64 y.f4] 56)).cell? ⟨w1.heap.size, 1, none⟩ = some (.int .i64 y.f1) := by go_simp
       have c2 : (w1.alloc (Obj.cells #[Value.int IntKind.i64 y.f0, Value.int IntKind.i64 y.f1, Value.int IntKind.i64 y.f2, Value.int IntKind.i64 y.f3, Value.int IntKind.i64 y.f4] 56)).cell? ⟨w1.heap.size, 2, none⟩ = some (.int .i64 y.f2) := by go_simp
       have c3 : (w1.alloc (Obj.cells #[Value.int IntKind.i64 y.f0, Value.int IntKind.i64 y.f1, Value.int IntKind.i64 y.f2, Value.int IntKind.i64 y.f3, Value.int IntKind.i64 y.f4] 56)).cell? ⟨w1.heap.size, 3, none⟩ = some (.int .i64 y.f3) := by go_simp
       have c4 : (w1.alloc (Obj.cells #[Value.int IntKind.i64 y.f0, Value.int IntKind.i64 y.f1, Value.int IntKind.i64 y.f2, Value.int IntKind.i64 y.f3, Value.int IntKind.i64 y.f4] 56)).cell? ⟨w1.heap.size, 4, none⟩ = some (.int .i64 y.f4) := by go_simp
       have hsz := below_size HB2.out
       have hq := cloneW la c ls (w1.alloc (Obj.cells #[Value.int IntKind.i64 y.f0, Value.int IntKind.i64 y.f1, Value.int IntKind.i64 y.f2, Value.int IntKind.i64 y.f3, Value.int IntKind.i64 y.f4] 56)) (Kd.C_below HR.out HB2.out) hc hn
       (with_reducible refine hq.mono ?_); clear hq; rintro e w3 ⟨v, rfl, hv, hw⟩
       replace c0 := Sine.keepc c0 hw
       replace c1 := Sine.keepc c1 hw
       replace c2 := Sine.keepc c2 hw
       replace c3 := Sine.keepc c3 hw
       replace c4 := Sine.keepc c4 hw
       have HO := Aside0.mk (Kd.R_lower (Kd.R_mono hv (fun _ _ => trivial) (ok' := fun _ => True)) hsz)
       replace HB := Aside0.mk (below_step HB2.out hw)
       clear HB2 hv hw
       obtain ⟨gg, cc, eo, gb, gl, cl, HG8⟩ := Kd.R_form HO.out (by omega)
       subst eo
       obtain ⟨ce, hcl, hM, hcc, hfr⟩ := Kd.R_elem HO.out z56 (k : Int) k0 k1
       obtain rfl := k56_openM hM
       have HP := Aside0.mk (Kd.R_seg HO.out (k : Int) k0 k1 (seg := [.int .i64 y.f0, .int .i64 y.f1, .int .i64 y.f2, .int .i64 y.f3, .int .i64 y.f4]) (j := 0) hcl hcc (show 5 ≤ 5 from by decide) (x' := y) (k56_mkM _ _ _ y) (fun _ hk => hk))
       have x0 := hcc 0 _ rfl
       have x1 := hcc 1 _ rfl
       have x2 := hcc 2 _ rfl
       have x3 := hcc 3 _ rfl
       have x4 := hcc 4 _ rfl
       have f0 := hfr 0
       have f1 := hfr 1
       have f2 := hfr 2
       have f3 := hfr 3
       have f4 := hfr 4
       (try simp only [show (k56).sz = 5 from rfl, Nat.mul_one, Nat.add_zero, Int.toNat_natCast] at x0 x1 x2 x3 x4 f0 f1 f2 f3 f4)))
  exact bodyPost_ret (v := .tuple #[.slice (some ⟨gg, 0, none⟩) ls.length cc, .bool true]) (by simp [results, Tryd.results77, go_sem]) rfl ⟨_, rfl, by have h := HP.out.1; rw [Int.toNat_natCast, Nat.add_zero] at h; exact h, by repeat (first | exact HB.out | (refine below_set ?_ (by omega)))⟩
end Go.Proofs.YtiooiefjcbooeaaDoor.Net

namespace Go.Proofs.YtiooiefjcbooeaaDoor.A
open Go.RowKit Go.Proofs.YtiooiefjcbooeaaDoorW.PrintWords Go.Proofs.YtiooiefjcbooeaaDoorW.PrintLast Go.Proofs.YtiooiefjcbooeaaDoorW.PrintMore
open Go.Proofs.YtiooiefjcbooeaaDoor.Net
set_option linter.unusedVariables false
set_option linter.unusedSimpArgs false
def impl_FixLeg.f (l0 : List (S56)) (a1 a2 : Int) : Option (List (S56) × Bool) := if l0.length ≤ 140737488351232 then some (fixM l0 a1 a2) else none
set_option maxHeartbeats 2000000 in
set_option maxRecDepth 100000 in
theorem impl_FixLeg.calls (A0 : Option Addr) (c0 : Nat) (l0 : List (S56)) (a1 : Int) (a2 : Int) (r1 : List (S56)) (r2 : Bool) (w : World) (hr0 : Kd.C k56 w A0 l0.length l0) (hc0 : l0.length ≤ c0) (h : impl_FixLeg.f l0 a1 a2 = some (r1, r2)) (hL : Sine.Laid w) :
    Calls Tryd.prog 32 #[.slice A0 l0.length c0, .int .i64 a1, .int .i64 a2] w fun e w' => ∃ v0_ : Value, e = .returned (.tuple #[v0_, .bool r2]) ∧ Kd.R k56 56 w' w.heap.size (fun _ => True) v0_ r1 ∧ Below w.heap.size w w' := by
  unfold impl_FixLeg.f at h
  by_cases hb : l0.length ≤ 140737488351232
  · rw [if_pos hb] at h
    unfold fixM at h
    have HR := Aside0.mk hr0
    have HL := Aside0.mk hL
    have HB := Aside0.mk (Below.refl w.heap.size w)
    by_cases hm : legsB l0 = true ∧ (0 ≤ a1 ∧ a1 < (l0.length : Int))
    · obtain ⟨k, rfl⟩ := Int.eq_ofNat_of_zero_le hm.2.1
      have HV := Aside0.mk (legsB_iff.mp hm.1)
      have hv := hm.1
      have h0 := hm.2.1
      have h1 := hm.2.2
      have hk : k < l0.length := by omega
      have hgk := leg_good HV.out.1 k hk
      have hpq : Pq (RR l0) (leg l0 k).f0.toNat = decide ((leg l0 k).f0 ∈ plL (RR l0)) := by rw [Pq_eq, Int.toNat_of_nonneg hgk.1.1]
      clear hr0 hL hgk
      by_cases hp : (leg l0 k).f0 ∈ plL (RR l0)
      · rw [decide_eq_true hp] at hpq
        have hfx : (fixedM (leg l0 k) a2).2 = decide ((1 ≤ a2 ∧ a2 ≤ 4) ∧ Net.Good (fixX (leg l0 k) a2)) := by
          unfold fixedM
          by_cases q : 1 ≤ a2 ∧ a2 ≤ 4
          · rw [if_pos q]
            show decide _ = decide _
            rw [decide_eq_decide]
            exact ⟨fun z => ⟨q, z⟩, fun z => z.2⟩
          · rw [if_neg q, decide_eq_false (fun z => q z.1)]
        by_cases hy : (1 ≤ a2 ∧ a2 ≤ 4) ∧ Net.Good (fixX (leg l0 k) a2)
        · rw [if_pos ⟨hm.1, hm.2, hp, hy.1, hy.2⟩, Int.toNat_natCast] at h
          simp only [Option.some.injEq, Prod.mk.injEq] at h
          obtain ⟨rfl, rfl⟩ := h
          rw [decide_eq_true hy] at hfx
          have hfe : fixX (leg l0 k) a2 = (fixedM (leg l0 k) a2).1 := by unfold fixedM; rw [if_pos hy.1]
          rw [hfe]
          have hn := HV.out.2
          clear hm hp hy hfe
          go_enter Tryd.func32, Tryd.ntmps32
          go_wp2_with (first
            | (go_at_call 58; (with_reducible refine (placedLeg A0 c0 l0 (k : Int) _ ?s0 ?s1 hc0 hv h0 h1).mono ?_); (case s0 => exact HL.out.keep (by (repeat (first | exact HB.out | exact Below.refl _ _ | apply below_alloc | apply pw_below_drewN | apply below_drew1)); done)); (case s1 => exact Kd.C_below HR.out (by (repeat (first | exact HB.out | exact Below.refl _ _ | apply below_alloc | apply pw_below_drewN | apply below_drew1)); done)); rintro e w' ⟨g, T, cA, cC, rfl, _, _, hw⟩; rw [hpq]; replace HB := Aside0.mk (below_step (show Below w.heap.size w _ from by (repeat (first | exact HB.out | exact Below.refl _ _ | apply below_alloc | apply pw_below_drewN | apply below_drew1)); done) hw); clear hw)
            | (go_at_call 77; have hsz := below_size HB.out; have hq := fixLegYes A0 c0 l0 k a2 w' (Kd.C_below HR.out HB.out) hc0 hn hk hfx; (with_reducible refine hq.mono ?_); clear hq; rintro e w3 ⟨v, rfl, hv3, hw⟩; have HO := Aside0.mk (Kd.R_lower hv3 hsz); replace HB := Aside0.mk (below_step HB.out hw); clear hw hv3))
          exact bodyPost_ret (v := .tuple #[v, .bool true]) (by simp [results, Tryd.results32, go_sem]) rfl ⟨_, rfl, HO.out, by repeat (first | exact HB.out | apply below_drew1)⟩
        · rw [if_neg (fun e => hy ⟨e.2.2.2.1, e.2.2.2.2⟩)] at h
          simp only [Option.some.injEq, Prod.mk.injEq] at h
          obtain ⟨rfl, rfl⟩ := h
          rw [decide_eq_false hy] at hfx
          clear hm hp hy
          go_enter Tryd.func32, Tryd.ntmps32
          go_wp2_with (first
            | (go_at_call 58; (with_reducible refine (placedLeg A0 c0 l0 (k : Int) _ ?s0 ?s1 hc0 hv h0 h1).mono ?_); (case s0 => exact HL.out.keep (by (repeat (first | exact HB.out | exact Below.refl _ _ | apply below_alloc | apply pw_below_drewN | apply below_drew1)); done)); (case s1 => exact Kd.C_below HR.out (by (repeat (first | exact HB.out | exact Below.refl _ _ | apply below_alloc | apply pw_below_drewN | apply below_drew1)); done)); rintro e w' ⟨g, T, cA, cC, rfl, _, _, hw⟩; rw [hpq]; replace HB := Aside0.mk (below_step (show Below w.heap.size w _ from by (repeat (first | exact HB.out | exact Below.refl _ _ | apply below_alloc | apply pw_below_drewN | apply below_drew1)); done) hw); clear hw)
            | (go_at_call 77; have hq := fixLegNo A0 c0 l0 k a2 w' (Kd.C_below HR.out HB.out) hk hfx; (with_reducible refine hq.mono ?_); clear hq; rintro e w3 ⟨rfl, hw⟩; replace HB := Aside0.mk (below_step HB.out hw); clear hw))
          exact bodyPost_ret (v := .tuple #[.slice none 0 0, .bool false]) (by simp [results, Tryd.results32, go_sem]) rfl ⟨_, rfl, Kd.R_nil _ _ _ _ _, by repeat (first | exact HB.out | apply below_drew1)⟩
      · rw [if_neg (fun e => hp e.2.2.1)] at h
        simp only [Option.some.injEq, Prod.mk.injEq] at h
        obtain ⟨rfl, rfl⟩ := h
        rw [decide_eq_false hp] at hpq
        clear hm hp
        go_enter Tryd.func32, Tryd.ntmps32
        go_wp2_with (go_at_call 58; (with_reducible refine (placedLeg A0 c0 l0 (k : Int) _ ?s0 ?s1 hc0 hv h0 h1).mono ?_); (case s0 => exact HL.out.keep (by (repeat (first | exact HB.out | exact Below.refl _ _ | apply below_alloc | apply pw_below_drewN | apply below_drew1)); done)); (case s1 => exact Kd.C_below HR.out (by (repeat (first | exact HB.out | exact Below.refl _ _ | apply below_alloc | apply pw_below_drewN | apply below_drew1)); done)); rintro e w' ⟨g, T, cA, cC, rfl, _, _, hw⟩; rw [hpq]; replace HB := Aside0.mk (below_step (show Below w.heap.size w _ from by (repeat (first | exact HB.out | exact Below.refl _ _ | apply below_alloc | apply pw_below_drewN | apply below_drew1)); done) hw); clear hw)
        exact bodyPost_ret (v := .tuple #[.slice none 0 0, .bool false]) (by simp [results, Tryd.results32, go_sem]) rfl ⟨_, rfl, Kd.R_nil _ _ _ _ _, by repeat (first | exact HB.out | apply below_drew1)⟩
    · rw [if_neg (by rintro ⟨h1, h2, _⟩; exact hm ⟨h1, h2⟩)] at h
      simp only [Option.some.injEq, Prod.mk.injEq] at h
      obtain ⟨rfl, rfl⟩ := h
      have hno : legsB l0 = true → ¬ (0 ≤ a1 ∧ a1 < (l0.length : Int)) := fun h1 h2 => hm ⟨h1, h2⟩
      clear hr0 hL hm
      go_enter Tryd.func32, Tryd.ntmps32
      go_wp2_with (go_at_call 58; (with_reducible refine (placedLeg_no A0 c0 l0 a1 _ ?s1 hc0 hb hno).mono ?_); (case s1 => exact Kd.C_below HR.out (by (repeat (first | exact HB.out | exact Below.refl _ _ | apply below_alloc | apply pw_below_drewN | apply below_drew1)); done)); rintro e w' ⟨rfl, hw⟩; replace HB := Aside0.mk (below_step (show Below w.heap.size w _ from by (repeat (first | exact HB.out | exact Below.refl _ _ | apply below_alloc | apply pw_below_drewN | apply below_drew1)); done) hw); clear hw)
      exact bodyPost_ret (v := .tuple #[.slice none 0 0, .bool false]) (by simp [results, Tryd.results32, go_sem]) rfl ⟨_, rfl, Kd.R_nil _ _ _ _ _, by repeat (first | exact HB.out | apply below_drew1)⟩
  · rw [if_neg hb] at h
    cases h
end Go.Proofs.YtiooiefjcbooeaaDoor.A
