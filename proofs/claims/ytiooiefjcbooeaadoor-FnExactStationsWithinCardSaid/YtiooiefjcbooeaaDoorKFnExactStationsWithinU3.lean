/- The program's StationsWithin, in the form of the printed functions, over the laid table of sines. -/
import Derived.Test.YtiooiefjcbooeaaDoorKFnExactStationsWithin0
import Derived.Test.YtiooiefjcbooeaaDoorKFnExactStationsWithin1
import Derived.Test.YtiooiefjcbooeaaDoorKFnExactStationsWithin2
import Derived.Test.YtiooiefjcbooeaaDoorKFnExactStationsWithin3
import Derived.Test.YtiooiefjcbooeaaDoorKFnExactStationsWithin4
import Derived.Test.YtiooiefjcbooeaaDoorKFnExactStationsWithinU2
/- The walk of network.stations: the placed stations in ascending order. -/
namespace Go.Proofs.YtiooiefjcbooeaaDoor.Net
open Go Go.RowKit Go.Proofs.YtiooiefjcbooeaaDoorW.PrintWords Go.Proofs.YtiooiefjcbooeaaDoorW.PrintLast Go.Proofs.YtiooiefjcbooeaaDoorW.PrintMore Go.Proofs.YtiooiefjcbooeaaDoor.A Go.Proofs.YtiooiefjcbooeaaDoor.Plain
open Go.Proofs.YtiooiefjcbooeaaDoor.Tree (verts legs W)
open Go.Proofs.YtiooiefjcbooeaaDoor.Grow (Q)
set_option linter.unusedVariables false
set_option linter.unusedSimpArgs false
def selTo (p : Nat → Bool) : Nat → List Int
  | 0 => []
  | k + 1 => if p k = true then selTo p k ++ [(k : Int)] else selTo p k
theorem selTo_len (p : Nat → Bool) : ∀ k, (selTo p k).length ≤ k
  | 0 => by simp [selTo]
  | k + 1 => by
    have := selTo_len p k
    unfold selTo
    split
    · rw [List.length_append, List.length_singleton]; omega
    · omega
theorem mem_selTo (p : Nat → Bool) : ∀ (n : Nat) (i : Int), i ∈ selTo p n ↔ ∃ k : Nat, i = k ∧ k < n ∧ p k = true
  | 0, i => by simp [selTo]
  | n + 1, i => by
    have ih := mem_selTo p n i
    unfold selTo
    split
    · rename_i c
      rw [List.mem_append, ih, List.mem_singleton]
      constructor
      · rintro (⟨k, h1, h2, h3⟩ | rfl)
        · exact ⟨k, h1, by omega, h3⟩
        · exact ⟨n, rfl, by omega, c⟩
      · rintro ⟨k, h1, h2, h3⟩
        by_cases e : k = n
        · exact Or.inr (by rw [h1, e])
        · exact Or.inl ⟨k, h1, by omega, h3⟩
    · rename_i c
      rw [ih]
      constructor
      · rintro ⟨k, h1, h2, h3⟩
        exact ⟨k, h1, by omega, h3⟩
      · rintro ⟨k, h1, h2, h3⟩
        by_cases e : k = n
        · exact absurd (e ▸ h3) c
        · exact ⟨k, h1, by omega, h3⟩
theorem asc_selTo (p : Nat → Bool) : ∀ n, Sort.Asc (selTo p n)
  | 0 => by simp [selTo, Sort.Asc]
  | n + 1 => by
    have ih := asc_selTo p n
    unfold selTo
    split
    · refine List.pairwise_append.mpr ⟨ih, List.pairwise_singleton _ _, fun a ha b hb => ?_⟩
      obtain ⟨k, rfl, hk, _⟩ := (mem_selTo p n a).mp ha
      rw [List.mem_singleton] at hb
      omega
    · exact ih
/-- The placed stations, in ascending order. -/
theorem plL_sel {ls : L} (hg : ∀ x ∈ ls, Good x) : selTo (Pq (RR ls)) 8 = plL (RR ls) := by
  refine Sort.ext (asc_selTo _ _) (asc_plL _) (fun s => ?_)
  rw [mem_selTo]
  constructor
  · rintro ⟨k, rfl, _, h⟩
    rw [Pq_eq] at h
    exact of_decide_eq_true h
  · intro h
    have h8 := Grow.in_range (ends ls) (RR_ok hg).1 (Good.range hg) s ((mem_plL _ _).mp h)
    obtain ⟨k, rfl⟩ := Int.eq_ofNat_of_zero_le h8.1
    exact ⟨k, rfl, by omega, by rw [Pq_eq]; exact decide_eq_true h⟩
def SelPost (l : List Int) (w : World) (e : Ending) (w' : World) : Prop := ∃ v, e = .returned v ∧ Kd.R (Kd.int .i64) 3 w' w.heap.size (fun b => w.heap.size ≤ b) v l ∧ Below w.heap.size w w'
theorem run_idx8 (w : World) (v : Array Value) (k : Nat) (i : Int) (hi : i = (k : Int)) (h8 : k < 8) (x : Value) (hx : v[k]? = some x) : (Instr.index 59 (.agg v) (.int .i64 i)).run Tryd.prog w = .ok x w := by
  subst hi
  have hn : (0 : Int) ≤ (k : Int) ∧ (k : Int) < ((8 : Nat) : Int) := by omega
  simp [Instr.index, run_underlying Tryd.underlying59, asIntOf, hn, go_sem]
  rw [if_pos h8, hx]
  rfl
set_option maxHeartbeats 8000000 in
set_option maxRecDepth 100000 in
theorem stationsW {n T g : Nat} {P : Nat → Bool} {X : Nat → S34} {B : Nat → Bool} {cl : Value} (w : World) (hS : St n T g P X B cl w) :
    Calls Tryd.prog 82 #[.pointer (some ⟨g, 0, none⟩)] w (SelPost (selTo P 8) w) := by
  have HB := Aside0.mk (Below.refl w.heap.size w)
  have p0 := hS.pb 0 (by decide)
  have p1 := hS.pb 1 (by decide)
  have p2 := hS.pb 2 (by decide)
  have p3 := hS.pb 3 (by decide)
  have p4 := hS.pb 4 (by decide)
  have p5 := hS.pb 5 (by decide)
  have p6 := hS.pb 6 (by decide)
  have p7 := hS.pb 7 (by decide)
  clear hS
  obtain ⟨l0, hl0⟩ : ∃ l0, l0 = selTo P 0 := ⟨_, rfl⟩
  obtain ⟨b0, hb0⟩ : ∃ b, b = P 0 := ⟨_, rfl⟩
  rw [← hb0] at p0
  obtain ⟨b1, hb1⟩ : ∃ b, b = P 1 := ⟨_, rfl⟩
  rw [← hb1] at p1
  obtain ⟨b2, hb2⟩ : ∃ b, b = P 2 := ⟨_, rfl⟩
  rw [← hb2] at p2
  obtain ⟨b3, hb3⟩ : ∃ b, b = P 3 := ⟨_, rfl⟩
  rw [← hb3] at p3
  obtain ⟨b4, hb4⟩ : ∃ b, b = P 4 := ⟨_, rfl⟩
  rw [← hb4] at p4
  obtain ⟨b5, hb5⟩ : ∃ b, b = P 5 := ⟨_, rfl⟩
  rw [← hb5] at p5
  obtain ⟨b6, hb6⟩ : ∃ b, b = P 6 := ⟨_, rfl⟩
  rw [← hb6] at p6
  obtain ⟨b7, hb7⟩ : ∃ b, b = P 7 := ⟨_, rfl⟩
  rw [← hb7] at p7
  have HE0 : Aside0 (selTo P (0 + 1) = if b0 = true then selTo P 0 ++ [((0 : Nat) : Int)] else selTo P 0) := ⟨by rw [hb0]; rfl⟩
  have HE1 : Aside0 (selTo P (1 + 1) = if b1 = true then selTo P 1 ++ [((1 : Nat) : Int)] else selTo P 1) := ⟨by rw [hb1]; rfl⟩
  have HE2 : Aside0 (selTo P (2 + 1) = if b2 = true then selTo P 2 ++ [((2 : Nat) : Int)] else selTo P 2) := ⟨by rw [hb2]; rfl⟩
  have HE3 : Aside0 (selTo P (3 + 1) = if b3 = true then selTo P 3 ++ [((3 : Nat) : Int)] else selTo P 3) := ⟨by rw [hb3]; rfl⟩
  have HE4 : Aside0 (selTo P (4 + 1) = if b4 = true then selTo P 4 ++ [((4 : Nat) : Int)] else selTo P 4) := ⟨by rw [hb4]; rfl⟩
  have HE5 : Aside0 (selTo P (5 + 1) = if b5 = true then selTo P 5 ++ [((5 : Nat) : Int)] else selTo P 5) := ⟨by rw [hb5]; rfl⟩
  have HE6 : Aside0 (selTo P (6 + 1) = if b6 = true then selTo P 6 ++ [((6 : Nat) : Int)] else selTo P 6) := ⟨by rw [hb6]; rfl⟩
  have HE7 : Aside0 (selTo P (7 + 1) = if b7 = true then selTo P 7 ++ [((7 : Nat) : Int)] else selTo P 7) := ⟨by rw [hb7]; rfl⟩
  have HT : Aside0 (∀ k, (selTo P k).length ≤ k) := ⟨selTo_len P⟩
  clear hb0 hb1 hb2 hb3 hb4 hb5 hb6 hb7
  have HN0 : Aside0 (selTo P 0 = []) := ⟨rfl⟩
  generalize selTo P = S at *
  go_enter Tryd.func82, Tryd.ntmps82
  go_wp2
  go_loopw [3, 10] (fun v3 v10 w' => ∃ (j : Nat), j ≤ 8 ∧ v10 = .int .i64 j ∧ Aside0 (Kd.R (Kd.int .i64) 3 w' w.heap.size (fun b => w.heap.size ≤ b) v3 (S j)) ∧ Aside0 (Below w.heap.size w w')) (fun _ v10 _ => 8 - (intOf v10).toNat)
  case atStart => exact ⟨0, by omega, rfl, ⟨by rw [HN0.out]; exact Kd.R_nil _ _ _ _ _⟩, HB⟩
  case round =>
    obtain ⟨j, hj, rfl, HV, HB2⟩ := hrel
    clear HB
    have HB := HB2
    clear HB2
    obtain ⟨vA, vC, ev⟩ := Kd.R_slice HV.out
    subst ev
    have HTL := Aside0.mk (HT.out j)
    by_cases hlt : j < 8
    · have hj8 : j = 0 ∨ j = 1 ∨ j = 2 ∨ j = 3 ∨ j = 4 ∨ j = 5 ∨ j = 6 ∨ j = 7 := by omega
      rcases hj8 with rfl | rfl | rfl | rfl | rfl | rfl | rfl | rfl
      · have HE := HE0
        cases b0
        · rw [if_neg (by decide)] at HE
          go_wp2
          rw [run_idx8 _ _ 0 0 rfl (by decide) _ rfl]
          go_wp2
          exact ⟨⟨0 + 1, by omega, by go_num, by rw [HE.out]; exact HV, HB⟩, by simp [intOf]⟩
        · rw [if_pos rfl] at HE
          go_wp2
          rw [run_idx8 _ _ 0 0 rfl (by decide) _ rfl]
          go_wp2_with ((with_reducible refine gate_builtin (b := .append) (xs := #[.tmp 15, .tmp 17]) rfl ?_); at_builtin; refine Kd.R_append (Kd.int .i64) (w0 := w) w.heap.size rfl (.tmp 15) (.tmp 17) 38 3 (.int .i64 0) 8 rfl Tryd.underlying38 info3 rfl (by decide) (by omega) (.slice vA (S 0).length vC) (S 0) ((0 : Nat) : Int) [.int .i64 ((0 : Nat) : Int)] (fun b => w.heap.size ≤ b) (fun _ => False) rfl rfl ?aP (fun _ hk => hk.elim) ?aF ?aO ?aB ?aS ?aL ?_; (case aP => exact rfl); (case aF => intro b hb; have := below_size HB.out; omega); (case aO => exact HV.out); (case aB => exact HB.out); (case aS => exact below_size HB.out); (case aL => have := HTL.out; omega)
                       intro v_ w_ ho hb hg hat
                       have HP1 := Aside0.mk ho
                       have HP2 := Aside0.mk hb)
          exact ⟨⟨0 + 1, by omega, by go_num, by rw [HE.out]; exact HP1, HP2⟩, by simp [intOf]⟩
      · have HE := HE1
        cases b1
        · rw [if_neg (by decide)] at HE
          go_wp2
          rw [run_idx8 _ _ 1 1 rfl (by decide) _ rfl]
          go_wp2
          exact ⟨⟨1 + 1, by omega, by go_num, by rw [HE.out]; exact HV, HB⟩, by simp [intOf]⟩
        · rw [if_pos rfl] at HE
          go_wp2
          rw [run_idx8 _ _ 1 1 rfl (by decide) _ rfl]
          go_wp2_with ((with_reducible refine gate_builtin (b := .append) (xs := #[.tmp 15, .tmp 17]) rfl ?_); at_builtin; refine Kd.R_append (Kd.int .i64) (w0 := w) w.heap.size rfl (.tmp 15) (.tmp 17) 38 3 (.int .i64 0) 8 rfl Tryd.underlying38 info3 rfl (by decide) (by omega) (.slice vA (S 1).length vC) (S 1) ((1 : Nat) : Int) [.int .i64 ((1 : Nat) : Int)] (fun b => w.heap.size ≤ b) (fun _ => False) rfl rfl ?aP (fun _ hk => hk.elim) ?aF ?aO ?aB ?aS ?aL ?_; (case aP => exact rfl); (case aF => intro b hb; have := below_size HB.out; omega); (case aO => exact HV.out); (case aB => exact HB.out); (case aS => exact below_size HB.out); (case aL => have := HTL.out; omega)
                       intro v_ w_ ho hb hg hat
                       have HP1 := Aside0.mk ho
                       have HP2 := Aside0.mk hb)
          exact ⟨⟨1 + 1, by omega, by go_num, by rw [HE.out]; exact HP1, HP2⟩, by simp [intOf]⟩
      · have HE := HE2
        cases b2
        · rw [if_neg (by decide)] at HE
          go_wp2
          rw [run_idx8 _ _ 2 2 rfl (by decide) _ rfl]
          go_wp2
          exact ⟨⟨2 + 1, by omega, by go_num, by rw [HE.out]; exact HV, HB⟩, by simp [intOf]⟩
        · rw [if_pos rfl] at HE
          go_wp2
          rw [run_idx8 _ _ 2 2 rfl (by decide) _ rfl]
          go_wp2_with ((with_reducible refine gate_builtin (b := .append) (xs := #[.tmp 15, .tmp 17]) rfl ?_); at_builtin; refine Kd.R_append (Kd.int .i64) (w0 := w) w.heap.size rfl (.tmp 15) (.tmp 17) 38 3 (.int .i64 0) 8 rfl Tryd.underlying38 info3 rfl (by decide) (by omega) (.slice vA (S 2).length vC) (S 2) ((2 : Nat) : Int) [.int .i64 ((2 : Nat) : Int)] (fun b => w.heap.size ≤ b) (fun _ => False) rfl rfl ?aP (fun _ hk => hk.elim) ?aF ?aO ?aB ?aS ?aL ?_; (case aP => exact rfl); (case aF => intro b hb; have := below_size HB.out; omega); (case aO => exact HV.out); (case aB => exact HB.out); (case aS => exact below_size HB.out); (case aL => have := HTL.out; omega)
                       intro v_ w_ ho hb hg hat
                       have HP1 := Aside0.mk ho
                       have HP2 := Aside0.mk hb)
          exact ⟨⟨2 + 1, by omega, by go_num, by rw [HE.out]; exact HP1, HP2⟩, by simp [intOf]⟩
      · have HE := HE3
        cases b3
        · rw [if_neg (by decide)] at HE
          go_wp2
          rw [run_idx8 _ _ 3 3 rfl (by decide) _ rfl]
          go_wp2
          exact ⟨⟨3 + 1, by omega, by go_num, by rw [HE.out]; exact HV, HB⟩, by simp [intOf]⟩
        · rw [if_pos rfl] at HE
          go_wp2
          rw [run_idx8 _ _ 3 3 rfl (by decide) _ rfl]
          go_wp2_with ((with_reducible refine gate_builtin (b := .append) (xs := #[.tmp 15, .tmp 17]) rfl ?_); at_builtin; refine Kd.R_append (Kd.int .i64) (w0 := w) w.heap.size rfl (.tmp 15) (.tmp 17) 38 3 (.int .i64 0) 8 rfl Tryd.underlying38 info3 rfl (by decide) (by omega) (.slice vA (S 3).length vC) (S 3) ((3 : Nat) : Int) [.int .i64 ((3 : Nat) : Int)] (fun b => w.heap.size ≤ b) (fun _ => False) rfl rfl ?aP (fun _ hk => hk.elim) ?aF ?aO ?aB ?aS ?aL ?_; (case aP => exact rfl); (case aF => intro b hb; have := below_size HB.out; omega); (case aO => exact HV.out); (case aB => exact HB.out); (case aS => exact below_size HB.out); (case aL => have := HTL.out; omega)
                       intro v_ w_ ho hb hg hat
                       have HP1 := Aside0.mk ho
                       have HP2 := Aside0.mk hb)
          exact ⟨⟨3 + 1, by omega, by go_num, by rw [HE.out]; exact HP1, HP2⟩, by simp [intOf]⟩
      · have HE := HE4
        cases b4
        · rw [if_neg (by decide)] at HE
          go_wp2
          rw [run_idx8 _ _ 4 4 rfl (by decide) _ rfl]
          go_wp2
          exact ⟨⟨4 + 1, by omega, by go_num, by rw [HE.out]; exact HV, HB⟩, by simp [intOf]⟩
        · rw [if_pos rfl] at HE
          go_wp2
          rw [run_idx8 _ _ 4 4 rfl (by decide) _ rfl]
          go_wp2_with ((with_reducible refine gate_builtin (b := .append) (xs := #[.tmp 15, .tmp 17]) rfl ?_); at_builtin; refine Kd.R_append (Kd.int .i64) (w0 := w) w.heap.size rfl (.tmp 15) (.tmp 17) 38 3 (.int .i64 0) 8 rfl Tryd.underlying38 info3 rfl (by decide) (by omega) (.slice vA (S 4).length vC) (S 4) ((4 : Nat) : Int) [.int .i64 ((4 : Nat) : Int)] (fun b => w.heap.size ≤ b) (fun _ => False) rfl rfl ?aP (fun _ hk => hk.elim) ?aF ?aO ?aB ?aS ?aL ?_; (case aP => exact rfl); (case aF => intro b hb; have := below_size HB.out; omega); (case aO => exact HV.out); (case aB => exact HB.out); (case aS => exact below_size HB.out); (case aL => have := HTL.out; omega)
                       intro v_ w_ ho hb hg hat
                       have HP1 := Aside0.mk ho
                       have HP2 := Aside0.mk hb)
          exact ⟨⟨4 + 1, by omega, by go_num, by rw [HE.out]; exact HP1, HP2⟩, by simp [intOf]⟩
      · have HE := HE5
        cases b5
        · rw [if_neg (by decide)] at HE
          go_wp2
          rw [run_idx8 _ _ 5 5 rfl (by decide) _ rfl]
          go_wp2
          exact ⟨⟨5 + 1, by omega, by go_num, by rw [HE.out]; exact HV, HB⟩, by simp [intOf]⟩
        · rw [if_pos rfl] at HE
          go_wp2
          rw [run_idx8 _ _ 5 5 rfl (by decide) _ rfl]
          go_wp2_with ((with_reducible refine gate_builtin (b := .append) (xs := #[.tmp 15, .tmp 17]) rfl ?_); at_builtin; refine Kd.R_append (Kd.int .i64) (w0 := w) w.heap.size rfl (.tmp 15) (.tmp 17) 38 3 (.int .i64 0) 8 rfl Tryd.underlying38 info3 rfl (by decide) (by omega) (.slice vA (S 5).length vC) (S 5) ((5 : Nat) : Int) [.int .i64 ((5 : Nat) : Int)] (fun b => w.heap.size ≤ b) (fun _ => False) rfl rfl ?aP (fun _ hk => hk.elim) ?aF ?aO ?aB ?aS ?aL ?_; (case aP => exact rfl); (case aF => intro b hb; have := below_size HB.out; omega); (case aO => exact HV.out); (case aB => exact HB.out); (case aS => exact below_size HB.out); (case aL => have := HTL.out; omega)
                       intro v_ w_ ho hb hg hat
                       have HP1 := Aside0.mk ho
                       have HP2 := Aside0.mk hb)
          exact ⟨⟨5 + 1, by omega, by go_num, by rw [HE.out]; exact HP1, HP2⟩, by simp [intOf]⟩
      · have HE := HE6
        cases b6
        · rw [if_neg (by decide)] at HE
          go_wp2
          rw [run_idx8 _ _ 6 6 rfl (by decide) _ rfl]
          go_wp2
          exact ⟨⟨6 + 1, by omega, by go_num, by rw [HE.out]; exact HV, HB⟩, by simp [intOf]⟩
        · rw [if_pos rfl] at HE
          go_wp2
          rw [run_idx8 _ _ 6 6 rfl (by decide) _ rfl]
          go_wp2_with ((with_reducible refine gate_builtin (b := .append) (xs := #[.tmp 15, .tmp 17]) rfl ?_); at_builtin; refine Kd.R_append (Kd.int .i64) (w0 := w) w.heap.size rfl (.tmp 15) (.tmp 17) 38 3 (.int .i64 0) 8 rfl Tryd.underlying38 info3 rfl (by decide) (by omega) (.slice vA (S 6).length vC) (S 6) ((6 : Nat) : Int) [.int .i64 ((6 : Nat) : Int)] (fun b => w.heap.size ≤ b) (fun _ => False) rfl rfl ?aP (fun _ hk => hk.elim) ?aF ?aO ?aB ?aS ?aL ?_; (case aP => exact rfl); (case aF => intro b hb; have := below_size HB.out; omega); (case aO => exact HV.out); (case aB => exact HB.out); (case aS => exact below_size HB.out); (case aL => have := HTL.out; omega)
                       intro v_ w_ ho hb hg hat
                       have HP1 := Aside0.mk ho
                       have HP2 := Aside0.mk hb)
          exact ⟨⟨6 + 1, by omega, by go_num, by rw [HE.out]; exact HP1, HP2⟩, by simp [intOf]⟩
      · have HE := HE7
        cases b7
        · rw [if_neg (by decide)] at HE
          go_wp2
          rw [run_idx8 _ _ 7 7 rfl (by decide) _ rfl]
          go_wp2
          exact ⟨⟨7 + 1, by omega, by go_num, by rw [HE.out]; exact HV, HB⟩, by simp [intOf]⟩
        · rw [if_pos rfl] at HE
          go_wp2
          rw [run_idx8 _ _ 7 7 rfl (by decide) _ rfl]
          go_wp2_with ((with_reducible refine gate_builtin (b := .append) (xs := #[.tmp 15, .tmp 17]) rfl ?_); at_builtin; refine Kd.R_append (Kd.int .i64) (w0 := w) w.heap.size rfl (.tmp 15) (.tmp 17) 38 3 (.int .i64 0) 8 rfl Tryd.underlying38 info3 rfl (by decide) (by omega) (.slice vA (S 7).length vC) (S 7) ((7 : Nat) : Int) [.int .i64 ((7 : Nat) : Int)] (fun b => w.heap.size ≤ b) (fun _ => False) rfl rfl ?aP (fun _ hk => hk.elim) ?aF ?aO ?aB ?aS ?aL ?_; (case aP => exact rfl); (case aF => intro b hb; have := below_size HB.out; omega); (case aO => exact HV.out); (case aB => exact HB.out); (case aS => exact below_size HB.out); (case aL => have := HTL.out; omega)
                       intro v_ w_ ho hb hg hat
                       have HP1 := Aside0.mk ho
                       have HP2 := Aside0.mk hb)
          exact ⟨⟨7 + 1, by omega, by go_num, by rw [HE.out]; exact HP1, HP2⟩, by simp [intOf]⟩
    · obtain rfl : j = 8 := by omega
      go_wp2
      exact bodyPost_ret (v := .slice vA (S 8).length vC) (by simp [results, Tryd.results82, go_sem]) rfl ⟨_, rfl, HV.out, HB.out⟩
end Go.Proofs.YtiooiefjcbooeaaDoor.Net

/- The walk of the search for a way (over the function impl.isBridge$1). -/
namespace Go.Proofs.YtiooiefjcbooeaaDoor.Net
open Go Go.Maps Go.WideElems Go.ChangeShapes Go.RowKit Go.Proofs.YtiooiefjcbooeaaDoorW.PrintWords Go.Proofs.YtiooiefjcbooeaaDoorW.PrintLast Go.Proofs.YtiooiefjcbooeaaDoorW.PrintMore Go.Proofs.YtiooiefjcbooeaaDoor.A Go.Proofs.YtiooiefjcbooeaaDoor.Plain
open Go.Proofs.YtiooiefjcbooeaaDoor.Tree (verts legs W)
open Go.Proofs.YtiooiefjcbooeaaDoor.Grow (Q)
set_option linter.unusedVariables false
set_option linter.unusedSimpArgs false
end Go.Proofs.YtiooiefjcbooeaaDoor.Net

/- A leg is a bridge just where the search that does not use it fails, and just where the growth without it leaves out one of its ends. -/
namespace Go.Proofs.YtiooiefjcbooeaaDoor.Net
open Go.RowKit Go.Proofs.YtiooiefjcbooeaaDoorW.PrintWords Go.Proofs.YtiooiefjcbooeaaDoorW.PrintLast Go.Proofs.YtiooiefjcbooeaaDoorW.PrintMore Go.Proofs.YtiooiefjcbooeaaDoor.A Go.Proofs.YtiooiefjcbooeaaDoor.Plain
open Go.Proofs.YtiooiefjcbooeaaDoor.Tree (verts legs W)
open Go.Proofs.YtiooiefjcbooeaaDoor.Grow (Q sweep grow)
open Go.Proofs.YtiooiefjcbooeaaDoor.Conn (Conn)
set_option linter.unusedVariables false
set_option linter.unusedSimpArgs false
end Go.Proofs.YtiooiefjcbooeaaDoor.Net

/- The program's isBridge, walked; the reference's l8Bridge. -/
namespace Go.Proofs.YtiooiefjcbooeaaDoor.Net
open Go Go.RowKit Go.Proofs.YtiooiefjcbooeaaDoorW.PrintWords Go.Proofs.YtiooiefjcbooeaaDoorW.PrintLast Go.Proofs.YtiooiefjcbooeaaDoorW.PrintMore Go.Proofs.YtiooiefjcbooeaaDoor.A Go.Proofs.YtiooiefjcbooeaaDoor.Plain
open Go.Proofs.YtiooiefjcbooeaaDoor.Tree (verts legs W)
open Go.Proofs.YtiooiefjcbooeaaDoor.Grow (Q)
set_option linter.unusedVariables false
set_option linter.unusedSimpArgs false
theorem l6Has_ev (ls : L) (s : Int) (hb : ls.length ≤ 140737488351232) : Ev (fun m => spec_l6Has.f m ls s) (legsB ls && decide (s ∈ plL (RR ls))) := by
  unfold spec_l6Has.f
  refine Ev.bind (l4Legs_ev ls hb) ?_
  cases h : legsB ls
  · exact Ev.neg (by decide) (Ev.now _)
  · have h' := legsB_iff.mp h
    have hs := plL_small h'.1
    exact Ev.pos rfl (Ev.bind (place_ev ls h'.2 h'.1 (RR ls) rfl) (Ev.bind (has_ev _ _ (by show (plL (RR ls)).length ≤ _; omega)) (Ev.now _)))
end Go.Proofs.YtiooiefjcbooeaaDoor.Net

/- Stations within a distance, in plain: the reference's answer. -/
namespace Go.Proofs.YtiooiefjcbooeaaDoor.Net
open Go.RowKit Go.Proofs.YtiooiefjcbooeaaDoorW.PrintWords Go.Proofs.YtiooiefjcbooeaaDoorW.PrintLast Go.Proofs.YtiooiefjcbooeaaDoorW.PrintMore Go.Proofs.YtiooiefjcbooeaaDoor.A Go.Proofs.YtiooiefjcbooeaaDoor.Plain
set_option linter.unusedVariables false
set_option linter.unusedSimpArgs false
theorem place_bound {ls : L} (hg : ∀ x ∈ ls, Good x) (s : Nat) : (-3500 ≤ (Xq ls (RR ls) s).f0 ∧ (Xq ls (RR ls) s).f0 ≤ 3500) ∧ (-3500 ≤ (Xq ls (RR ls) s).f1 ∧ (Xq ls (RR ls) s).f1 ≤ 3500) ∧ (-3500 ≤ (Xq ls (RR ls) s).f2 ∧ (Xq ls (RR ls) s).f2 ≤ 3500) := by
  have hl := RR_len hg
  have b0 := pl_bound (sh0 ls) (fun i a b => (sh_bound hg i a b).1) (RR_idx hg) (s : Int)
  have b1 := pl_bound (sh1 ls) (fun i a b => (sh_bound hg i a b).2.1) (RR_idx hg) (s : Int)
  have b2 := pl_bound (sh2 ls) (fun i a b => (sh_bound hg i a b).2.2) (RR_idx hg) (s : Int)
  unfold Xq
  rw [plq_pl hg (q := RR ls) (by omega) (RR_idx hg) (s : Int)]
  simp only
  omega
/-- The way from one place to another one. -/
def offM (ls : L) (s i : Nat) : S34 := plus (Xq ls (RR ls) i) (Xq ls (RR ls) s) (-1)
theorem off_bound {ls : L} (hg : ∀ x ∈ ls, Good x) (s i : Nat) : (-100000 ≤ (offM ls s i).f0 ∧ (offM ls s i).f0 ≤ 100000) ∧ (-100000 ≤ (offM ls s i).f1 ∧ (offM ls s i).f1 ≤ 100000) ∧ (-100000 ≤ (offM ls s i).f2 ∧ (offM ls s i).f2 ≤ 100000) := by
  have h1 := place_bound hg i
  have h2 := place_bound hg s
  have e := (plus_exact (a := Xq ls (RR ls) i) (b := Xq ls (RR ls) s) ⟨by omega, by omega, by omega⟩ ⟨by omega, by omega, by omega⟩).2
  unfold offM
  rw [e]
  simp only
  omega
def nearM (ls : L) (s i : Nat) : Int := sizeM (offM ls s i).f0 (offM ls s i).f1 (offM ls s i).f2
def nearL (ls : L) (s : Nat) (d : Int) (l : List Int) : List Int := l.filter (fun i => decide (nearM ls s i.toNat ≤ d))
theorem near_loop {ls : L} (hg : ∀ x ∈ ls, Good x) (s : Nat) (hs : s < 8) (dist : Int) : ∀ (d j : Nat) (out : List Int), j + d = (plL (RR ls)).length → out.length ≤ j →
    Ev (fun k => spec_StationsWithin.l0 k (s : Int) dist out (XL ls (RR ls)) (plL (RR ls)) (j : Int)) (out ++ nearL ls s dist ((plL (RR ls)).drop j), true) := by
  have hpl := plL_small hg
  intro d
  induction d with
  | zero =>
    intro j out hj ho
    rw [List.drop_eq_nil_of_le (by omega)]
    refine Ev.step (f := fun _ => some (out, true)) (fun k => ?_) (by simp only [nearL, List.filter_nil, List.append_nil]; exact Ev.now _)
    simp only [spec_StationsWithin.l0]
    rw [if_neg (by omega)]
  | succ d ih =>
    intro j out hj ho
    have hlt : j < (plL (RR ls)).length := by omega
    have hm := List.getElem_mem hlt
    have h8 := Grow.in_range (ends ls) (RR_ok hg).1 (Good.range hg) _ ((mem_plL _ _).mp hm)
    rw [List.drop_eq_getElem_cons hlt]
    have er := rd_at (plL (RR ls)) j hlt
    obtain ⟨a, ha⟩ := Int.eq_ofNat_of_zero_le h8.1
    rw [ha] at h8 er ⊢
    have hlen : ((XL ls (RR ls)).length : Int) = 8 := by rw [XL_len]; rfl
    have hb := off_bound hg s a
    have hp : spec_l4Plus.f (Xq ls (RR ls) a).f0 (Xq ls (RR ls) a).f1 (Xq ls (RR ls) a).f2 (Xq ls (RR ls) s).f0 (Xq ls (RR ls) s).f1 (Xq ls (RR ls) s).f2 (-1) = some ((offM ls s a).f0, (offM ls s a).f1, (offM ls s a).f2) := rfl
    refine Ev.step (f := fun k => (spec_LengthOf.f k (offM ls s a).f0 (offM ls s a).f1 (offM ls s a).f2).bind fun bt695 => (if bt695.1 ≤ dist then (spec_StationsWithin.l0 k (s : Int) dist (out ++ [(a : Int)]) (XL ls (RR ls)) (plL (RR ls)) ((j + 1 : Nat) : Int)) else (spec_StationsWithin.l0 k (s : Int) dist out (XL ls (RR ls)) (plL (RR ls)) ((j + 1 : Nat) : Int)))) (fun k => ?_) ?_
    · simp only [spec_StationsWithin.l0]
      rw [if_pos (by omega), if_pos (by omega), er, if_pos (by omega), if_pos (by omega), if_pos (by omega), if_pos (by omega), XL_at _ _ a (by omega), XL_at _ _ s hs, hp, Option.bind_some, w64 (by omega) (by omega), if_pos (show out.length < 17592186044416 by omega)]
      rfl
    · refine Ev.bind (sizeM_ev _ _ _ hb.1 hb.2.1 hb.2.2) ?_
      have e0 : ∀ l, nearL ls s dist ((a : Int) :: l) = if nearM ls s a ≤ dist then (a : Int) :: nearL ls s dist l else nearL ls s dist l := fun l => by
        unfold nearL
        split
        · rename_i h; rw [List.filter_cons_of_pos (by simpa using h)]
        · rename_i h; rw [List.filter_cons_of_neg (by simpa using h)]
      rw [e0]
      by_cases h : nearM ls s a ≤ dist
      · rw [if_pos h]
        refine Ev.pos h ?_
        have := ih (j + 1) (out ++ [(a : Int)]) (by omega) (by simp only [List.length_append, List.length_singleton]; omega)
        rw [List.append_assoc, List.singleton_append] at this
        exact this
      · rw [if_neg h]
        refine Ev.neg h ?_
        exact ih (j + 1) out (by omega) (by omega)
theorem specNear_ev (ls : L) (s dist : Int) (hb : ls.length ≤ 140737488351232) : Ev (fun k => spec_StationsWithin.f k ls s dist) (if legsB ls = true ∧ s ∈ plL (RR ls) ∧ 0 ≤ dist then (nearL ls s.toNat dist (plL (RR ls)), true) else ([], false)) := by
  have h6 := l6Has_ev ls s hb
  unfold spec_StationsWithin.f
  refine Ev.bindc rfl (Ev.bind h6 ?_)
  have stop : Ev (fun k => spec_StationsWithin.j0 k ls s dist [] true) (([] : List Int), false) := Ev.step (f := fun _ => some ([], false)) (fun k => by simp only [spec_StationsWithin.j0, if_true]) (Ev.now _)
  by_cases h : legsB ls = true ∧ s ∈ plL (RR ls)
  · refine Ev.pos (by rw [h.1, decide_eq_true h.2]; rfl) ?_
    have hv := legsB_iff.mp h.1
    by_cases hd : dist < 0
    · rw [decide_eq_true hd, if_neg (fun e => by have := e.2.2; omega)]
      exact stop
    · rw [decide_eq_false hd, if_pos ⟨h.1, h.2, by omega⟩]
      have h8 := Grow.in_range (ends ls) (RR_ok hv.1).1 (Good.range hv.1) _ ((mem_plL _ _).mp h.2)
      refine Ev.step (f := fun k => (spec_l6Place.f k ls).bind fun bt679 => spec_StationsWithin.l0 k s dist [] bt679.1 bt679.2.1 0) (fun k => by simp only [spec_StationsWithin.j0, Bool.false_eq_true, if_false]) ?_
      refine Ev.bind (place_ev ls hv.2 hv.1 (RR ls) rfl) ?_
      obtain ⟨b, rfl⟩ := Int.eq_ofNat_of_zero_le h8.1
      exact near_loop hv.1 b (by omega) dist _ 0 [] (Nat.zero_add _) (by simp)
  · refine Ev.neg (by rw [Bool.and_eq_true, decide_eq_true_eq]; exact h) ?_
    rw [if_neg (fun e => h ⟨e.1, e.2.1⟩)]
    exact stop
end Go.Proofs.YtiooiefjcbooeaaDoor.Net

namespace Go.Proofs.YtiooiefjcbooeaaDoor.A
open Go.RowKit Go.Proofs.YtiooiefjcbooeaaDoorW.PrintWords Go.Proofs.YtiooiefjcbooeaaDoorW.PrintLast Go.Proofs.YtiooiefjcbooeaaDoorW.PrintMore
open Go.Proofs.YtiooiefjcbooeaaDoor.Net Go.Proofs.YtiooiefjcbooeaaDoor.Plain
set_option linter.unusedVariables false
set_option linter.unusedSimpArgs false
def impl_StationsWithin.f (l0 : List (S56)) (a1 a2 : Int) : Option (List Int × Bool) := if l0.length ≤ 140737488351232 then some (if legsB l0 = true ∧ a1 ∈ plL (RR l0) ∧ 0 ≤ a2 then (nearL l0 a1.toNat a2 (plL (RR l0)), true) else ([], false)) else none
set_option maxHeartbeats 2000000 in
set_option maxRecDepth 100000 in
theorem impl_StationsWithin.calls (A0 : Option Addr) (c : Nat) (ls : List (S56)) (a1 : Int) (a2 : Int) (r1 : List Int) (r2 : Bool) (w : World) (hr0 : Kd.C k56 w A0 ls.length ls) (hc : ls.length ≤ c) (h : impl_StationsWithin.f ls a1 a2 = some (r1, r2)) (hL : Sine.Laid w) :
    Calls Tryd.prog 40 #[.slice A0 ls.length c, .int .i64 a1, .int .i64 a2] w fun e w' => ∃ v0_ : Value, e = .returned (.tuple #[v0_, .bool r2]) ∧ Kd.R (Kd.int .i64) 3 w' w.heap.size (fun _ => True) v0_ r1 ∧ Below w.heap.size w w' := by
  unfold impl_StationsWithin.f at h
  by_cases hb : ls.length ≤ 140737488351232
  · rw [if_pos hb] at h
    have HR := Aside0.mk hr0
    have HL := Aside0.mk hL
    have HB := Aside0.mk (Below.refl w.heap.size w)
    clear hr0 hL
    by_cases hg0 : legsB ls = true ∧ (0 ≤ a1 ∧ a1 < 8)
    · obtain ⟨hv, hs0, hs8⟩ := hg0
      obtain ⟨b, rfl⟩ := Int.eq_ofNat_of_zero_le hs0
      have hv' := legsB_iff.mp hv
      have HG := Aside0.mk hv'.1
      have hn := hv'.2
      have hpq : Pq (RR ls) (b : Int).toNat = decide ((b : Int) ∈ plL (RR ls)) := by rw [Pq_eq, Int.toNat_natCast]
      by_cases hp : (b : Int) ∈ plL (RR ls)
      · rw [decide_eq_true hp] at hpq
        by_cases hd : a2 < 0
        · rw [if_neg (fun e => by have := e.2.2; omega)] at h
          simp only [Option.some.injEq, Prod.mk.injEq] at h
          obtain ⟨rfl, rfl⟩ := h
          clear hp hv'
          go_enter Tryd.func40, Tryd.ntmps40
          go_wp2_with (go_at_call 81; (with_reducible refine (placedAt A0 c ls (b : Int) _ ?s0 ?s1 hc hv hs0 hs8).mono ?_); (case s0 => exact HL.out.keep (by (repeat (first | exact HB.out | exact Below.refl _ _ | apply below_alloc | apply pw_below_drewN | apply below_drew1)); done)); (case s1 => exact Kd.C_below HR.out (by (repeat (first | exact HB.out | exact Below.refl _ _ | apply below_alloc | apply pw_below_drewN | apply below_drew1)); done)); rintro e w' ⟨g, T, cA, cC, rfl, _, _, hw⟩; rw [hpq]; replace HB := Aside0.mk (below_step (show Below w.heap.size w _ from by (repeat (first | exact HB.out | exact Below.refl _ _ | apply below_alloc | apply pw_below_drewN | apply below_drew1)); done) hw); clear hw)
          exact bodyPost_ret (v := .tuple #[.slice none 0 0, .bool false]) (by simp [results, Tryd.results40, go_sem]) rfl ⟨_, rfl, Kd.R_nil _ _ _ _ _, by repeat (first | exact HB.out | apply below_drew1)⟩
        · rw [if_pos ⟨hv, hp, by omega⟩, Int.toNat_natCast] at h
          simp only [Option.some.injEq, Prod.mk.injEq] at h
          obtain ⟨rfl, rfl⟩ := h
          obtain ⟨pl, hpl⟩ : ∃ pl, pl = plL (RR ls) := ⟨_, rfl⟩
          have HPL := Aside0.mk (show pl.length ≤ 8 from by rw [hpl]; exact plL_small HG.out)
          have HMem : Aside0 (∀ j : Nat, (hj : j < pl.length) → ∃ k : Nat, pl[j] = (k : Int) ∧ k < 8) := ⟨fun j hj => by
            have hm : pl[j] ∈ plL (RR ls) := by rw [← hpl]; exact List.getElem_mem hj
            have h8 := Grow.in_range (ends ls) (RR_ok HG.out).1 (Good.range HG.out) _ ((mem_plL _ _).mp hm)
            obtain ⟨k, hk⟩ := Int.eq_ofNat_of_zero_le h8.1
            exact ⟨k, hk, by omega⟩⟩
          have HRS := Aside0.mk (show nearL ls b a2 (plL (RR ls)) = nearL ls b a2 (pl.take pl.length) from by rw [List.take_length, hpl])
          have HPE := Aside0.mk (show selTo (Pq (RR ls)) 8 = pl from by rw [hpl]; exact plL_sel HG.out)
          clear hv' hpl hp
          go_enter Tryd.func40, Tryd.ntmps40
          go_wp2_with (first
            | (go_at_call 81; (with_reducible refine (placedAt A0 c ls (b : Int) _ ?s0 ?s1 hc hv hs0 hs8).mono ?_); (case s0 => exact HL.out.keep (by (repeat (first | exact HB.out | exact Below.refl _ _ | apply below_alloc | apply pw_below_drewN | apply below_drew1)); done)); (case s1 => exact Kd.C_below HR.out (by (repeat (first | exact HB.out | exact Below.refl _ _ | apply below_alloc | apply pw_below_drewN | apply below_drew1)); done)); rintro e w' ⟨g, T, cA, cC, rfl, hst, _, hw⟩; rw [hpq]; replace HB := Aside0.mk (below_step (show Below w.heap.size w _ from by (repeat (first | exact HB.out | exact Below.refl _ _ | apply below_alloc | apply pw_below_drewN | apply below_drew1)); done) hw); have HS := Aside0.mk hst; clear hw hst)
            | (go_at_call 82; have hq := stationsW _ (HS.out.keep (by repeat (first | exact Below.refl _ _ | apply pw_below_drewN | apply below_drew1))); (with_reducible refine hq.mono ?_); clear hq; rintro e w3 ⟨v, rfl, hv3, hw⟩; have hsz := below_size HB.out; have hgs : g < w'.heap.size := World.block_lt_of_cell? _ _ HS.out.tc; have hTs := HS.out.ge; rw [HPE.out] at hv3; have HP := Aside0.mk (show Kd.R (Kd.int .i64) 3 w3 w.heap.size (fun k => k ≠ g ∧ k ≠ T) v pl from Kd.R_mono (Kd.R_lower hv3 hsz) (fun k hk => ⟨by omega, by omega⟩)); replace HB := Aside0.mk (below_step HB.out hw); replace HS := Aside0.mk (HS.out.keep hw); clear hv3 hw; obtain ⟨pA, pC, ep⟩ := Kd.R_slice HP.out; subst ep))
          have hown : ∀ k, Value.ownBlock (Value.slice none 0 0) = some k → False := by intro k hk; simp [Value.ownBlock] at hk
          go_loopw [10, 28] (fun v10 v28 w' => ∃ (j : Nat), j ≤ pl.length ∧ v28 = .int .i64 j ∧ Aside0 (Kd.R (Kd.int .i64) 3 w' w.heap.size (fun k => k ≠ g ∧ k ≠ T ∧ some k ≠ (Value.slice pA pl.length pC).ownBlock) v10 (nearL ls b a2 (pl.take j))) ∧ Aside0 (Kd.R (Kd.int .i64) 3 w' w.heap.size (fun k => (k ≠ g ∧ k ≠ T) ∧ some k ≠ v10.ownBlock) (.slice pA pl.length pC) pl) ∧ Aside0 (St ls.length T g (Pq (RR ls)) (Xq ls (RR ls)) (Bq (RR ls)) (.slice cA (closeL ls).length cC) w') ∧ Aside0 (Below w.heap.size w w')) (fun _ v28 _ => pl.length - (intOf v28).toNat)
          case atStart => exact ⟨0, Nat.zero_le _, rfl, ⟨by rw [List.take_zero]; exact Kd.R_nil _ _ _ _ _⟩, ⟨Kd.R_mono HP.out (fun k hk => ⟨hk, fun e => hown k e.symm⟩)⟩, HS, HB⟩
          case round =>
            obtain ⟨j, hj, rfl, HV, HC, HS2, HB2⟩ := hrel
            clear HP HB HS hown
            have HO := HC
            have HB := HB2
            have HS := HS2
            clear HC HB2 HS2
            obtain ⟨vA, vC, ev⟩ := Kd.R_slice HV.out
            subst ev
            by_cases hlt : j < pl.length
            · obtain ⟨ad, e1, h1⟩ := Kd.at_int (Kd.R_reads' HO.out).2.2 (j : Int) (by omega) (by omega)
              subst e1
              rw [rd_at _ j hlt, Int.toNat_natCast] at h1
              obtain ⟨a, hk1, hk2⟩ := HMem.out j hlt
              have HE : Aside0 (nearL ls b a2 (pl.take (j + 1)) = if nearM ls b a ≤ a2 then nearL ls b a2 (pl.take j) ++ [(a : Int)] else nearL ls b a2 (pl.take j)) := ⟨by
                rw [List.take_succ_eq_append_getElem hlt, hk1]
                unfold nearL
                rw [List.filter_append]
                split
                · rename_i h; rw [List.filter_cons_of_pos (by simpa using h), List.filter_nil]
                · rename_i h; rw [List.filter_cons_of_neg (by simpa using h), List.filter_nil, List.append_nil]⟩
              have HTL : Aside0 ((nearL ls b a2 (pl.take j)).length ≤ 8) := ⟨by
                unfold nearL
                exact Nat.le_trans (List.length_filter_le _ _) (by rw [List.length_take]; have := HPL.out; omega)⟩
              rw [hk1] at h1
              clear hk1
              have hpl := HPL.out
              have ob := off_bound HG.out b a
              obtain ⟨K2, hK2⟩ := apart_ev (Xq ls (RR ls) a) (Xq ls (RR ls) b) ob.1 ob.2.1 ob.2.2
              have HAP := Aside0.mk (hK2 K2 (Nat.le_refl _))
              clear hK2 ob
              rw [show sizeM (plus (Xq ls (RR ls) a) (Xq ls (RR ls) b) (-1)).f0 (plus (Xq ls (RR ls) a) (Xq ls (RR ls) b) (-1)).f1 (plus (Xq ls (RR ls) a) (Xq ls (RR ls) b) (-1)).f2 = nearM ls b a from rfl] at HAP
              have hb8 : b < 8 := by omega
              have p0 := HS.out.px a hk2
              have p1 := HS.out.py a hk2
              have p2 := HS.out.pz a hk2
              have q0 := HS.out.px b hb8
              have q1 := HS.out.py b hb8
              have q2 := HS.out.pz b hb8
              have ka0 : (0 : Int) ≤ (a : Int) := by omega
              have ka1 : (a : Int) < 8 := by omega
              have ka2 : (a : Int) < ((8 : Nat) : Int) := by omega
              generalize nearM ls b a = nm at *
              go_wp2_with fail
              go_region_held3 (fun w' => w'.cell? ⟨g, 8 + a * 3, none⟩ = some (.int .i64 (Xq ls (RR ls) a).f0) ∧ w'.cell? ⟨g, 8 + a * 3 + 1, none⟩ = some (.int .i64 (Xq ls (RR ls) a).f1) ∧ w'.cell? ⟨g, 8 + a * 3 + 2, none⟩ = some (.int .i64 (Xq ls (RR ls) a).f2) ∧ w'.cell? ⟨g, 8 + b * 3, none⟩ = some (.int .i64 (Xq ls (RR ls) b).f0) ∧ w'.cell? ⟨g, 8 + b * 3 + 1, none⟩ = some (.int .i64 (Xq ls (RR ls) b).f1) ∧ w'.cell? ⟨g, 8 + b * 3 + 2, none⟩ = some (.int .i64 (Xq ls (RR ls) b).f2))
                ((repeat' refine And.intro ?_ ?_) <;> exact Sine.keepc (w := wr) (by assumption) (by (repeat (first | exact Below.refl _ _ | apply pw_below_drewN | apply below_drew1 | exact HB.out | refine below_step ?_ (by assumption))); done))
                (first | (go_at_call 83; (with_reducible refine (impl_apart.calls K2 (Xq ls (RR ls) a).f0 (Xq ls (RR ls) a).f1 (Xq ls (RR ls) a).f2 (Xq ls (RR ls) b).f0 (Xq ls (RR ls) b).f1 (Xq ls (RR ls) b).f2 nm _ HAP.out).mono ?_); rintro e w3 ⟨rfl, hw3⟩
                          have hbw := below_step (show Below wr.heap.size wr _ from by (repeat (first | exact Below.refl _ _ | apply pw_below_drewN | apply below_drew1 | exact HB.out | refine below_step ?_ (by assumption))); done) hw3
                          replace HV := Aside0.mk (Kd.R_below HV.out hbw)
                          replace HO := Aside0.mk (Kd.R_below HO.out hbw)
                          replace HS := Aside0.mk (HS.out.keep hbw)
                          replace HB := Aside0.mk (below_step HB.out hbw)
                          clear hbw))
              by_cases hnd : nm ≤ a2
              · rw [if_pos hnd] at HE
                have hgs : g < w3.heap.size := World.block_lt_of_cell? _ _ HS.out.tc
                have hTs := HS.out.ge
                go_wp2_with ((with_reducible refine gate_builtin (b := .append) (xs := #[.tmp 47, .tmp 49]) rfl ?_); at_builtin; refine Kd.R_append (Kd.int .i64) (w0 := w) w.heap.size rfl (.tmp 47) (.tmp 49) 38 3 (.int .i64 0) 8 rfl Tryd.underlying38 info3 rfl (by decide) (by omega) (.slice vA (nearL ls b a2 (pl.take j)).length vC) (nearL ls b a2 (pl.take j)) (a : Int) [.int .i64 (a : Int)] (fun k => k ≠ g ∧ k ≠ T ∧ some k ≠ (Value.slice (some ad) pl.length pC).ownBlock) (fun _ => False) rfl rfl ?aP (fun _ hk => hk.elim) ?aF ?aO ?aB ?aS ?aL ?_; (case aP => exact rfl); (case aF => intro b hb; exact ⟨by omega, by omega, Kd.fresh' (Kd.R_lt HO.out) b hb⟩); (case aO => exact HV.out); (case aB => exact HB.out); (case aS => exact below_size HB.out); (case aL => have := HTL.out; omega)
                             intro v7_ w7_ ho hb hg hat
                             have HP1 := Aside0.mk (Kd.R_after (ok := fun k => k ≠ g ∧ k ≠ T) HO.out hg hat)
                             have HP2 := Aside0.mk ho
                             have HP3 := Aside0.mk hb
                             have HP4 := Aside0.mk (HS.out.blocks (hg.block g hgs (fun e => (HV.out.1 _ e.symm).1 rfl)) (hg.block T hTs (fun e => (HV.out.1 _ e.symm).2.1 rfl)) hg.size))
                exact ⟨⟨j + 1, hlt, by go_num, by rw [HE.out]; exact HP2, HP1, HP4, HP3⟩, by simp [intOf]; omega⟩
              · rw [if_neg hnd] at HE
                go_wp2
                exact ⟨⟨j + 1, hlt, by go_num, by rw [HE.out]; exact HV, HO, HS, HB⟩, by simp [intOf]; omega⟩
            · go_wp2
              obtain rfl : j = pl.length := by omega
              exact bodyPost_ret (v := .tuple #[.slice vA (nearL ls b a2 (pl.take pl.length)).length vC, .bool true]) (by simp [results, Tryd.results40, go_sem]) rfl ⟨_, rfl, by rw [HRS.out]; exact Kd.R_mono HV.out (fun _ _ => trivial), HB.out⟩
      · rw [if_neg (fun e => hp e.2.1)] at h
        simp only [Option.some.injEq, Prod.mk.injEq] at h
        obtain ⟨rfl, rfl⟩ := h
        rw [decide_eq_false hp] at hpq
        clear hp hv'
        go_enter Tryd.func40, Tryd.ntmps40
        go_wp2_with (go_at_call 81; (with_reducible refine (placedAt A0 c ls (b : Int) _ ?s0 ?s1 hc hv hs0 hs8).mono ?_); (case s0 => exact HL.out.keep (by (repeat (first | exact HB.out | exact Below.refl _ _ | apply below_alloc | apply pw_below_drewN | apply below_drew1)); done)); (case s1 => exact Kd.C_below HR.out (by (repeat (first | exact HB.out | exact Below.refl _ _ | apply below_alloc | apply pw_below_drewN | apply below_drew1)); done)); rintro e w' ⟨g, T, cA, cC, rfl, _, _, hw⟩; rw [hpq]; replace HB := Aside0.mk (below_step (show Below w.heap.size w _ from by (repeat (first | exact HB.out | exact Below.refl _ _ | apply below_alloc | apply pw_below_drewN | apply below_drew1)); done) hw); clear hw)
        exact bodyPost_ret (v := .tuple #[.slice none 0 0, .bool false]) (by simp [results, Tryd.results40, go_sem]) rfl ⟨_, rfl, Kd.R_nil _ _ _ _ _, by repeat (first | exact HB.out | apply below_drew1)⟩
    · have hno : legsB ls = true → ¬ (0 ≤ a1 ∧ a1 < 8) := fun h1 h2 => hg0 ⟨h1, h2⟩
      rw [if_neg (fun e => hno e.1 (by
        have hv' := legsB_iff.mp e.1
        have h8 := Grow.in_range (ends ls) (RR_ok hv'.1).1 (Good.range hv'.1) _ ((mem_plL _ _).mp e.2.1)
        exact ⟨h8.1, h8.2⟩))] at h
      simp only [Option.some.injEq, Prod.mk.injEq] at h
      obtain ⟨rfl, rfl⟩ := h
      clear hg0
      go_enter Tryd.func40, Tryd.ntmps40
      go_wp2_with (go_at_call 81; (with_reducible refine (placedAt_no A0 c ls a1 _ ?s1 hc hb hno).mono ?_); (case s1 => exact Kd.C_below HR.out (by (repeat (first | exact HB.out | exact Below.refl _ _ | apply below_alloc | apply pw_below_drewN | apply below_drew1)); done)); rintro e w' ⟨rfl, hw⟩; replace HB := Aside0.mk (below_step (show Below w.heap.size w _ from by (repeat (first | exact HB.out | exact Below.refl _ _ | apply below_alloc | apply pw_below_drewN | apply below_drew1)); done) hw); clear hw)
      exact bodyPost_ret (v := .tuple #[.slice none 0 0, .bool false]) (by simp [results, Tryd.results40, go_sem]) rfl ⟨_, rfl, Kd.R_nil _ _ _ _ _, by repeat (first | exact HB.out | apply below_drew1)⟩
  · rw [if_neg hb] at h
    cases h
end Go.Proofs.YtiooiefjcbooeaaDoor.A
