/- The program's PlacedStations, in the form of the printed functions, over the laid table of sines. -/
import Derived.Deep.MidRow
import Derived.BigRegion
import Derived.Test.YtcafgpincnkcdaaDoorKFnExtentsU2
set_option maxHeartbeats 8000000
set_option maxRecDepth 100000
set_option linter.unusedSimpArgs false
set_option linter.unusedVariables false
namespace Go.Proofs.YtcafgpincnkcdaaDoor.Net
open Go Go.RowKit YtcafgpincnkcdaaDoorW.PrintWords YtcafgpincnkcdaaDoorW.PrintLast YtcafgpincnkcdaaDoorW.PrintMore A Plain
open Tree (verts legs W)
open Grow (Q)
def selTo (p : Nat → Bool) : Nat → List Int
  | 0 => []
  | k + 1 => if p k = true then selTo p k ++ [(k : Int)] else selTo p k
theorem selTo_len (p : Nat → Bool) : ∀ k, (selTo p k).length ≤ k
  | 0 => by simp [selTo]
  | k + 1 => by
    have := selTo_len p k; unfold selTo; split
    · rw [List.length_append, List.length_singleton]; omega
    · omega
theorem mem_selTo (p : Nat → Bool) : ∀ (n : Nat) (i : Int), i ∈ selTo p n ↔ ∃ k : Nat, i = k ∧ k < n ∧ p k = true
  | 0, i => by simp [selTo]
  | n + 1, i => by
    have ih := mem_selTo p n i; unfold selTo; split
    · rename_i c
      rw [List.mem_append, ih, List.mem_singleton]
      constructor
      · rintro (⟨k, h1, h2, h3⟩ | rfl)
        · exact ⟨k, h1, by omega, h3⟩
        · exact ⟨n, rfl, by omega, c⟩
      · rintro ⟨k, h1, h2, h3⟩
        by_cases e : k = n
        · exact Or.inr (by rw [h1, e])
        · exact Or.inl ⟨k, h1, by omega, h3⟩
    · rename_i c
      rw [ih]
      constructor
      · rintro ⟨k, h1, h2, h3⟩
        exact ⟨k, h1, by omega, h3⟩
      · rintro ⟨k, h1, h2, h3⟩
        by_cases e : k = n
        · exact absurd (e ▸ h3) c
        · exact ⟨k, h1, by omega, h3⟩
theorem asc_selTo (p : Nat → Bool) : ∀ n, Sort.Asc (selTo p n)
  | 0 => by simp [selTo, Sort.Asc]
  | n + 1 => by
    have ih := asc_selTo p n; unfold selTo; split
    · refine List.pairwise_append.mpr ⟨ih, List.pairwise_singleton _ _, fun a ha b hb => ?_⟩
      obtain ⟨k, rfl, hk, _⟩ := (mem_selTo p n a).mp ha; rw [List.mem_singleton] at hb; omega
    · exact ih
theorem plL_sel {ls : L} (hg : ∀ x ∈ ls, Good x) : selTo (Pq (RR ls)) 8 = plL (RR ls) := by
  refine Sort.ext (asc_selTo _ _) (asc_plL _) (fun s => ?_); rw [mem_selTo]
  constructor
  · rintro ⟨k, rfl, _, h⟩
    rw [Pq_eq] at h; exact of_decide_eq_true h
  · intro h
    have h8 := Grow.in_range (ends ls) (RR_ok hg).1 (Good.range hg) s ((mem_plL _ _).mp h); obtain ⟨k, rfl⟩ := Int.eq_ofNat_of_zero_le h8.1; exact ⟨k, rfl, by omega, (by rw [Pq_eq]; exact decide_eq_true h)⟩
def SelPost (l : List Int) (w : World) (e : Ending) (w' : World) : Prop := ∃ v, e = .returned v ∧ Kd.R (Kd.int .i64) 3 w' w.heap.size (fun b => w.heap.size ≤ b) v l ∧ Below w.heap.size w w'
theorem run_idx8 (w : World) (v : Array Value) (k : Nat) (i : Int) (hi : i = (k : Int)) (h8 : k < 8) (x : Value) (hx : v[k]? = some x) : (Instr.index 54 (.agg v) (.int .i64 i)).run Tryd.prog w = .ok x w := by
  subst hi; have hn : (0 : Int) ≤ (k : Int) ∧ (k : Int) < ((8 : Nat) : Int) := by omega
  simp [Instr.index, run_underlying Tryd.underlying54, asIntOf, hn, go_sem]; rw [if_pos h8, hx]; rfl
theorem stationsW {n T g : Nat} {P : Nat → Bool} {X : Nat → S31} {B : Nat → Bool} {cl : Value} (w : World) (hS : St n T g P X B cl w) :
    Calls Tryd.prog 65 #[.pointer (some ⟨g, 0, none⟩)] w (SelPost (selTo P 8) w) := by
  have HB := ak (Below.refl w.heap.size w); have p0 := hS.pb 0 (by decide); have p1 := hS.pb 1 (by decide); have p2 := hS.pb 2 (by decide); have p3 := hS.pb 3 (by decide); have p4 := hS.pb 4 (by decide); have p5 := hS.pb 5 (by decide); have p6 := hS.pb 6 (by decide); have p7 := hS.pb 7 (by decide); clear hS; obtain ⟨l0, hl0⟩ : ∃ l0, l0 = selTo P 0 := ⟨_, rfl⟩
  obtain ⟨b0, hb0⟩ : ∃ b, b = P 0 := ⟨_, rfl⟩
  rw [← hb0] at p0; obtain ⟨b1, hb1⟩ : ∃ b, b = P 1 := ⟨_, rfl⟩
  rw [← hb1] at p1; obtain ⟨b2, hb2⟩ : ∃ b, b = P 2 := ⟨_, rfl⟩
  rw [← hb2] at p2; obtain ⟨b3, hb3⟩ : ∃ b, b = P 3 := ⟨_, rfl⟩
  rw [← hb3] at p3; obtain ⟨b4, hb4⟩ : ∃ b, b = P 4 := ⟨_, rfl⟩
  rw [← hb4] at p4; obtain ⟨b5, hb5⟩ : ∃ b, b = P 5 := ⟨_, rfl⟩
  rw [← hb5] at p5; obtain ⟨b6, hb6⟩ : ∃ b, b = P 6 := ⟨_, rfl⟩
  rw [← hb6] at p6; obtain ⟨b7, hb7⟩ : ∃ b, b = P 7 := ⟨_, rfl⟩
  rw [← hb7] at p7; have HE0 : Aside0 (selTo P (0 + 1) = if b0 = true then selTo P 0 ++ [((0 : Nat) : Int)] else selTo P 0) := ⟨(by rw [hb0]; rfl)⟩; have HE1 : Aside0 (selTo P (1 + 1) = if b1 = true then selTo P 1 ++ [((1 : Nat) : Int)] else selTo P 1) := ⟨(by rw [hb1]; rfl)⟩; have HE2 : Aside0 (selTo P (2 + 1) = if b2 = true then selTo P 2 ++ [((2 : Nat) : Int)] else selTo P 2) := ⟨(by rw [hb2]; rfl)⟩; have HE3 : Aside0 (selTo P (3 + 1) = if b3 = true then selTo P 3 ++ [((3 : Nat) : Int)] else selTo P 3) := ⟨(by rw [hb3]; rfl)⟩; have HE4 : Aside0 (selTo P (4 + 1) = if b4 = true then selTo P 4 ++ [((4 : Nat) : Int)] else selTo P 4) := ⟨(by rw [hb4]; rfl)⟩; have HE5 : Aside0 (selTo P (5 + 1) = if b5 = true then selTo P 5 ++ [((5 : Nat) : Int)] else selTo P 5) := ⟨(by rw [hb5]; rfl)⟩; have HE6 : Aside0 (selTo P (6 + 1) = if b6 = true then selTo P 6 ++ [((6 : Nat) : Int)] else selTo P 6) := ⟨(by rw [hb6]; rfl)⟩; have HE7 : Aside0 (selTo P (7 + 1) = if b7 = true then selTo P 7 ++ [((7 : Nat) : Int)] else selTo P 7) := ⟨(by rw [hb7]; rfl)⟩; have HT : Aside0 (∀ k, (selTo P k).length ≤ k) := ⟨selTo_len P⟩; clear hb0 hb1 hb2 hb3 hb4 hb5 hb6 hb7; have HN0 : Aside0 (selTo P 0 = []) := ⟨rfl⟩; generalize selTo P = S at *; go_enter Tryd.func65, Tryd.ntmps65; go_wp2
  go_loopw [3, 10] (fun v3 v10 w' => ∃ (j : Nat), j ≤ 8 ∧ v10 = .int .i64 j ∧ Aside0 (Kd.R (Kd.int .i64) 3 w' w.heap.size (fun b => w.heap.size ≤ b) v3 (S j)) ∧ Aside0 (Below w.heap.size w w')) (fun _ v10 _ => 8 - (intOf v10).toNat)
  case atStart => exact ⟨0, by omega, rfl, ⟨(by rw [HN0.out]; exact Kd.R_nil _ _ _ _ _)⟩, HB⟩
  case round =>
    obtain ⟨j, hj, rfl, HV, HB2⟩ := hrel; clear HB; have HB := HB2; clear HB2; obtain ⟨vA, vC, ev⟩ := Kd.R_slice HV.out; subst ev; have HTL := ak (HT.out j); by_cases hlt : j < 8
    · have hj8 : j = 0 ∨ j = 1 ∨ j = 2 ∨ j = 3 ∨ j = 4 ∨ j = 5 ∨ j = 6 ∨ j = 7 := by omega
      rcases hj8 with rfl | rfl | rfl | rfl | rfl | rfl | rfl | rfl
      · have HE := HE0
        cases b0
        · rw [if_neg (by decide)] at HE
          go_wp2; rw [run_idx8 _ _ 0 0 rfl (by decide) _ rfl]; go_wp2; exact ⟨⟨0 + 1, by omega, by go_num, qz141, HB⟩, qz140⟩
        · rw [if_pos rfl] at HE
          go_wp2; rw [run_idx8 _ _ 0 0 rfl (by decide) _ rfl]
          go_wp2_with ((with_reducible refine gate_builtin (b := .append) (xs := #[.tmp 15, .tmp 17]) rfl ?_); at_builtin; refine Kd.R_append (Kd.int .i64) (w0 := w) w.heap.size rfl (.tmp 15) (.tmp 17) 26 3 (.int .i64 0) 8 rfl Tryd.underlying26 info3 rfl (by decide) (by omega) (.slice vA (S 0).length vC) (S 0) ((0 : Nat) : Int) [.int .i64 ((0 : Nat) : Int)] (fun b => w.heap.size ≤ b) (fun _ => False) rfl rfl ?aP (fun _ hk => hk.elim) ?aF ?aO ?aB ?aS ?aL ?_; (case aP => exact rfl); (case aF => exact qz117); (case aO => exact HV.out); (case aB => exact HB.out); (case aS => exact below_size HB.out); (case aL => have := HTL.out; omega)
                       intro v_ w_ ho hb hg hat; have HP1 := ak ho
                       have HP2 := ak hb)
          exact ⟨⟨0 + 1, by omega, by go_num, qz144, HP2⟩, qz140⟩
      · have HE := HE1
        cases b1
        · rw [if_neg (by decide)] at HE
          go_wp2; rw [run_idx8 _ _ 1 1 rfl (by decide) _ rfl]; go_wp2; exact ⟨⟨1 + 1, by omega, by go_num, qz141, HB⟩, qz140⟩
        · rw [if_pos rfl] at HE
          go_wp2; rw [run_idx8 _ _ 1 1 rfl (by decide) _ rfl]
          go_wp2_with ((with_reducible refine gate_builtin (b := .append) (xs := #[.tmp 15, .tmp 17]) rfl ?_); at_builtin; refine Kd.R_append (Kd.int .i64) (w0 := w) w.heap.size rfl (.tmp 15) (.tmp 17) 26 3 (.int .i64 0) 8 rfl Tryd.underlying26 info3 rfl (by decide) (by omega) (.slice vA (S 1).length vC) (S 1) ((1 : Nat) : Int) [.int .i64 ((1 : Nat) : Int)] (fun b => w.heap.size ≤ b) (fun _ => False) rfl rfl ?aP (fun _ hk => hk.elim) ?aF ?aO ?aB ?aS ?aL ?_; (case aP => exact rfl); (case aF => exact qz117); (case aO => exact HV.out); (case aB => exact HB.out); (case aS => exact below_size HB.out); (case aL => have := HTL.out; omega)
                       intro v_ w_ ho hb hg hat; have HP1 := ak ho
                       have HP2 := ak hb)
          exact ⟨⟨1 + 1, by omega, by go_num, qz144, HP2⟩, qz140⟩
      · have HE := HE2
        cases b2
        · rw [if_neg (by decide)] at HE
          go_wp2; rw [run_idx8 _ _ 2 2 rfl (by decide) _ rfl]; go_wp2; exact ⟨⟨2 + 1, by omega, by go_num, qz141, HB⟩, qz140⟩
        · rw [if_pos rfl] at HE
          go_wp2; rw [run_idx8 _ _ 2 2 rfl (by decide) _ rfl]
          go_wp2_with ((with_reducible refine gate_builtin (b := .append) (xs := #[.tmp 15, .tmp 17]) rfl ?_); at_builtin; refine Kd.R_append (Kd.int .i64) (w0 := w) w.heap.size rfl (.tmp 15) (.tmp 17) 26 3 (.int .i64 0) 8 rfl Tryd.underlying26 info3 rfl (by decide) (by omega) (.slice vA (S 2).length vC) (S 2) ((2 : Nat) : Int) [.int .i64 ((2 : Nat) : Int)] (fun b => w.heap.size ≤ b) (fun _ => False) rfl rfl ?aP (fun _ hk => hk.elim) ?aF ?aO ?aB ?aS ?aL ?_; (case aP => exact rfl); (case aF => exact qz117); (case aO => exact HV.out); (case aB => exact HB.out); (case aS => exact below_size HB.out); (case aL => have := HTL.out; omega)
                       intro v_ w_ ho hb hg hat; have HP1 := ak ho
                       have HP2 := ak hb)
          exact ⟨⟨2 + 1, by omega, by go_num, qz144, HP2⟩, qz140⟩
      · have HE := HE3
        cases b3
        · rw [if_neg (by decide)] at HE
          go_wp2; rw [run_idx8 _ _ 3 3 rfl (by decide) _ rfl]; go_wp2; exact ⟨⟨3 + 1, by omega, by go_num, qz141, HB⟩, qz140⟩
        · rw [if_pos rfl] at HE
          go_wp2; rw [run_idx8 _ _ 3 3 rfl (by decide) _ rfl]
          go_wp2_with ((with_reducible refine gate_builtin (b := .append) (xs := #[.tmp 15, .tmp 17]) rfl ?_); at_builtin; refine Kd.R_append (Kd.int .i64) (w0 := w) w.heap.size rfl (.tmp 15) (.tmp 17) 26 3 (.int .i64 0) 8 rfl Tryd.underlying26 info3 rfl (by decide) (by omega) (.slice vA (S 3).length vC) (S 3) ((3 : Nat) : Int) [.int .i64 ((3 : Nat) : Int)] (fun b => w.heap.size ≤ b) (fun _ => False) rfl rfl ?aP (fun _ hk => hk.elim) ?aF ?aO ?aB ?aS ?aL ?_; (case aP => exact rfl); (case aF => exact qz117); (case aO => exact HV.out); (case aB => exact HB.out); (case aS => exact below_size HB.out); (case aL => have := HTL.out; omega)
                       intro v_ w_ ho hb hg hat; have HP1 := ak ho
                       have HP2 := ak hb)
          exact ⟨⟨3 + 1, by omega, by go_num, qz144, HP2⟩, qz140⟩
      · have HE := HE4
        cases b4
        · rw [if_neg (by decide)] at HE
          go_wp2; rw [run_idx8 _ _ 4 4 rfl (by decide) _ rfl]; go_wp2; exact ⟨⟨4 + 1, by omega, by go_num, qz141, HB⟩, qz140⟩
        · rw [if_pos rfl] at HE
          go_wp2; rw [run_idx8 _ _ 4 4 rfl (by decide) _ rfl]
          go_wp2_with ((with_reducible refine gate_builtin (b := .append) (xs := #[.tmp 15, .tmp 17]) rfl ?_); at_builtin; refine Kd.R_append (Kd.int .i64) (w0 := w) w.heap.size rfl (.tmp 15) (.tmp 17) 26 3 (.int .i64 0) 8 rfl Tryd.underlying26 info3 rfl (by decide) (by omega) (.slice vA (S 4).length vC) (S 4) ((4 : Nat) : Int) [.int .i64 ((4 : Nat) : Int)] (fun b => w.heap.size ≤ b) (fun _ => False) rfl rfl ?aP (fun _ hk => hk.elim) ?aF ?aO ?aB ?aS ?aL ?_; (case aP => exact rfl); (case aF => exact qz117); (case aO => exact HV.out); (case aB => exact HB.out); (case aS => exact below_size HB.out); (case aL => have := HTL.out; omega)
                       intro v_ w_ ho hb hg hat; have HP1 := ak ho
                       have HP2 := ak hb)
          exact ⟨⟨4 + 1, by omega, by go_num, qz144, HP2⟩, qz140⟩
      · have HE := HE5
        cases b5
        · rw [if_neg (by decide)] at HE
          go_wp2; rw [run_idx8 _ _ 5 5 rfl (by decide) _ rfl]; go_wp2; exact ⟨⟨5 + 1, by omega, by go_num, qz141, HB⟩, qz140⟩
        · rw [if_pos rfl] at HE
          go_wp2; rw [run_idx8 _ _ 5 5 rfl (by decide) _ rfl]
          go_wp2_with ((with_reducible refine gate_builtin (b := .append) (xs := #[.tmp 15, .tmp 17]) rfl ?_); at_builtin; refine Kd.R_append (Kd.int .i64) (w0 := w) w.heap.size rfl (.tmp 15) (.tmp 17) 26 3 (.int .i64 0) 8 rfl Tryd.underlying26 info3 rfl (by decide) (by omega) (.slice vA (S 5).length vC) (S 5) ((5 : Nat) : Int) [.int .i64 ((5 : Nat) : Int)] (fun b => w.heap.size ≤ b) (fun _ => False) rfl rfl ?aP (fun _ hk => hk.elim) ?aF ?aO ?aB ?aS ?aL ?_; (case aP => exact rfl); (case aF => exact qz117); (case aO => exact HV.out); (case aB => exact HB.out); (case aS => exact below_size HB.out); (case aL => have := HTL.out; omega)
                       intro v_ w_ ho hb hg hat; have HP1 := ak ho
                       have HP2 := ak hb)
          exact ⟨⟨5 + 1, by omega, by go_num, qz144, HP2⟩, qz140⟩
      · have HE := HE6
        cases b6
        · rw [if_neg (by decide)] at HE
          go_wp2; rw [run_idx8 _ _ 6 6 rfl (by decide) _ rfl]; go_wp2; exact ⟨⟨6 + 1, by omega, by go_num, qz141, HB⟩, qz140⟩
        · rw [if_pos rfl] at HE
          go_wp2; rw [run_idx8 _ _ 6 6 rfl (by decide) _ rfl]
          go_wp2_with ((with_reducible refine gate_builtin (b := .append) (xs := #[.tmp 15, .tmp 17]) rfl ?_); at_builtin; refine Kd.R_append (Kd.int .i64) (w0 := w) w.heap.size rfl (.tmp 15) (.tmp 17) 26 3 (.int .i64 0) 8 rfl Tryd.underlying26 info3 rfl (by decide) (by omega) (.slice vA (S 6).length vC) (S 6) ((6 : Nat) : Int) [.int .i64 ((6 : Nat) : Int)] (fun b => w.heap.size ≤ b) (fun _ => False) rfl rfl ?aP (fun _ hk => hk.elim) ?aF ?aO ?aB ?aS ?aL ?_; (case aP => exact rfl); (case aF => exact qz117); (case aO => exact HV.out); (case aB => exact HB.out); (case aS => exact below_size HB.out); (case aL => have := HTL.out; omega)
                       intro v_ w_ ho hb hg hat; have HP1 := ak ho
                       have HP2 := ak hb)
          exact ⟨⟨6 + 1, by omega, by go_num, qz144, HP2⟩, qz140⟩
      · have HE := HE7
        cases b7
        · rw [if_neg (by decide)] at HE
          go_wp2; rw [run_idx8 _ _ 7 7 rfl (by decide) _ rfl]; go_wp2; exact ⟨⟨7 + 1, by omega, by go_num, qz141, HB⟩, qz140⟩
        · rw [if_pos rfl] at HE
          go_wp2; rw [run_idx8 _ _ 7 7 rfl (by decide) _ rfl]
          go_wp2_with ((with_reducible refine gate_builtin (b := .append) (xs := #[.tmp 15, .tmp 17]) rfl ?_); at_builtin; refine Kd.R_append (Kd.int .i64) (w0 := w) w.heap.size rfl (.tmp 15) (.tmp 17) 26 3 (.int .i64 0) 8 rfl Tryd.underlying26 info3 rfl (by decide) (by omega) (.slice vA (S 7).length vC) (S 7) ((7 : Nat) : Int) [.int .i64 ((7 : Nat) : Int)] (fun b => w.heap.size ≤ b) (fun _ => False) rfl rfl ?aP (fun _ hk => hk.elim) ?aF ?aO ?aB ?aS ?aL ?_; (case aP => exact rfl); (case aF => exact qz117); (case aO => exact HV.out); (case aB => exact HB.out); (case aS => exact below_size HB.out); (case aL => have := HTL.out; omega)
                       intro v_ w_ ho hb hg hat; have HP1 := ak ho
                       have HP2 := ak hb)
          exact ⟨⟨7 + 1, by omega, by go_num, qz144, HP2⟩, qz140⟩
    · obtain rfl : j = 8 := by omega
      go_wp2; exact bodyPost_ret (v := .slice vA (S 8).length vC) (by simp [results, Tryd.results65, go_sem]) rfl ⟨_, rfl, HV.out, HB.out⟩
end Go.Proofs.YtcafgpincnkcdaaDoor.Net
namespace Go.Proofs.YtcafgpincnkcdaaDoor.Net
open Go Go.Maps Go.WideElems Go.ChangeShapes Go.RowKit YtcafgpincnkcdaaDoorW.PrintWords YtcafgpincnkcdaaDoorW.PrintLast YtcafgpincnkcdaaDoorW.PrintMore A Plain
open Tree (verts legs W)
open Grow (Q)
end Go.Proofs.YtcafgpincnkcdaaDoor.Net
namespace Go.Proofs.YtcafgpincnkcdaaDoor.Net
open Go.RowKit YtcafgpincnkcdaaDoorW.PrintWords YtcafgpincnkcdaaDoorW.PrintLast YtcafgpincnkcdaaDoorW.PrintMore A Plain
open Tree (verts legs W)
open Grow (Q sweep grow)
open Conn (Conn)
end Go.Proofs.YtcafgpincnkcdaaDoor.Net
namespace Go.Proofs.YtcafgpincnkcdaaDoor.Net
open Go Go.RowKit YtcafgpincnkcdaaDoorW.PrintWords YtcafgpincnkcdaaDoorW.PrintLast YtcafgpincnkcdaaDoorW.PrintMore A Plain
open Tree (verts legs W)
open Grow (Q)
end Go.Proofs.YtcafgpincnkcdaaDoor.Net
namespace Go.Proofs.YtcafgpincnkcdaaDoor.Net
open Go.RowKit YtcafgpincnkcdaaDoorW.PrintWords YtcafgpincnkcdaaDoorW.PrintLast YtcafgpincnkcdaaDoorW.PrintMore A Plain
theorem l6Has_ev (ls : L) (s : Int) (hb : ls.length ≤ 140737488351232) : Ev (fun m => spec_l6Has.f m ls s) (legsB ls && decide (s ∈ plL (RR ls))) := by
  unfold spec_l6Has.f; refine Ev.bind (l4Legs_ev ls hb) ?_; cases h : legsB ls
  · exact Ev.neg (by decide) (Ev.now _)
  · have h' := legsB_iff.mp h
    have hs := plL_small h'.1; exact Ev.pos rfl (Ev.bind (place_ev ls h'.2 h'.1 (RR ls) rfl) (Ev.bind (has_ev _ _ (by show (plL (RR ls)).length ≤ _; omega)) (Ev.now _)))
theorem place_bound {ls : L} (hg : ∀ x ∈ ls, Good x) (s : Nat) : (-3500 ≤ (Xq ls (RR ls) s).f0 ∧ (Xq ls (RR ls) s).f0 ≤ 3500) ∧ (-3500 ≤ (Xq ls (RR ls) s).f1 ∧ (Xq ls (RR ls) s).f1 ≤ 3500) ∧ (-3500 ≤ (Xq ls (RR ls) s).f2 ∧ (Xq ls (RR ls) s).f2 ≤ 3500) := by
  have hl := RR_len hg; have b0 := pl_bound (sh0 ls) (fun i a b => (sh_bound hg i a b).1) (RR_idx hg) (s : Int); have b1 := pl_bound (sh1 ls) (fun i a b => (sh_bound hg i a b).2.1) (RR_idx hg) (s : Int); have b2 := pl_bound (sh2 ls) (fun i a b => (sh_bound hg i a b).2.2) (RR_idx hg) (s : Int); unfold Xq; rw [plq_pl hg (q := RR ls) (by omega) (RR_idx hg) (s : Int)]; simp only; omega
def offM (ls : L) (s i : Nat) : S31 := plus (Xq ls (RR ls) i) (Xq ls (RR ls) s) (-1)
theorem off_bound {ls : L} (hg : ∀ x ∈ ls, Good x) (s i : Nat) : (-100000 ≤ (offM ls s i).f0 ∧ (offM ls s i).f0 ≤ 100000) ∧ (-100000 ≤ (offM ls s i).f1 ∧ (offM ls s i).f1 ≤ 100000) ∧ (-100000 ≤ (offM ls s i).f2 ∧ (offM ls s i).f2 ≤ 100000) := by
  have h1 := place_bound hg i; have h2 := place_bound hg s; have e := (plus_exact (a := Xq ls (RR ls) i) (b := Xq ls (RR ls) s) ⟨by omega, by omega, by omega⟩ ⟨by omega, by omega, by omega⟩).2; unfold offM; rw [e]; simp only; omega
def nearM (ls : L) (s i : Nat) : Int := sizeM (offM ls s i).f0 (offM ls s i).f1 (offM ls s i).f2
def nearL (ls : L) (s : Nat) (d : Int) (l : List Int) : List Int := l.filter (fun i => decide (nearM ls s i.toNat ≤ d))
theorem near_loop {ls : L} (hg : ∀ x ∈ ls, Good x) (s : Nat) (hs : s < 8) (dist : Int) : ∀ (d j : Nat) (out : List Int), j + d = (plL (RR ls)).length → out.length ≤ j →
    Ev (fun k => spec_StationsWithin.l0 k (s : Int) dist out (XL ls (RR ls)) (plL (RR ls)) (j : Int)) (out ++ nearL ls s dist ((plL (RR ls)).drop j), true) := by
  have hpl := plL_small hg; intro d
  induction d with
  | zero =>
    intro j out hj ho; rw [List.drop_eq_nil_of_le (by omega)]; refine Ev.step (f := fun _ => some (out, true)) (fun k => ?_) (by simp only [nearL, List.filter_nil, List.append_nil]; exact Ev.now _); simp only [spec_StationsWithin.l0]; rw [if_neg (by omega)]
  | succ d ih =>
    intro j out hj ho; have hlt : j < (plL (RR ls)).length := by omega
    have hm := List.getElem_mem hlt; have h8 := Grow.in_range (ends ls) (RR_ok hg).1 (Good.range hg) _ ((mem_plL _ _).mp hm); rw [List.drop_eq_getElem_cons hlt]; have er := rd_at (plL (RR ls)) j hlt; obtain ⟨a, ha⟩ := Int.eq_ofNat_of_zero_le h8.1; rw [ha] at h8 er ⊢; have hlen : ((XL ls (RR ls)).length : Int) = 8 := by rw [XL_len]; rfl
    have hb := off_bound hg s a; have hp : spec_l4Plus.f (Xq ls (RR ls) a).f0 (Xq ls (RR ls) a).f1 (Xq ls (RR ls) a).f2 (Xq ls (RR ls) s).f0 (Xq ls (RR ls) s).f1 (Xq ls (RR ls) s).f2 (-1) = some ((offM ls s a).f0, (offM ls s a).f1, (offM ls s a).f2) := rfl; refine Ev.step (f := fun k => (spec_LengthOf.f k (offM ls s a).f0 (offM ls s a).f1 (offM ls s a).f2).bind fun bt695 => (if bt695.1 ≤ dist then (spec_StationsWithin.l0 k (s : Int) dist (out ++ [(a : Int)]) (XL ls (RR ls)) (plL (RR ls)) ((j + 1 : Nat) : Int)) else (spec_StationsWithin.l0 k (s : Int) dist out (XL ls (RR ls)) (plL (RR ls)) ((j + 1 : Nat) : Int)))) (fun k => ?_) ?_
    · simp only [spec_StationsWithin.l0]
      rw [if_pos (by omega), if_pos (by omega), er, if_pos (by omega), if_pos (by omega), if_pos (by omega), if_pos (by omega), XL_at _ _ a (by omega), XL_at _ _ s hs, hp, Option.bind_some, w64 (by omega) (by omega), if_pos (show out.length < 17592186044416 by omega)]; rfl
    · refine Ev.bind (sizeM_ev _ _ _ hb.1 hb.2.1 hb.2.2) ?_
      have e0 : ∀ l, nearL ls s dist ((a : Int) :: l) = if nearM ls s a ≤ dist then (a : Int) :: nearL ls s dist l else nearL ls s dist l := fun l => by
        unfold nearL; split
        · rename_i h; rw [List.filter_cons_of_pos (by simpa using h)]
        · rename_i h; rw [List.filter_cons_of_neg (by simpa using h)]
      rw [e0]; by_cases h : nearM ls s a ≤ dist
      · rw [if_pos h]
        refine Ev.pos h ?_; have := ih (j + 1) (out ++ [(a : Int)]) (by omega) qz105; rw [List.append_assoc, List.singleton_append] at this; exact this
      · rw [if_neg h]
        refine Ev.neg h ?_; exact ih (j + 1) out (by omega) (by omega)
theorem specNear_ev (ls : L) (s dist : Int) (hb : ls.length ≤ 140737488351232) : Ev (fun k => spec_StationsWithin.f k ls s dist) (if legsB ls = true ∧ s ∈ plL (RR ls) ∧ 0 ≤ dist then (nearL ls s.toNat dist (plL (RR ls)), true) else ([], false)) := by
  have h6 := l6Has_ev ls s hb; unfold spec_StationsWithin.f; refine Ev.bindc rfl (Ev.bind h6 ?_); have stop : Ev (fun k => spec_StationsWithin.j0 k ls s dist [] true) (([] : List Int), false) := Ev.step (f := fun _ => some ([], false)) (fun k => by simp only [spec_StationsWithin.j0, if_true]) (Ev.now _); by_cases h : legsB ls = true ∧ s ∈ plL (RR ls)
  · refine Ev.pos (by rw [h.1, decide_eq_true h.2]; rfl) ?_
    have hv := legsB_iff.mp h.1; by_cases hd : dist < 0
    · rw [decide_eq_true hd, if_neg (fun e => by have := e.2.2; omega)]
      exact stop
    · rw [decide_eq_false hd, if_pos ⟨h.1, h.2, by omega⟩]
      have h8 := Grow.in_range (ends ls) (RR_ok hv.1).1 (Good.range hv.1) _ ((mem_plL _ _).mp h.2); refine Ev.step (f := fun k => (spec_l6Place.f k ls).bind fun bt679 => spec_StationsWithin.l0 k s dist [] bt679.1 bt679.2.1 0) (fun k => by simp only [spec_StationsWithin.j0, Bool.false_eq_true, if_false]) ?_; refine Ev.bind (place_ev ls hv.2 hv.1 (RR ls) rfl) ?_; obtain ⟨b, rfl⟩ := Int.eq_ofNat_of_zero_le h8.1; exact near_loop hv.1 b (by omega) dist _ 0 [] (Nat.zero_add _) (by simp)
  · refine Ev.neg (by rw [Bool.and_eq_true, decide_eq_true_eq]; exact h) ?_
    rw [if_neg (fun e => h ⟨e.1, e.2.1⟩)]; exact stop
def lo2 (a b : Int) : Int := if b < a then b else a
def hi2 (a b : Int) : Int := if a < b then b else a
abbrev S2 := S31 × S31
def extS (e : S2) (p : S31) : S2 := (⟨lo2 e.1.f0 p.f0, lo2 e.1.f1 p.f1, lo2 e.1.f2 p.f2⟩, ⟨hi2 e.2.f0 p.f0, hi2 e.2.f1 p.f1, hi2 e.2.f2 p.f2⟩)
def z2 : S2 := (⟨0, 0, 0⟩, ⟨0, 0, 0⟩)
def extTo (P : Nat → Bool) (X : Nat → S31) : Nat → S2
  | 0 => z2
  | k + 1 => if P k = true then extS (extTo P X k) (X k) else extTo P X k
def extL (X : Nat → S31) (l : List Int) (e : S2) : S2 := l.foldl (fun e i => extS e (X i.toNat)) e
theorem extL_sel (P : Nat → Bool) (X : Nat → S31) : ∀ k, extL X (selTo P k) z2 = extTo P X k
  | 0 => rfl
  | k + 1 => by
    have ih := extL_sel P X k; unfold selTo extTo; split
    · rename_i c
      unfold extL at ih ⊢; rw [List.foldl_append, ih]; rfl
    · exact ih
def extM (ls : L) : S2 := extL (Xq ls (RR ls)) (plL (RR ls)) z2
theorem extM_to {ls : L} (hg : ∀ x ∈ ls, Good x) : extTo (Pq (RR ls)) (Xq ls (RR ls)) 8 = extM ls := by
  rw [← extL_sel, plL_sel hg]; rfl
theorem lo2_le (a b : Int) : lo2 a b ≤ a ∧ lo2 a b ≤ b := by unfold lo2; split <;> omega
theorem hi2_ge (a b : Int) : a ≤ hi2 a b ∧ b ≤ hi2 a b := by unfold hi2; split <;> omega
theorem lo2_in {a b m : Int} (h : m ≤ a) (k : m ≤ b) : m ≤ lo2 a b := by unfold lo2; split <;> omega
theorem hi2_in {a b m : Int} (h : a ≤ m) (k : b ≤ m) : hi2 a b ≤ m := by unfold hi2; split <;> omega
theorem least_eq (a b : Int) : spec_l1Least.f a b = some (lo2 a b) := by
  unfold spec_l1Least.f lo2; split <;> split <;> first | rfl | (congr 1; omega)
theorem most_eq (a b : Int) : spec_l1Most.f a b = some (hi2 a b) := by
  unfold spec_l1Most.f hi2; split <;> split <;> first | rfl | (congr 1; omega)
theorem ext_bound (X : Nat → S31) (m : Int) (hX : ∀ s, (-m ≤ (X s).f0 ∧ (X s).f0 ≤ m) ∧ (-m ≤ (X s).f1 ∧ (X s).f1 ≤ m) ∧ (-m ≤ (X s).f2 ∧ (X s).f2 ≤ m)) : ∀ (l : List Int) (e : S2),
    ((-m ≤ e.1.f0 ∧ e.1.f0 ≤ 0) ∧ (-m ≤ e.1.f1 ∧ e.1.f1 ≤ 0) ∧ (-m ≤ e.1.f2 ∧ e.1.f2 ≤ 0)) ∧ ((0 ≤ e.2.f0 ∧ e.2.f0 ≤ m) ∧ (0 ≤ e.2.f1 ∧ e.2.f1 ≤ m) ∧ (0 ≤ e.2.f2 ∧ e.2.f2 ≤ m)) →
    (((-m ≤ (extL X l e).1.f0 ∧ (extL X l e).1.f0 ≤ 0) ∧ (-m ≤ (extL X l e).1.f1 ∧ (extL X l e).1.f1 ≤ 0) ∧ (-m ≤ (extL X l e).1.f2 ∧ (extL X l e).1.f2 ≤ 0)) ∧ ((0 ≤ (extL X l e).2.f0 ∧ (extL X l e).2.f0 ≤ m) ∧ (0 ≤ (extL X l e).2.f1 ∧ (extL X l e).2.f1 ≤ m) ∧ (0 ≤ (extL X l e).2.f2 ∧ (extL X l e).2.f2 ≤ m)))
  | [], e, h => h
  | i :: l, e, h => by
    have hx := hX i.toNat; refine ext_bound X m hX l (extS e (X i.toNat)) ?_; have a0 := lo2_le e.1.f0 (X i.toNat).f0; have a1 := lo2_le e.1.f1 (X i.toNat).f1; have a2 := lo2_le e.1.f2 (X i.toNat).f2; have b0 := hi2_ge e.2.f0 (X i.toNat).f0; have b1 := hi2_ge e.2.f1 (X i.toNat).f1; have b2 := hi2_ge e.2.f2 (X i.toNat).f2; have c0 : -m ≤ lo2 e.1.f0 (X i.toNat).f0 := lo2_in h.1.1.1 hx.1.1; have c1 : -m ≤ lo2 e.1.f1 (X i.toNat).f1 := lo2_in h.1.2.1.1 hx.2.1.1; have c2 : -m ≤ lo2 e.1.f2 (X i.toNat).f2 := lo2_in h.1.2.2.1 hx.2.2.1; have d0 : hi2 e.2.f0 (X i.toNat).f0 ≤ m := hi2_in h.2.1.2 hx.1.2; have d1 : hi2 e.2.f1 (X i.toNat).f1 ≤ m := hi2_in h.2.2.1.2 hx.2.1.2; have d2 : hi2 e.2.f2 (X i.toNat).f2 ≤ m := hi2_in h.2.2.2.2 hx.2.2.2; obtain ⟨⟨h0, h1, h2⟩, ⟨k0, k1, k2⟩⟩ := h; unfold extS; simp only; generalize lo2 e.1.f0 (X i.toNat).f0 = q0 at *; generalize lo2 e.1.f1 (X i.toNat).f1 = q1 at *; generalize lo2 e.1.f2 (X i.toNat).f2 = q2 at *; generalize hi2 e.2.f0 (X i.toNat).f0 = r0 at *; generalize hi2 e.2.f1 (X i.toNat).f1 = r1 at *; generalize hi2 e.2.f2 (X i.toNat).f2 = r2 at *; exact ⟨⟨⟨c0, by omega⟩, ⟨c1, by omega⟩, ⟨c2, by omega⟩⟩, ⟨⟨by omega, d0⟩, ⟨by omega, d1⟩, ⟨by omega, d2⟩⟩⟩
def deepL (X : Nat → S31) (l : List Int) (b : Int) : Int := l.foldl (fun b i => if (X i.toNat).f2 < (X b.toNat).f2 then i else b) b
def deepM (ls : L) : Int := deepL (Xq ls (RR ls)) (plL (RR ls)) 0
theorem ext_loop {ls : L} (hg : ∀ x ∈ ls, Good x) : ∀ (d j : Nat) (e : S2), j + d = (plL (RR ls)).length →
    Ev (fun k => spec_l6Extent.l0 k (XL ls (RR ls)) (plL (RR ls)) (j : Int) e.1.f0 e.1.f1 e.1.f2 e.2.f0 e.2.f1 e.2.f2) ((extL (Xq ls (RR ls)) ((plL (RR ls)).drop j) e).1.f0, (extL (Xq ls (RR ls)) ((plL (RR ls)).drop j) e).1.f1, (extL (Xq ls (RR ls)) ((plL (RR ls)).drop j) e).1.f2, (extL (Xq ls (RR ls)) ((plL (RR ls)).drop j) e).2.f0, (extL (Xq ls (RR ls)) ((plL (RR ls)).drop j) e).2.f1, (extL (Xq ls (RR ls)) ((plL (RR ls)).drop j) e).2.f2) := by
  have hpl := plL_small hg; intro d
  induction d with
  | zero =>
    intro j e hj; rw [List.drop_eq_nil_of_le (by omega)]; refine Ev.step (f := fun _ => some (e.1.f0, e.1.f1, e.1.f2, e.2.f0, e.2.f1, e.2.f2)) (fun k => ?_) (Ev.now _); simp only [spec_l6Extent.l0]; rw [if_neg (by omega)]
  | succ d ih =>
    intro j e hj; have hlt : j < (plL (RR ls)).length := by omega
    have hm := List.getElem_mem hlt; have h8 := Grow.in_range (ends ls) (RR_ok hg).1 (Good.range hg) _ ((mem_plL _ _).mp hm); rw [List.drop_eq_getElem_cons hlt]; have er := rd_at (plL (RR ls)) j hlt; obtain ⟨a, ha⟩ := Int.eq_ofNat_of_zero_le h8.1; rw [ha] at h8 er ⊢; have hlen : ((XL ls (RR ls)).length : Int) = 8 := by rw [XL_len]; rfl
    refine Ev.step (f := fun k => spec_l6Extent.l0 k (XL ls (RR ls)) (plL (RR ls)) ((j + 1 : Nat) : Int) (extS e (Xq ls (RR ls) a)).1.f0 (extS e (Xq ls (RR ls) a)).1.f1 (extS e (Xq ls (RR ls) a)).1.f2 (extS e (Xq ls (RR ls) a)).2.f0 (extS e (Xq ls (RR ls) a)).2.f1 (extS e (Xq ls (RR ls) a)).2.f2) (fun k => ?_) (ih (j + 1) (extS e (Xq ls (RR ls) a)) (by omega)); simp only [spec_l6Extent.l0]; rw [if_pos (by omega), if_pos (by omega), er, if_pos (by omega), if_pos (by omega), XL_at _ _ a (by omega), least_eq, Option.bind_some, least_eq, Option.bind_some, least_eq, Option.bind_some, most_eq, Option.bind_some, most_eq, Option.bind_some, most_eq, Option.bind_some, w64 (by omega) (by omega)]; rfl
theorem l6Extent_ev (ls : L) (hn : ls.length ≤ 12) (hg : ∀ x ∈ ls, Good x) : Ev (fun k => spec_l6Extent.f k ls) ((extM ls).1.f0, (extM ls).1.f1, (extM ls).1.f2, (extM ls).2.f0, (extM ls).2.f1, (extM ls).2.f2) := by
  unfold spec_l6Extent.f; refine Ev.bind (place_ev ls hn hg (RR ls) rfl) ?_; exact ext_loop hg _ 0 z2 (Nat.zero_add _)
def extentM (ls : L) : S2 × Bool := if legsB ls = true then (extM ls, true) else (z2, false)
def depthM (ls : L) : Int × Bool := if legsB ls = true then (wrap64 ((extM ls).2.f2 - (extM ls).1.f2), true) else (0, false)
def deepestM (ls : L) : Int × Bool := if legsB ls = true then (deepM ls, true) else (0, false)
theorem specExtent_ev (ls : L) (hb : ls.length ≤ 140737488351232) : Ev (fun k => spec_ExtentOf.f k ls) ((extentM ls).1.1.f0, (extentM ls).1.1.f1, (extentM ls).1.1.f2, (extentM ls).1.2.f0, (extentM ls).1.2.f1, (extentM ls).1.2.f2, (extentM ls).2) := by
  unfold spec_ExtentOf.f extentM; refine Ev.bind (l4Legs_ev ls hb) ?_; cases h : legsB ls
  · exact Ev.neg (by decide) (Ev.now _)
  · have hv := legsB_iff.mp h
    exact Ev.pos rfl (Ev.bind (l6Extent_ev ls hv.2 hv.1) (Ev.now _))
theorem specDepth_ev (ls : L) (hb : ls.length ≤ 140737488351232) : Ev (fun k => spec_DepthOf.f k ls) (depthM ls) := by
  unfold spec_DepthOf.f depthM; refine Ev.bind (l4Legs_ev ls hb) ?_; cases h : legsB ls
  · exact Ev.neg (by decide) (Ev.now _)
  · have hv := legsB_iff.mp h
    exact Ev.pos rfl (Ev.bind (l6Extent_ev ls hv.2 hv.1) (Ev.now _))
theorem deep_loop {ls : L} (hg : ∀ x ∈ ls, Good x) : ∀ (d j : Nat) (b : Nat), b < 8 → j + d = (plL (RR ls)).length →
    Ev (fun k => spec_DeepestStation.l0 k (XL ls (RR ls)) (plL (RR ls)) (b : Int) (j : Int)) (deepL (Xq ls (RR ls)) ((plL (RR ls)).drop j) b, true) := by
  have hpl := plL_small hg; intro d
  induction d with
  | zero =>
    intro j b hb hj; rw [List.drop_eq_nil_of_le (by omega)]; refine Ev.step (f := fun _ => some ((b : Int), true)) (fun k => ?_) (Ev.now _); simp only [spec_DeepestStation.l0]; rw [if_neg (by omega)]
  | succ d ih =>
    intro j b hb hj; have hlt : j < (plL (RR ls)).length := by omega
    have hm := List.getElem_mem hlt; have h8 := Grow.in_range (ends ls) (RR_ok hg).1 (Good.range hg) _ ((mem_plL _ _).mp hm); rw [List.drop_eq_getElem_cons hlt]; have er := rd_at (plL (RR ls)) j hlt; obtain ⟨a, ha⟩ := Int.eq_ofNat_of_zero_le h8.1; rw [ha] at h8 er ⊢; have hlen : ((XL ls (RR ls)).length : Int) = 8 := by rw [XL_len]; rfl
    have e0 : deepL (Xq ls (RR ls)) ((a : Int) :: (plL (RR ls)).drop (j + 1)) b = deepL (Xq ls (RR ls)) ((plL (RR ls)).drop (j + 1)) (if (Xq ls (RR ls) a).f2 < (Xq ls (RR ls) b).f2 then (a : Int) else (b : Int)) := rfl; rw [e0]; refine Ev.step (f := fun k => if (Xq ls (RR ls) a).f2 < (Xq ls (RR ls) b).f2 then spec_DeepestStation.l0 k (XL ls (RR ls)) (plL (RR ls)) (a : Int) ((j + 1 : Nat) : Int) else spec_DeepestStation.l0 k (XL ls (RR ls)) (plL (RR ls)) (b : Int) ((j + 1 : Nat) : Int)) (fun k => ?_) ?_
    · simp only [spec_DeepestStation.l0]
      rw [if_pos (by omega), if_pos (by omega), er, if_pos (by omega), if_pos (by omega), if_pos (by omega), if_pos (by omega), XL_at _ _ a (by omega), XL_at _ _ b hb, w64 (by omega) (by omega)]; rfl
    · by_cases h : (Xq ls (RR ls) a).f2 < (Xq ls (RR ls) b).f2
      · rw [if_pos h]
        exact Ev.pos h (ih (j + 1) a (by omega) (by omega))
      · rw [if_neg h]
        exact Ev.neg h (ih (j + 1) b hb (by omega))
theorem specDeepest_ev (ls : L) (hb : ls.length ≤ 140737488351232) : Ev (fun k => spec_DeepestStation.f k ls) (deepestM ls) := by
  unfold spec_DeepestStation.f deepestM; refine Ev.bind (l4Legs_ev ls hb) ?_; cases h : legsB ls
  · exact Ev.neg (by decide) (Ev.now _)
  · have hv := legsB_iff.mp h
    refine Ev.pos rfl (Ev.bind (place_ev ls hv.2 hv.1 (RR ls) rfl) ?_); exact deep_loop hv.1 _ 0 0 (by decide) (Nat.zero_add _)
end Go.Proofs.YtcafgpincnkcdaaDoor.Net
namespace Go.Proofs.YtcafgpincnkcdaaDoor.Net
open Go Go.RowKit YtcafgpincnkcdaaDoorW.PrintWords YtcafgpincnkcdaaDoorW.PrintLast YtcafgpincnkcdaaDoorW.PrintMore A Plain
theorem run_idxS (w : World) (v : Array Value) (k : Nat) (i : Int) (hi : i = (k : Int)) (h8 : k < 8) (x : Array Value) (hx : v.extract (k * 3) (k * 3 + 3) = x) : (Instr.index 55 (.agg v) (.int .i64 i)).run Tryd.prog w = .ok (.agg x) w := by
  subst hi; have hn : (0 : Int) ≤ (k : Int) ∧ (k : Int) < ((8 : Nat) : Int) := by omega
  simp [Instr.index, run_underlying Tryd.underlying55, asIntOf, hn, go_sem]; rw [if_pos h8, hx]
theorem min2_lo (k k' : IntKind) (x y : Int) : Builtin.min2 (.int k x) (.int k' y) = pure (.int k (lo2 x y)) := min2_int k k' x y
theorem max2_hi (k k' : IntKind) (x y : Int) : Builtin.max2 (.int k x) (.int k' y) = pure (.int k (hi2 x y)) := max2_int k k' x y
attribute [local go_sem] max2_hi min2_lo max_two min_two
theorem extentW {n T g : Nat} {P : Nat → Bool} {X : Nat → S31} {B : Nat → Bool} {cl : Value} (w : World) (hS : St n T g P X B cl w) :
    Calls Tryd.prog 69 #[.pointer (some ⟨g, 0, none⟩)] w fun e w' => e = .returned (.tuple #[.agg #[.int .i64 (extTo P X 8).1.f0, .int .i64 (extTo P X 8).1.f1, .int .i64 (extTo P X 8).1.f2], .agg #[.int .i64 (extTo P X 8).2.f0, .int .i64 (extTo P X 8).2.f1, .int .i64 (extTo P X 8).2.f2]]) ∧ Below w.heap.size w w' := by
  have HB := ak (Below.refl w.heap.size w); have hgs : g < w.heap.size := World.block_lt_of_cell? _ _ hS.tc; have HS := ak hS; have HP : Aside0 (∀ s : Nat, s < 8 → w.cell? ⟨g, s, none⟩ = some (.bool (P s))) := ⟨hS.pb⟩
  have hR : w.rangeAt g 8 [Value.int IntKind.i64 (X 0).f0, Value.int IntKind.i64 (X 0).f1, Value.int IntKind.i64 (X 0).f2, Value.int IntKind.i64 (X 1).f0, Value.int IntKind.i64 (X 1).f1, Value.int IntKind.i64 (X 1).f2, Value.int IntKind.i64 (X 2).f0, Value.int IntKind.i64 (X 2).f1, Value.int IntKind.i64 (X 2).f2, Value.int IntKind.i64 (X 3).f0, Value.int IntKind.i64 (X 3).f1, Value.int IntKind.i64 (X 3).f2, Value.int IntKind.i64 (X 4).f0, Value.int IntKind.i64 (X 4).f1, Value.int IntKind.i64 (X 4).f2, Value.int IntKind.i64 (X 5).f0, Value.int IntKind.i64 (X 5).f1, Value.int IntKind.i64 (X 5).f2, Value.int IntKind.i64 (X 6).f0, Value.int IntKind.i64 (X 6).f1, Value.int IntKind.i64 (X 6).f2, Value.int IntKind.i64 (X 7).f0, Value.int IntKind.i64 (X 7).f1, Value.int IntKind.i64 (X 7).f2] := by
    intro j v hj; have hl : j < 24 := (List.getElem?_eq_some_iff.1 hj).1; have h24 : j = 0 ∨ j = 1 ∨ j = 2 ∨ j = 3 ∨ j = 4 ∨ j = 5 ∨ j = 6 ∨ j = 7 ∨ j = 8 ∨ j = 9 ∨ j = 10 ∨ j = 11 ∨ j = 12 ∨ j = 13 ∨ j = 14 ∨ j = 15 ∨ j = 16 ∨ j = 17 ∨ j = 18 ∨ j = 19 ∨ j = 20 ∨ j = 21 ∨ j = 22 ∨ j = 23 := by omega
    rcases h24 with rfl | rfl | rfl | rfl | rfl | rfl | rfl | rfl | rfl | rfl | rfl | rfl | rfl | rfl | rfl | rfl | rfl | rfl | rfl | rfl | rfl | rfl | rfl | rfl
    · obtain rfl : _ = v := by simpa using hj
      exact hS.px 0 (by decide)
    · obtain rfl : _ = v := by simpa using hj
      exact hS.py 0 (by decide)
    · obtain rfl : _ = v := by simpa using hj
      exact hS.pz 0 (by decide)
    · obtain rfl : _ = v := by simpa using hj
      exact hS.px 1 (by decide)
    · obtain rfl : _ = v := by simpa using hj
      exact hS.py 1 (by decide)
    · obtain rfl : _ = v := by simpa using hj
      exact hS.pz 1 (by decide)
    · obtain rfl : _ = v := by simpa using hj
      exact hS.px 2 (by decide)
    · obtain rfl : _ = v := by simpa using hj
      exact hS.py 2 (by decide)
    · obtain rfl : _ = v := by simpa using hj
      exact hS.pz 2 (by decide)
    · obtain rfl : _ = v := by simpa using hj
      exact hS.px 3 (by decide)
    · obtain rfl : _ = v := by simpa using hj
      exact hS.py 3 (by decide)
    · obtain rfl : _ = v := by simpa using hj
      exact hS.pz 3 (by decide)
    · obtain rfl : _ = v := by simpa using hj
      exact hS.px 4 (by decide)
    · obtain rfl : _ = v := by simpa using hj
      exact hS.py 4 (by decide)
    · obtain rfl : _ = v := by simpa using hj
      exact hS.pz 4 (by decide)
    · obtain rfl : _ = v := by simpa using hj
      exact hS.px 5 (by decide)
    · obtain rfl : _ = v := by simpa using hj
      exact hS.py 5 (by decide)
    · obtain rfl : _ = v := by simpa using hj
      exact hS.pz 5 (by decide)
    · obtain rfl : _ = v := by simpa using hj
      exact hS.px 6 (by decide)
    · obtain rfl : _ = v := by simpa using hj
      exact hS.py 6 (by decide)
    · obtain rfl : _ = v := by simpa using hj
      exact hS.pz 6 (by decide)
    · obtain rfl : _ = v := by simpa using hj
      exact hS.px 7 (by decide)
    · obtain rfl : _ = v := by simpa using hj
      exact hS.py 7 (by decide)
    · obtain rfl : _ = v := by simpa using hj
      exact hS.pz 7 (by decide)
  clear hS; have HE : Aside0 (∀ k, extTo P X (k + 1) = if P k = true then extS (extTo P X k) (X k) else extTo P X k) := ⟨fun k => rfl⟩; have HN0 : Aside0 (extTo P X 0 = z2) := ⟨rfl⟩; generalize extTo P X = S at *; go_enter Tryd.func69, Tryd.ntmps69
  go_upto_region 2 with fail
  have e1 : (w.alloc (Obj.cells #[Value.int IntKind.i64 0, Value.int IntKind.i64 0, Value.int IntKind.i64 0] 31)).heap.size = w.heap.size + 1 := by go_simp
  have e2 : ((w.alloc (Obj.cells #[Value.int IntKind.i64 0, Value.int IntKind.i64 0, Value.int IntKind.i64 0] 31)).alloc (Obj.cells #[Value.int IntKind.i64 0, Value.int IntKind.i64 0, Value.int IntKind.i64 0] 31)).heap.size = w.heap.size + 1 + 1 := by go_simp
  have e3 : (((w.alloc (Obj.cells #[Value.int IntKind.i64 0, Value.int IntKind.i64 0, Value.int IntKind.i64 0] 31)).alloc (Obj.cells #[Value.int IntKind.i64 0, Value.int IntKind.i64 0, Value.int IntKind.i64 0] 31)).alloc (Obj.cells #[Value.int IntKind.i64 0, Value.int IntKind.i64 0, Value.int IntKind.i64 0] 31)).heap.size = w.heap.size + 1 + 1 + 1 := by go_simp
  have B0 : Aside0 (((((w.alloc (Obj.cells #[Value.int IntKind.i64 0, Value.int IntKind.i64 0, Value.int IntKind.i64 0] 31)).alloc (Obj.cells #[Value.int IntKind.i64 0, Value.int IntKind.i64 0, Value.int IntKind.i64 0] 31)).alloc (Obj.cells #[Value.int IntKind.i64 0, Value.int IntKind.i64 0, Value.int IntKind.i64 0] 31)).alloc (Obj.cells #[Value.int IntKind.i64 0, Value.int IntKind.i64 0, Value.int IntKind.i64 0] 31)).heap[w.heap.size]? = some (Obj.cells #[Value.int IntKind.i64 0, Value.int IntKind.i64 0, Value.int IntKind.i64 0] 31)) := ⟨blk_alloc (blk_alloc (blk_alloc (blk_new w _) _) _) _⟩; have B1 : Aside0 (((((w.alloc (Obj.cells #[Value.int IntKind.i64 0, Value.int IntKind.i64 0, Value.int IntKind.i64 0] 31)).alloc (Obj.cells #[Value.int IntKind.i64 0, Value.int IntKind.i64 0, Value.int IntKind.i64 0] 31)).alloc (Obj.cells #[Value.int IntKind.i64 0, Value.int IntKind.i64 0, Value.int IntKind.i64 0] 31)).alloc (Obj.cells #[Value.int IntKind.i64 0, Value.int IntKind.i64 0, Value.int IntKind.i64 0] 31)).heap[w.heap.size + 1]? = some (Obj.cells #[Value.int IntKind.i64 0, Value.int IntKind.i64 0, Value.int IntKind.i64 0] 31)) := ⟨(by rw [← e1]; exact blk_alloc (blk_alloc (blk_new _ _) _) _)⟩; have BL : Aside0 (((((w.alloc (Obj.cells #[Value.int IntKind.i64 0, Value.int IntKind.i64 0, Value.int IntKind.i64 0] 31)).alloc (Obj.cells #[Value.int IntKind.i64 0, Value.int IntKind.i64 0, Value.int IntKind.i64 0] 31)).alloc (Obj.cells #[Value.int IntKind.i64 0, Value.int IntKind.i64 0, Value.int IntKind.i64 0] 31)).alloc (Obj.cells #[Value.int IntKind.i64 0, Value.int IntKind.i64 0, Value.int IntKind.i64 0] 31)).heap[w.heap.size + 1 + 1]? = some (Obj.cells #[.int .i64 (S 0).1.f0, .int .i64 (S 0).1.f1, .int .i64 (S 0).1.f2] 31)) := ⟨(by rw [HN0.out, ← e2]; exact blk_alloc (blk_new _ _) _)⟩; have BH : Aside0 (((((w.alloc (Obj.cells #[Value.int IntKind.i64 0, Value.int IntKind.i64 0, Value.int IntKind.i64 0] 31)).alloc (Obj.cells #[Value.int IntKind.i64 0, Value.int IntKind.i64 0, Value.int IntKind.i64 0] 31)).alloc (Obj.cells #[Value.int IntKind.i64 0, Value.int IntKind.i64 0, Value.int IntKind.i64 0] 31)).alloc (Obj.cells #[Value.int IntKind.i64 0, Value.int IntKind.i64 0, Value.int IntKind.i64 0] 31)).heap[w.heap.size + 1 + 1 + 1]? = some (Obj.cells #[.int .i64 (S 0).2.f0, .int .i64 (S 0).2.f1, .int .i64 (S 0).2.f2] 31)) := ⟨(by rw [HN0.out, ← e3]; exact blk_new _ _)⟩; replace HB : Aside0 (Below w.heap.size w ((((w.alloc (Obj.cells #[Value.int IntKind.i64 0, Value.int IntKind.i64 0, Value.int IntKind.i64 0] 31)).alloc (Obj.cells #[Value.int IntKind.i64 0, Value.int IntKind.i64 0, Value.int IntKind.i64 0] 31)).alloc (Obj.cells #[Value.int IntKind.i64 0, Value.int IntKind.i64 0, Value.int IntKind.i64 0] 31)).alloc (Obj.cells #[Value.int IntKind.i64 0, Value.int IntKind.i64 0, Value.int IntKind.i64 0] 31))) := ⟨below_alloc (below_alloc (below_alloc (below_alloc (Below.refl _ _) _) _) _) _⟩; obtain ⟨r1, hr1⟩ : ∃ r, r = w.heap.size + 1 := ⟨_, rfl⟩
  obtain ⟨gl, hgl⟩ : ∃ r, r = w.heap.size + 1 + 1 := ⟨_, rfl⟩
  obtain ⟨gh, hgh⟩ : ∃ r, r = w.heap.size + 1 + 1 + 1 := ⟨_, rfl⟩
  have GG := ak (show (w.heap.size ≤ r1 ∧ w.heap.size ≤ gl ∧ w.heap.size ≤ gh) ∧ (w.heap.size ≠ r1 ∧ w.heap.size ≠ gl ∧ w.heap.size ≠ gh ∧ r1 ≠ gl ∧ r1 ≠ gh ∧ gl ≠ gh) from by omega); clear e1 e2 e3 HN0; generalize ((((w.alloc (Obj.cells #[Value.int IntKind.i64 0, Value.int IntKind.i64 0, Value.int IntKind.i64 0] 31)).alloc (Obj.cells #[Value.int IntKind.i64 0, Value.int IntKind.i64 0, Value.int IntKind.i64 0] 31)).alloc (Obj.cells #[Value.int IntKind.i64 0, Value.int IntKind.i64 0, Value.int IntKind.i64 0] 31)).alloc (Obj.cells #[Value.int IntKind.i64 0, Value.int IntKind.i64 0, Value.int IntKind.i64 0] 31)) = W4 at B0 B1 BL BH HB ⊢; rw [← hgh] at BH ⊢; rw [← hgl] at BL ⊢; rw [← hr1] at B1 ⊢; clear hr1 hgl hgh; have hR4 : W4.rangeAt g 8 [Value.int IntKind.i64 (X 0).f0, Value.int IntKind.i64 (X 0).f1, Value.int IntKind.i64 (X 0).f2, Value.int IntKind.i64 (X 1).f0, Value.int IntKind.i64 (X 1).f1, Value.int IntKind.i64 (X 1).f2, Value.int IntKind.i64 (X 2).f0, Value.int IntKind.i64 (X 2).f1, Value.int IntKind.i64 (X 2).f2, Value.int IntKind.i64 (X 3).f0, Value.int IntKind.i64 (X 3).f1, Value.int IntKind.i64 (X 3).f2, Value.int IntKind.i64 (X 4).f0, Value.int IntKind.i64 (X 4).f1, Value.int IntKind.i64 (X 4).f2, Value.int IntKind.i64 (X 5).f0, Value.int IntKind.i64 (X 5).f1, Value.int IntKind.i64 (X 5).f2, Value.int IntKind.i64 (X 6).f0, Value.int IntKind.i64 (X 6).f1, Value.int IntKind.i64 (X 6).f2, Value.int IntKind.i64 (X 7).f0, Value.int IntKind.i64 (X 7).f1, Value.int IntKind.i64 (X 7).f2] := fun j v hj => Sine.keepc (hR j v hj) HB.out
  clear hR
  have HI : Aside0 (∀ s : Nat, s < 8 → ∀ W : World, (Instr.index 55 (Value.agg #[Value.int IntKind.i64 (X 0).f0, Value.int IntKind.i64 (X 0).f1, Value.int IntKind.i64 (X 0).f2, Value.int IntKind.i64 (X 1).f0, Value.int IntKind.i64 (X 1).f1, Value.int IntKind.i64 (X 1).f2, Value.int IntKind.i64 (X 2).f0, Value.int IntKind.i64 (X 2).f1, Value.int IntKind.i64 (X 2).f2, Value.int IntKind.i64 (X 3).f0, Value.int IntKind.i64 (X 3).f1, Value.int IntKind.i64 (X 3).f2, Value.int IntKind.i64 (X 4).f0, Value.int IntKind.i64 (X 4).f1, Value.int IntKind.i64 (X 4).f2, Value.int IntKind.i64 (X 5).f0, Value.int IntKind.i64 (X 5).f1, Value.int IntKind.i64 (X 5).f2, Value.int IntKind.i64 (X 6).f0, Value.int IntKind.i64 (X 6).f1, Value.int IntKind.i64 (X 6).f2, Value.int IntKind.i64 (X 7).f0, Value.int IntKind.i64 (X 7).f1, Value.int IntKind.i64 (X 7).f2]) (.int .i64 (s : Int))).run Tryd.prog W = .ok (.agg #[.int .i64 (X s).f0, .int .i64 (X s).f1, .int .i64 (X s).f2]) W) := ⟨fun s hs W => by
    rcases (show s = 0 ∨ s = 1 ∨ s = 2 ∨ s = 3 ∨ s = 4 ∨ s = 5 ∨ s = 6 ∨ s = 7 by omega) with rfl | rfl | rfl | rfl | rfl | rfl | rfl | rfl
    all_goals exact run_idxS W _ _ _ rfl (by decide) _ (by rfl)⟩
  go_upto_region 3 with ((with_reducible refine gate_dst (N := 11) rfl ?_); refine wpList_load_mid rfl 55 (.tmp 10) rfl g 8 rfl [Value.int IntKind.i64 (X 0).f0, Value.int IntKind.i64 (X 0).f1, Value.int IntKind.i64 (X 0).f2, Value.int IntKind.i64 (X 1).f0, Value.int IntKind.i64 (X 1).f1, Value.int IntKind.i64 (X 1).f2, Value.int IntKind.i64 (X 2).f0, Value.int IntKind.i64 (X 2).f1, Value.int IntKind.i64 (X 2).f2, Value.int IntKind.i64 (X 3).f0, Value.int IntKind.i64 (X 3).f1, Value.int IntKind.i64 (X 3).f2, Value.int IntKind.i64 (X 4).f0, Value.int IntKind.i64 (X 4).f1, Value.int IntKind.i64 (X 4).f2, Value.int IntKind.i64 (X 5).f0, Value.int IntKind.i64 (X 5).f1, Value.int IntKind.i64 (X 5).f2, Value.int IntKind.i64 (X 6).f0, Value.int IntKind.i64 (X 6).f1, Value.int IntKind.i64 (X 6).f2, Value.int IntKind.i64 (X 7).f0, Value.int IntKind.i64 (X 7).f1, Value.int IntKind.i64 (X 7).f2] _ hR4 Tryd.underlying55 rfl rfl ?_)
  generalize (Value.agg #[Value.int IntKind.i64 (X 0).f0, Value.int IntKind.i64 (X 0).f1, Value.int IntKind.i64 (X 0).f2, Value.int IntKind.i64 (X 1).f0, Value.int IntKind.i64 (X 1).f1, Value.int IntKind.i64 (X 1).f2, Value.int IntKind.i64 (X 2).f0, Value.int IntKind.i64 (X 2).f1, Value.int IntKind.i64 (X 2).f2, Value.int IntKind.i64 (X 3).f0, Value.int IntKind.i64 (X 3).f1, Value.int IntKind.i64 (X 3).f2, Value.int IntKind.i64 (X 4).f0, Value.int IntKind.i64 (X 4).f1, Value.int IntKind.i64 (X 4).f2, Value.int IntKind.i64 (X 5).f0, Value.int IntKind.i64 (X 5).f1, Value.int IntKind.i64 (X 5).f2, Value.int IntKind.i64 (X 6).f0, Value.int IntKind.i64 (X 6).f1, Value.int IntKind.i64 (X 6).f2, Value.int IntKind.i64 (X 7).f0, Value.int IntKind.i64 (X 7).f1, Value.int IntKind.i64 (X 7).f2]) = V at HI ⊢; clear hR4
  go_loopw [12] (fun v12 w' => ∃ (j : Nat), j ≤ 8 ∧ v12 = .int .i64 j ∧ Aside0 (w'.heap[w.heap.size]? = some (Obj.cells #[Value.int IntKind.i64 0, Value.int IntKind.i64 0, Value.int IntKind.i64 0] 31)) ∧ Aside0 (w'.heap[r1]? = some (Obj.cells #[Value.int IntKind.i64 0, Value.int IntKind.i64 0, Value.int IntKind.i64 0] 31)) ∧ Aside0 (w'.heap[gl]? = some (Obj.cells #[.int .i64 (S j).1.f0, .int .i64 (S j).1.f1, .int .i64 (S j).1.f2] 31)) ∧ Aside0 (w'.heap[gh]? = some (Obj.cells #[.int .i64 (S j).2.f0, .int .i64 (S j).2.f1, .int .i64 (S j).2.f2] 31)) ∧ Aside0 (Below w.heap.size w w')) (fun v12 _ => 8 - (intOf v12).toNat)
  case atStart => exact ⟨0, by omega, rfl, B0, B1, BL, BH, HB⟩
  case round =>
    obtain ⟨j, hj, rfl, C0, C1, CL, CH, HB2⟩ := hrel; clear B0 B1 BL BH HB; have gg := GG.out; by_cases hlt : j < 8
    · have HEj := ak (HE.out j)
      have HIj := ak (HI.out j hlt); have k0 : (0 : Int) ≤ (j : Int) := by omega
      have k1 : (j : Int) < 8 := by omega
      have k2 : (j : Int) < ((8 : Nat) : Int) := by omega
      go_wp2; rw [HIj.out]
      go_upto_region 5 with fail
      have g0 : w.heap.size < wr.heap.size := blk_lt C0.out; have g1 : r1 < wr.heap.size := blk_lt C1.out; have g2 : gl < wr.heap.size := blk_lt CL.out; have g3 : gh < wr.heap.size := blk_lt CH.out; have nC0 : Aside0 ((wr.alloc (Obj.cells #[.int .i64 (X j).f0, .int .i64 (X j).f1, .int .i64 (X j).f2] 31)).heap[w.heap.size]? = some (Obj.cells #[Value.int IntKind.i64 0, Value.int IntKind.i64 0, Value.int IntKind.i64 0] 31)) := ⟨blk_alloc C0.out _⟩; have nC1 : Aside0 ((wr.alloc (Obj.cells #[.int .i64 (X j).f0, .int .i64 (X j).f1, .int .i64 (X j).f2] 31)).heap[r1]? = some (Obj.cells #[Value.int IntKind.i64 0, Value.int IntKind.i64 0, Value.int IntKind.i64 0] 31)) := ⟨blk_alloc C1.out _⟩; have nCL : Aside0 ((wr.alloc (Obj.cells #[.int .i64 (X j).f0, .int .i64 (X j).f1, .int .i64 (X j).f2] 31)).heap[gl]? = some (Obj.cells #[.int .i64 (S j).1.f0, .int .i64 (S j).1.f1, .int .i64 (S j).1.f2] 31)) := ⟨blk_alloc CL.out _⟩; have nCH : Aside0 ((wr.alloc (Obj.cells #[.int .i64 (X j).f0, .int .i64 (X j).f1, .int .i64 (X j).f2] 31)).heap[gh]? = some (Obj.cells #[.int .i64 (S j).2.f0, .int .i64 (S j).2.f1, .int .i64 (S j).2.f2] 31)) := ⟨blk_alloc CH.out _⟩; have nP : Aside0 ((wr.alloc (Obj.cells #[.int .i64 (X j).f0, .int .i64 (X j).f1, .int .i64 (X j).f2] 31)).heap[wr.heap.size]? = some (Obj.cells #[.int .i64 (X j).f0, .int .i64 (X j).f1, .int .i64 (X j).f2] 31)) := ⟨blk_new wr _⟩; have nB : Aside0 (Below w.heap.size w (wr.alloc (Obj.cells #[.int .i64 (X j).f0, .int .i64 (X j).f1, .int .i64 (X j).f2] 31))) := ⟨below_alloc HB2.out _⟩; clear C0 C1 CL CH HB2; generalize (wr.alloc (Obj.cells #[.int .i64 (X j).f0, .int .i64 (X j).f1, .int .i64 (X j).f2] 31)) = W5 at nC0 nC1 nCL nCH nP nB ⊢; generalize wr.heap.size = gp at *; have pj := Sine.keepc (HP.out j hlt) nB.out; by_cases hP : P j = true; rotate_left
      · rw [if_neg hP] at HEj
        rw [Bool.eq_false_iff.mpr hP] at pj; go_wp2; exact ⟨⟨j + 1, by omega, by go_num, nC0, nC1, (by rw [HEj.out]; exact nCL), (by rw [HEj.out]; exact nCH), nB⟩, qz126⟩
      · rw [if_pos hP] at HEj
        rw [hP] at pj; have a0 := (blk_cell nCL.out 0).trans rfl; have a1 := (blk_cell nCL.out 1).trans rfl; have a2 := (blk_cell nCL.out 2).trans rfl; have c0 := (blk_cell nP.out 0).trans rfl; have c1 := (blk_cell nP.out 1).trans rfl; have c2 := (blk_cell nP.out 2).trans rfl; have f0 := blk_frozen nCL.out 0; have f1 := blk_frozen nCL.out 1; have f2 := blk_frozen nCL.out 2
        go_upto_region 7 with fail
        have mnC0 : Aside0 ((((W5.setCell ⟨gl, 0, none⟩ (.int .i64 (lo2 (S j).1.f0 (X j).f0))).setCell ⟨gl, 1, none⟩ (.int .i64 (lo2 (S j).1.f1 (X j).f1))).setCell ⟨gl, 2, none⟩ (.int .i64 (lo2 (S j).1.f2 (X j).f2))).heap[w.heap.size]? = some (Obj.cells #[Value.int IntKind.i64 0, Value.int IntKind.i64 0, Value.int IntKind.i64 0] 31)) := ⟨blk_far (blk_far (blk_far nC0.out qz53 _) qz53 _) qz53 _⟩; have mnC1 : Aside0 ((((W5.setCell ⟨gl, 0, none⟩ (.int .i64 (lo2 (S j).1.f0 (X j).f0))).setCell ⟨gl, 1, none⟩ (.int .i64 (lo2 (S j).1.f1 (X j).f1))).setCell ⟨gl, 2, none⟩ (.int .i64 (lo2 (S j).1.f2 (X j).f2))).heap[r1]? = some (Obj.cells #[Value.int IntKind.i64 0, Value.int IntKind.i64 0, Value.int IntKind.i64 0] 31)) := ⟨blk_far (blk_far (blk_far nC1.out qz53 _) qz53 _) qz53 _⟩; have mnCH : Aside0 ((((W5.setCell ⟨gl, 0, none⟩ (.int .i64 (lo2 (S j).1.f0 (X j).f0))).setCell ⟨gl, 1, none⟩ (.int .i64 (lo2 (S j).1.f1 (X j).f1))).setCell ⟨gl, 2, none⟩ (.int .i64 (lo2 (S j).1.f2 (X j).f2))).heap[gh]? = some (Obj.cells #[.int .i64 (S j).2.f0, .int .i64 (S j).2.f1, .int .i64 (S j).2.f2] 31)) := ⟨blk_far (blk_far (blk_far nCH.out qz53 _) qz53 _) qz53 _⟩; have mnP : Aside0 ((((W5.setCell ⟨gl, 0, none⟩ (.int .i64 (lo2 (S j).1.f0 (X j).f0))).setCell ⟨gl, 1, none⟩ (.int .i64 (lo2 (S j).1.f1 (X j).f1))).setCell ⟨gl, 2, none⟩ (.int .i64 (lo2 (S j).1.f2 (X j).f2))).heap[gp]? = some (Obj.cells #[.int .i64 (X j).f0, .int .i64 (X j).f1, .int .i64 (X j).f2] 31)) := ⟨blk_far (blk_far (blk_far nP.out qz53 _) qz53 _) qz53 _⟩; have mnCL : Aside0 ((((W5.setCell ⟨gl, 0, none⟩ (.int .i64 (lo2 (S j).1.f0 (X j).f0))).setCell ⟨gl, 1, none⟩ (.int .i64 (lo2 (S j).1.f1 (X j).f1))).setCell ⟨gl, 2, none⟩ (.int .i64 (lo2 (S j).1.f2 (X j).f2))).heap[gl]? = some (Obj.cells #[.int .i64 (lo2 (S j).1.f0 (X j).f0), .int .i64 (lo2 (S j).1.f1 (X j).f1), .int .i64 (lo2 (S j).1.f2 (X j).f2)] 31)) := ⟨blk_put (blk_put (blk_put nCL.out 0 _ rfl) 1 _ rfl) 2 _ rfl⟩; have mnB : Aside0 (Below w.heap.size w (((W5.setCell ⟨gl, 0, none⟩ (.int .i64 (lo2 (S j).1.f0 (X j).f0))).setCell ⟨gl, 1, none⟩ (.int .i64 (lo2 (S j).1.f1 (X j).f1))).setCell ⟨gl, 2, none⟩ (.int .i64 (lo2 (S j).1.f2 (X j).f2)))) := ⟨below_set (below_set (below_set nB.out (by omega)) (by omega)) (by omega)⟩; clear nC0 nC1 nCH nP nCL nB a0 a1 a2 c0 c1 c2 f0 f1 f2; generalize (((W5.setCell ⟨gl, 0, none⟩ (.int .i64 (lo2 (S j).1.f0 (X j).f0))).setCell ⟨gl, 1, none⟩ (.int .i64 (lo2 (S j).1.f1 (X j).f1))).setCell ⟨gl, 2, none⟩ (.int .i64 (lo2 (S j).1.f2 (X j).f2))) = W6 at mnC0 mnC1 mnCH mnP mnCL mnB ⊢; have a0 := (blk_cell mnCH.out 0).trans rfl; have a1 := (blk_cell mnCH.out 1).trans rfl; have a2 := (blk_cell mnCH.out 2).trans rfl; have c0 := (blk_cell mnP.out 0).trans rfl; have c1 := (blk_cell mnP.out 1).trans rfl; have c2 := (blk_cell mnP.out 2).trans rfl; have f0 := blk_frozen mnCH.out 0; have f1 := blk_frozen mnCH.out 1; have f2 := blk_frozen mnCH.out 2; go_wp2; exact ⟨⟨j + 1, by omega, by go_num, ⟨blk_far (blk_far (blk_far mnC0.out qz53 _) qz53 _) qz53 _⟩, ⟨blk_far (blk_far (blk_far mnC1.out qz53 _) qz53 _) qz53 _⟩, (by rw [HEj.out]; exact ⟨blk_far (blk_far (blk_far mnCL.out qz53 _) qz53 _) qz53 _⟩), (by rw [HEj.out]; exact ⟨blk_put (blk_put (blk_put mnCH.out 0 _ rfl) 1 _ rfl) 2 _ rfl⟩), ⟨below_set (below_set (below_set mnB.out (by omega)) (by omega)) (by omega)⟩⟩, qz126⟩
    · obtain rfl : j = 8 := by omega
      have a0 := (blk_cell CL.out 0).trans rfl; have a1 := (blk_cell CL.out 1).trans rfl; have a2 := (blk_cell CL.out 2).trans rfl; have c0 := (blk_cell CH.out 0).trans rfl; have c1 := (blk_cell CH.out 1).trans rfl; have c2 := (blk_cell CH.out 2).trans rfl; have d0 := (blk_cell C0.out 0).trans rfl; have fd0 := blk_frozen C0.out 0; have d1 := (blk_cell C0.out 1).trans rfl; have fd1 := blk_frozen C0.out 1; have d2 := (blk_cell C0.out 2).trans rfl; have fd2 := blk_frozen C0.out 2; have e0 := (blk_cell C1.out 0).trans rfl; have fe0 := blk_frozen C1.out 0; have e1 := (blk_cell C1.out 1).trans rfl; have fe1 := blk_frozen C1.out 1; have e2 := (blk_cell C1.out 2).trans rfl; have fe2 := blk_frozen C1.out 2; have ne0 : w.heap.size ≠ r1 := by omega
      have ne1 : r1 ≠ w.heap.size := by omega
      have ne2 : w.heap.size ≠ gl := by omega
      have ne3 : w.heap.size ≠ gh := by omega
      have ne4 : r1 ≠ gl := by omega
      have ne5 : r1 ≠ gh := by omega
      clear hlt hj
      go_upto_region 9 with fail
      go_region
      have nC0 : Aside0 ((((((((wr.setCell ⟨w.heap.size, 0, none⟩ (.int .i64 (S 8).1.f0)).setCell ⟨w.heap.size, 1, none⟩ (.int .i64 (S 8).1.f1)).setCell ⟨w.heap.size, 2, none⟩ (.int .i64 (S 8).1.f2)).setCell ⟨r1, 0, none⟩ (.int .i64 (S 8).2.f0)).setCell ⟨r1, 1, none⟩ (.int .i64 (S 8).2.f1)).setCell ⟨r1, 2, none⟩ (.int .i64 (S 8).2.f2))).drew.heap[w.heap.size]? = some (Obj.cells #[.int .i64 (S 8).1.f0, .int .i64 (S 8).1.f1, .int .i64 (S 8).1.f2] 31)) := ⟨blk_drew (blk_far (blk_far (blk_far (blk_put (blk_put (blk_put C0.out 0 _ rfl) 1 _ rfl) 2 _ rfl) qz53 _) qz53 _) qz53 _)⟩; have nC1 : Aside0 ((((((((wr.setCell ⟨w.heap.size, 0, none⟩ (.int .i64 (S 8).1.f0)).setCell ⟨w.heap.size, 1, none⟩ (.int .i64 (S 8).1.f1)).setCell ⟨w.heap.size, 2, none⟩ (.int .i64 (S 8).1.f2)).setCell ⟨r1, 0, none⟩ (.int .i64 (S 8).2.f0)).setCell ⟨r1, 1, none⟩ (.int .i64 (S 8).2.f1)).setCell ⟨r1, 2, none⟩ (.int .i64 (S 8).2.f2))).drew.heap[r1]? = some (Obj.cells #[.int .i64 (S 8).2.f0, .int .i64 (S 8).2.f1, .int .i64 (S 8).2.f2] 31)) := ⟨blk_drew (blk_put (blk_put (blk_put (blk_far (blk_far (blk_far C1.out qz53 _) qz53 _) qz53 _) 0 _ rfl) 1 _ rfl) 2 _ rfl)⟩; have nB : Aside0 (Below w.heap.size w ((((((((wr.setCell ⟨w.heap.size, 0, none⟩ (.int .i64 (S 8).1.f0)).setCell ⟨w.heap.size, 1, none⟩ (.int .i64 (S 8).1.f1)).setCell ⟨w.heap.size, 2, none⟩ (.int .i64 (S 8).1.f2)).setCell ⟨r1, 0, none⟩ (.int .i64 (S 8).2.f0)).setCell ⟨r1, 1, none⟩ (.int .i64 (S 8).2.f1)).setCell ⟨r1, 2, none⟩ (.int .i64 (S 8).2.f2))).drew)) := ⟨below_drew1 (below_set (below_set (below_set (below_set (below_set (below_set HB2.out (by omega)) (by omega)) (by omega)) (by omega)) (by omega)) (by omega))⟩; generalize (((((((wr.setCell ⟨w.heap.size, 0, none⟩ (.int .i64 (S 8).1.f0)).setCell ⟨w.heap.size, 1, none⟩ (.int .i64 (S 8).1.f1)).setCell ⟨w.heap.size, 2, none⟩ (.int .i64 (S 8).1.f2)).setCell ⟨r1, 0, none⟩ (.int .i64 (S 8).2.f0)).setCell ⟨r1, 1, none⟩ (.int .i64 (S 8).2.f1)).setCell ⟨r1, 2, none⟩ (.int .i64 (S 8).2.f2))).drew = W8 at nC0 nC1 nB ⊢; have k0 : W8.cell? ⟨w.heap.size, 0, none⟩ = some (.int .i64 (S 8).1.f0) := (blk_cell nC0.out 0).trans rfl; have l0 : W8.cell? ⟨r1, 0, none⟩ = some (.int .i64 (S 8).2.f0) := (blk_cell nC1.out 0).trans rfl; have k1 : W8.cell? ⟨w.heap.size, 1, none⟩ = some (.int .i64 (S 8).1.f1) := (blk_cell nC0.out 1).trans rfl; have l1 : W8.cell? ⟨r1, 1, none⟩ = some (.int .i64 (S 8).2.f1) := (blk_cell nC1.out 1).trans rfl; have k2 : W8.cell? ⟨w.heap.size, 2, none⟩ = some (.int .i64 (S 8).1.f2) := (blk_cell nC0.out 2).trans rfl; have l2 : W8.cell? ⟨r1, 2, none⟩ = some (.int .i64 (S 8).2.f2) := (blk_cell nC1.out 2).trans rfl; go_wp2; exact bodyPost_ret (v := .tuple #[.agg #[.int .i64 (S 8).1.f0, .int .i64 (S 8).1.f1, .int .i64 (S 8).1.f2], .agg #[.int .i64 (S 8).2.f0, .int .i64 (S 8).2.f1, .int .i64 (S 8).2.f2]]) (by simp [results, Tryd.results69, go_sem, k0, k1, k2, l0, l1, l2]) rfl ⟨rfl, nB.out⟩
end Go.Proofs.YtcafgpincnkcdaaDoor.Net
namespace Go.Proofs.YtcafgpincnkcdaaDoor.A
open Go.RowKit YtcafgpincnkcdaaDoorW.PrintWords YtcafgpincnkcdaaDoorW.PrintLast YtcafgpincnkcdaaDoorW.PrintMore
open Net Plain
def impl_DeepestStation.f (l0 : List (S49)) : Option (Int × Bool) := if l0.length ≤ 140737488351232 then some (deepestM l0) else none
theorem impl_DeepestStation.calls (A0 : Option Addr) (c : Nat) (ls : List (S49)) (r1 : Int) (r2 : Bool) (w : World) (hr0 : Kd.C k49 w A0 ls.length ls) (hc : ls.length ≤ c) (h : impl_DeepestStation.f ls = some (r1, r2)) (hL : Sine.Laid w) :
    Calls Tryd.prog 18 #[.slice A0 ls.length c] w fun e w' => e = .returned (.tuple #[.int .i64 r1, .bool r2]) ∧ Below w.heap.size w w' := by
  unfold impl_DeepestStation.f at h; by_cases hb : ls.length ≤ 140737488351232
  · rw [if_pos hb] at h
    obtain ⟨K, hK⟩ := areLegs_ev ls hb; have HA := ak (hK K (Nat.le_refl _)); have HR := ak hr0; have HL := ak hL; have HB := ak (Below.refl w.heap.size w); clear hK hr0 hL; unfold deepestM at h; by_cases hv : legsB ls = true
    · rw [if_pos hv] at h
      obtain ⟨rfl, rfl⟩ := Prod.mk.inj (Option.some.inj h); rw [hv] at HA; have hv' := legsB_iff.mp hv; have HG := ak hv'.1; have hn := hv'.2; obtain ⟨pl, hpl⟩ : ∃ pl, pl = plL (RR ls) := ⟨_, rfl⟩
      have HPL := ak (show pl.length ≤ 8 from by rw [hpl]; exact plL_small HG.out)
      have HMem : Aside0 (∀ j : Nat, (hj : j < pl.length) → ∃ k : Nat, pl[j] = (k : Int) ∧ k < 8) := ⟨fun j hj => by
        have hm : pl[j] ∈ plL (RR ls) := by rw [← hpl]; exact List.getElem_mem hj
        have h8 := Grow.in_range (ends ls) (RR_ok HG.out).1 (Good.range HG.out) _ ((mem_plL _ _).mp hm); obtain ⟨k, hk⟩ := Int.eq_ofNat_of_zero_le h8.1
        exact ⟨k, hk, by omega⟩⟩
      have HPE := ak (show selTo (Pq (RR ls)) 8 = pl from by rw [hpl]; exact plL_sel HG.out); have HD : Aside0 (deepM ls = deepL (Xq ls (RR ls)) (pl.drop 0) ((0 : Nat) : Int)) := ⟨(by rw [hpl]; rfl)⟩; clear h hv hv' hpl; generalize deepM ls = r at *; go_enter Tryd.func18, Tryd.ntmps18
      go_wp2_with (first
        | (go_at_call 62; (with_reducible refine (impl_areLegs.calls K _ _ ls true _ ?s1 ?s2 HA.out).mono ?_); (case s1 => exact Kd.C_below HR.out qz11); (case s2 => exact hc); rintro e w' ⟨rfl, hw⟩; replace HB := ak (below_step (show Below w.heap.size w _ from by (repeat (first | exact HB.out | exact Below.refl _ _ | apply below_alloc | apply pw_below_drewN | apply below_drew1)); done) hw); clear hw)
        | (go_at_call 63; (with_reducible refine (place _ c ls _ ?s1 ?s2 hc hn HG.out (RR ls) rfl).mono ?_); (case s1 => exact HL.out.keep qz11); (case s2 => exact Kd.C_below HR.out qz11); rintro e w' ⟨g, T, cl, rfl, hst, ho, hw⟩; have HO : Aside0 (Kd.R (Kd.int .i64) 3 w' w.heap.size (fun k => k ≠ g ∧ k ≠ T) cl (closeL ls)) := ⟨Kd.R_lower ho (below_size (show Below w.heap.size w _ from by (repeat (first | exact HB.out | exact Below.refl _ _ | apply below_alloc | apply pw_below_drewN | apply below_drew1)); done))⟩; replace HB := ak (below_step (show Below w.heap.size w _ from by (repeat (first | exact HB.out | exact Below.refl _ _ | apply below_alloc | apply pw_below_drewN | apply below_drew1)); done) hw); have HS := ak hst; clear hst ho hw; obtain ⟨cA, cC, ecl⟩ := Kd.R_slice HO.out; subst ecl)
        | (go_at_call 65; have hq := stationsW _ (HS.out.keep qz143); (with_reducible refine hq.mono ?_); clear hq; rintro e w3 ⟨v, rfl, hv3, hw⟩; have hsz := below_size HB.out; rw [HPE.out] at hv3; have HP := ak (show Kd.R (Kd.int .i64) 3 w3 w.heap.size (fun _ => True) v pl from Kd.R_mono (Kd.R_lower hv3 hsz) (fun k hk => trivial)); replace HB := ak (below_step (show Below w.heap.size w _ from by (repeat (first | exact HB.out | exact Below.refl _ _ | apply below_alloc | apply pw_below_drewN | apply below_drew1)); done) hw); replace HS := ak (HS.out.keep hw); clear hv3 hw; obtain ⟨pA, pC, ep⟩ := Kd.R_slice HP.out; subst ep))
      go_loopw [5, 16] (fun v5 v16 w' => ∃ (j b : Nat), j ≤ pl.length ∧ b < 8 ∧ v5 = .int .i64 (b : Int) ∧ v16 = .int .i64 j ∧ Aside0 (r = deepL (Xq ls (RR ls)) (pl.drop j) (b : Int)) ∧ Aside0 (Kd.R (Kd.int .i64) 3 w' w.heap.size (fun _ => True) (.slice pA pl.length pC) pl) ∧ Aside0 (St ls.length T g (Pq (RR ls)) (Xq ls (RR ls)) (Bq (RR ls)) (.slice cA (closeL ls).length cC) w') ∧ Aside0 (Below w.heap.size w w')) (fun _ v16 _ => pl.length - (intOf v16).toNat)
      case atStart => exact ⟨0, 0, Nat.zero_le _, by omega, rfl, rfl, HD, HP, HS, HB⟩
      case round =>
        obtain ⟨j, b, hj, hb8, rfl, rfl, HD2, HC, HS2, HB2⟩ := hrel; clear HP HB HS HD; have HO := HC; have HB := HB2; have HS := HS2; have HD := HD2; clear HC HB2 HS2 HD2; have hpl := HPL.out; by_cases hlt : j < pl.length
        · obtain ⟨ad, e1, h1⟩ := Kd.at_int (Kd.R_reads' HO.out).2.2 (j : Int) (by omega) (by omega)
          subst e1; rw [rd_at _ j hlt, Int.toNat_natCast] at h1; obtain ⟨a, hk1, hk2⟩ := HMem.out j hlt; have HE : Aside0 (r = deepL (Xq ls (RR ls)) (pl.drop (j + 1)) (if (Xq ls (RR ls) a).f2 < (Xq ls (RR ls) b).f2 then (a : Int) else (b : Int))) := ⟨(by rw [HD.out, List.drop_eq_getElem_cons hlt, hk1]; rfl)⟩; rw [hk1] at h1; clear hk1 HD; have p2 := HS.out.pz a hk2; have q2 := HS.out.pz b hb8; have ka0 : (0 : Int) ≤ (a : Int) := by omega
          have ka1 : (a : Int) < 8 := by omega
          have ka2 : (a : Int) < ((8 : Nat) : Int) := by omega
          have kb0 : (0 : Int) ≤ (b : Int) := by omega
          have kb1 : (b : Int) < 8 := by omega
          have kb2 : (b : Int) < ((8 : Nat) : Int) := by omega
          by_cases hq : (Xq ls (RR ls) a).f2 < (Xq ls (RR ls) b).f2
          · have hqb : decide ((Xq ls (RR ls) a).f2 < (Xq ls (RR ls) b).f2) = true := decide_eq_true hq
            rw [if_pos hq] at HE; go_wp2
            go_quiet (fail)
            go_wp2; exact ⟨⟨j + 1, a, by omega, by omega, rfl, by go_num, HE, ⟨Kd.R_drewN HO.out _⟩, ⟨HS.out.keep (pw_below_drewN (Below.refl _ _) _)⟩, ⟨pw_below_drewN HB.out _⟩⟩, qz126⟩
          · have hqb : decide ((Xq ls (RR ls) a).f2 < (Xq ls (RR ls) b).f2) = false := decide_eq_false hq
            rw [if_neg hq] at HE; go_wp2
            go_quiet (fail)
            go_wp2; exact ⟨⟨j + 1, b, by omega, by omega, rfl, by go_num, HE, ⟨Kd.R_drewN HO.out _⟩, ⟨HS.out.keep (pw_below_drewN (Below.refl _ _) _)⟩, ⟨pw_below_drewN HB.out _⟩⟩, qz126⟩
        · obtain rfl : j = pl.length := by omega
          have hr := HD.out; rw [List.drop_length] at hr; go_wp2
          go_ret2
          exact ⟨(by rw [hr]; rfl), HB.out⟩
    · rw [if_neg hv] at h
      obtain ⟨rfl, rfl⟩ := Prod.mk.inj (Option.some.inj h); rw [Bool.eq_false_iff.mpr hv] at HA; clear h hv; go_enter Tryd.func18, Tryd.ntmps18; go_wp2_with (go_at_call 62; (with_reducible refine (impl_areLegs.calls K _ _ ls false _ ?s1 ?s2 HA.out).mono ?_); (case s1 => exact Kd.C_below HR.out qz11); (case s2 => exact hc); rintro e w' ⟨rfl, hw⟩; replace HB := ak (below_step (show Below w.heap.size w _ from by (repeat (first | exact HB.out | exact Below.refl _ _ | apply below_alloc | apply pw_below_drewN | apply below_drew1)); done) hw); clear hw)
      go_ret2
      exact ⟨rfl, qz11⟩
  · rw [if_neg hb] at h
    cases h
def impl_ExtentOf.f (l0 : List (S49)) : Option (Int × Int × Int × Int × Int × Int × Bool) := if l0.length ≤ 140737488351232 then some ((extentM l0).1.1.f0, (extentM l0).1.1.f1, (extentM l0).1.1.f2, (extentM l0).1.2.f0, (extentM l0).1.2.f1, (extentM l0).1.2.f2, (extentM l0).2) else none
theorem impl_ExtentOf.calls (A0 : Option Addr) (c : Nat) (ls : List (S49)) (r1 : Int) (r2 : Int) (r3 : Int) (r4 : Int) (r5 : Int) (r6 : Int) (r7 : Bool) (w : World) (hr0 : Kd.C k49 w A0 ls.length ls) (hc : ls.length ≤ c) (h : impl_ExtentOf.f ls = some (r1, r2, r3, r4, r5, r6, r7)) (hL : Sine.Laid w) :
    Calls Tryd.prog 16 #[.slice A0 ls.length c] w fun e w' => e = .returned (.tuple #[.agg #[.int .i64 r1, .int .i64 r2, .int .i64 r3], .agg #[.int .i64 r4, .int .i64 r5, .int .i64 r6], .bool r7]) ∧ Below w.heap.size w w' := by
  unfold impl_ExtentOf.f at h; by_cases hb : ls.length ≤ 140737488351232
  · rw [if_pos hb] at h
    obtain ⟨K, hK⟩ := areLegs_ev ls hb; have HA := ak (hK K (Nat.le_refl _)); have HR := ak hr0; have HL := ak hL; have HB := ak (Below.refl w.heap.size w); clear hK hr0 hL; unfold extentM at h; by_cases hv : legsB ls = true
    · rw [if_pos hv] at h
      rw [hv] at HA; have hv' := legsB_iff.mp hv; have HG := ak hv'.1; have hn := hv'.2; have HM := ak (extM_to HG.out); clear hv hv'; generalize extM ls = e at *; obtain ⟨⟨a0, a1, a2⟩, ⟨b0, b1, b2⟩⟩ := e; simp only [Option.some.injEq, Prod.mk.injEq] at h; obtain ⟨rfl, rfl, rfl, rfl, rfl, rfl, rfl⟩ := h; go_enter Tryd.func16, Tryd.ntmps16
      go_upto_region 1 with fail
      have e1 : (w.alloc (Obj.cells #[Value.int IntKind.i64 0, Value.int IntKind.i64 0, Value.int IntKind.i64 0] 31)).heap.size = w.heap.size + 1 := by go_simp
      have B0 : Aside0 (((w.alloc (Obj.cells #[Value.int IntKind.i64 0, Value.int IntKind.i64 0, Value.int IntKind.i64 0] 31)).alloc (Obj.cells #[Value.int IntKind.i64 0, Value.int IntKind.i64 0, Value.int IntKind.i64 0] 31)).heap[w.heap.size]? = some (Obj.cells #[Value.int IntKind.i64 0, Value.int IntKind.i64 0, Value.int IntKind.i64 0] 31)) := ⟨blk_alloc (blk_new w _) _⟩; have B1 : Aside0 (((w.alloc (Obj.cells #[Value.int IntKind.i64 0, Value.int IntKind.i64 0, Value.int IntKind.i64 0] 31)).alloc (Obj.cells #[Value.int IntKind.i64 0, Value.int IntKind.i64 0, Value.int IntKind.i64 0] 31)).heap[w.heap.size + 1]? = some (Obj.cells #[Value.int IntKind.i64 0, Value.int IntKind.i64 0, Value.int IntKind.i64 0] 31)) := ⟨(by rw [← e1]; exact blk_new _ _)⟩; replace HB : Aside0 (Below w.heap.size w ((w.alloc (Obj.cells #[Value.int IntKind.i64 0, Value.int IntKind.i64 0, Value.int IntKind.i64 0] 31)).alloc (Obj.cells #[Value.int IntKind.i64 0, Value.int IntKind.i64 0, Value.int IntKind.i64 0] 31))) := ⟨below_alloc (below_alloc (Below.refl _ _) _) _⟩; obtain ⟨q1, hq1⟩ : ∃ r, r = w.heap.size + 1 := ⟨_, rfl⟩
      have GG := ak (show w.heap.size < q1 from by omega); clear e1; generalize ((w.alloc (Obj.cells #[Value.int IntKind.i64 0, Value.int IntKind.i64 0, Value.int IntKind.i64 0] 31)).alloc (Obj.cells #[Value.int IntKind.i64 0, Value.int IntKind.i64 0, Value.int IntKind.i64 0] 31)) = W2 at B0 B1 HB ⊢; rw [← hq1] at B1 ⊢; clear hq1
      go_upto_region 4 with (first
        | (go_at_call 62; (with_reducible refine (impl_areLegs.calls K _ _ ls true _ ?s1 ?s2 HA.out).mono ?_); (case s1 => exact Kd.C_below HR.out qz11); (case s2 => exact hc); rintro e w1 ⟨rfl, hw⟩; replace B0 := ak (blk_below B0.out hw); replace B1 := ak (blk_below B1.out hw); replace HB := ak (below_step (show Below w.heap.size w _ from by (repeat (first | exact HB.out | exact Below.refl _ _ | apply below_alloc | apply pw_below_drewN | apply below_drew1)); done) hw); clear hw)
        | (go_at_call 63; (with_reducible refine (place _ c ls _ ?s1 ?s2 hc hn HG.out (RR ls) rfl).mono ?_); (case s1 => exact HL.out.keep qz11); (case s2 => exact Kd.C_below HR.out qz11); rintro e w2 ⟨g, T, cl, rfl, hst, ho, hw⟩; replace B0 := ak (blk_below B0.out hw); replace B1 := ak (blk_below B1.out hw); replace HB := ak (below_step (show Below w.heap.size w _ from by (repeat (first | exact HB.out | exact Below.refl _ _ | apply below_alloc | apply pw_below_drewN | apply below_drew1)); done) hw); have HS := ak hst; clear hst ho hw)
        | (go_at_call 69; (with_reducible refine (extentW _ (HS.out.keep qz11)).mono ?_); rintro e w3 ⟨rfl, hw⟩; rw [HM.out]; replace B0 := ak (blk_below B0.out hw); replace B1 := ak (blk_below B1.out hw); replace HB := ak (below_step (show Below w.heap.size w _ from by (repeat (first | exact HB.out | exact Below.refl _ _ | apply below_alloc | apply pw_below_drewN | apply below_drew1)); done) hw); clear hw))
      have e1 : (w3.alloc (Obj.cells #[.int .i64 a0, .int .i64 a1, .int .i64 a2] 31)).heap.size = w3.heap.size + 1 := by go_simp
      have h0 : w.heap.size < w3.heap.size := blk_lt B0.out; have h1 : q1 < w3.heap.size := blk_lt B1.out; have gg := GG.out; have BL : Aside0 (((w3.alloc (Obj.cells #[.int .i64 a0, .int .i64 a1, .int .i64 a2] 31)).alloc (Obj.cells #[.int .i64 b0, .int .i64 b1, .int .i64 b2] 31)).heap[w3.heap.size]? = some (Obj.cells #[.int .i64 a0, .int .i64 a1, .int .i64 a2] 31)) := ⟨blk_alloc (blk_new _ _) _⟩; have BH : Aside0 (((w3.alloc (Obj.cells #[.int .i64 a0, .int .i64 a1, .int .i64 a2] 31)).alloc (Obj.cells #[.int .i64 b0, .int .i64 b1, .int .i64 b2] 31)).heap[w3.heap.size + 1]? = some (Obj.cells #[.int .i64 b0, .int .i64 b1, .int .i64 b2] 31)) := ⟨(by rw [← e1]; exact blk_new _ _)⟩; replace B0 : Aside0 (((w3.alloc (Obj.cells #[.int .i64 a0, .int .i64 a1, .int .i64 a2] 31)).alloc (Obj.cells #[.int .i64 b0, .int .i64 b1, .int .i64 b2] 31)).heap[w.heap.size]? = some (Obj.cells #[Value.int IntKind.i64 0, Value.int IntKind.i64 0, Value.int IntKind.i64 0] 31)) := ⟨blk_alloc (blk_alloc B0.out _) _⟩; replace B1 : Aside0 (((w3.alloc (Obj.cells #[.int .i64 a0, .int .i64 a1, .int .i64 a2] 31)).alloc (Obj.cells #[.int .i64 b0, .int .i64 b1, .int .i64 b2] 31)).heap[q1]? = some (Obj.cells #[Value.int IntKind.i64 0, Value.int IntKind.i64 0, Value.int IntKind.i64 0] 31)) := ⟨blk_alloc (blk_alloc B1.out _) _⟩; replace HB : Aside0 (Below w.heap.size w ((w3.alloc (Obj.cells #[.int .i64 a0, .int .i64 a1, .int .i64 a2] 31)).alloc (Obj.cells #[.int .i64 b0, .int .i64 b1, .int .i64 b2] 31))) := ⟨below_alloc (below_alloc HB.out _) _⟩; obtain ⟨gh, hgh⟩ : ∃ r, r = w3.heap.size + 1 := ⟨_, rfl⟩
      have h2 : w.heap.size ≠ gh ∧ q1 ≠ gh ∧ w3.heap.size ≠ gh := by omega
      clear e1; generalize ((w3.alloc (Obj.cells #[.int .i64 a0, .int .i64 a1, .int .i64 a2] 31)).alloc (Obj.cells #[.int .i64 b0, .int .i64 b1, .int .i64 b2] 31)) = W4 at BL BH B0 B1 HB ⊢; rw [← hgh] at BH ⊢; clear hgh; generalize w3.heap.size = gl at *; have lax := (blk_cell BL.out 0).trans rfl; have lbx := (blk_cell BH.out 0).trans rfl; have lay := (blk_cell BL.out 1).trans rfl; have lby := (blk_cell BH.out 1).trans rfl; have laz := (blk_cell BL.out 2).trans rfl; have lbz := (blk_cell BH.out 2).trans rfl; have d0 := (blk_cell B0.out 0).trans rfl; have e0 := (blk_cell B1.out 0).trans rfl; have fd0 := blk_frozen B0.out 0; have fe0 := blk_frozen B1.out 0; have d1 := (blk_cell B0.out 1).trans rfl; have e1 := (blk_cell B1.out 1).trans rfl; have fd1 := blk_frozen B0.out 1; have fe1 := blk_frozen B1.out 1; have d2 := (blk_cell B0.out 2).trans rfl; have e2 := (blk_cell B1.out 2).trans rfl; have fd2 := blk_frozen B0.out 2; have fe2 := blk_frozen B1.out 2; have ne0 : w.heap.size ≠ q1 := by omega
      have ne1 : q1 ≠ w.heap.size := by omega
      have ne2 : w.heap.size ≠ gl := by omega
      have ne3 : w.heap.size ≠ gh := by omega
      have ne4 : q1 ≠ gl := by omega
      have ne5 : q1 ≠ gh := by omega
      clear h0 h1 h2 gg hb hn hc
      go_region
      have nC0 : Aside0 ((((((((W4.setCell ⟨w.heap.size, 0, none⟩ (.int .i64 a0)).setCell ⟨w.heap.size, 1, none⟩ (.int .i64 a1)).setCell ⟨w.heap.size, 2, none⟩ (.int .i64 a2)).setCell ⟨q1, 0, none⟩ (.int .i64 b0)).setCell ⟨q1, 1, none⟩ (.int .i64 b1)).setCell ⟨q1, 2, none⟩ (.int .i64 b2))).drew.heap[w.heap.size]? = some (Obj.cells #[.int .i64 a0, .int .i64 a1, .int .i64 a2] 31)) := ⟨blk_drew (blk_far (blk_far (blk_far (blk_put (blk_put (blk_put B0.out 0 _ rfl) 1 _ rfl) 2 _ rfl) ne0 _) ne0 _) ne0 _)⟩; have nC1 : Aside0 ((((((((W4.setCell ⟨w.heap.size, 0, none⟩ (.int .i64 a0)).setCell ⟨w.heap.size, 1, none⟩ (.int .i64 a1)).setCell ⟨w.heap.size, 2, none⟩ (.int .i64 a2)).setCell ⟨q1, 0, none⟩ (.int .i64 b0)).setCell ⟨q1, 1, none⟩ (.int .i64 b1)).setCell ⟨q1, 2, none⟩ (.int .i64 b2))).drew.heap[q1]? = some (Obj.cells #[.int .i64 b0, .int .i64 b1, .int .i64 b2] 31)) := ⟨blk_drew (blk_put (blk_put (blk_put (blk_far (blk_far (blk_far B1.out ne1 _) ne1 _) ne1 _) 0 _ rfl) 1 _ rfl) 2 _ rfl)⟩; have gg := GG.out; have nB : Aside0 (Below w.heap.size w ((((((((W4.setCell ⟨w.heap.size, 0, none⟩ (.int .i64 a0)).setCell ⟨w.heap.size, 1, none⟩ (.int .i64 a1)).setCell ⟨w.heap.size, 2, none⟩ (.int .i64 a2)).setCell ⟨q1, 0, none⟩ (.int .i64 b0)).setCell ⟨q1, 1, none⟩ (.int .i64 b1)).setCell ⟨q1, 2, none⟩ (.int .i64 b2))).drew)) := ⟨below_drew1 (below_set (below_set (below_set (below_set (below_set (below_set HB.out (by omega)) (by omega)) (by omega)) (by omega)) (by omega)) (by omega))⟩; generalize (((((((W4.setCell ⟨w.heap.size, 0, none⟩ (.int .i64 a0)).setCell ⟨w.heap.size, 1, none⟩ (.int .i64 a1)).setCell ⟨w.heap.size, 2, none⟩ (.int .i64 a2)).setCell ⟨q1, 0, none⟩ (.int .i64 b0)).setCell ⟨q1, 1, none⟩ (.int .i64 b1)).setCell ⟨q1, 2, none⟩ (.int .i64 b2))).drew = W8 at nC0 nC1 nB ⊢; have k0 : W8.cell? ⟨w.heap.size, 0, none⟩ = some (.int .i64 a0) := (blk_cell nC0.out 0).trans rfl; have l0 : W8.cell? ⟨q1, 0, none⟩ = some (.int .i64 b0) := (blk_cell nC1.out 0).trans rfl; have k1 : W8.cell? ⟨w.heap.size, 1, none⟩ = some (.int .i64 a1) := (blk_cell nC0.out 1).trans rfl; have l1 : W8.cell? ⟨q1, 1, none⟩ = some (.int .i64 b1) := (blk_cell nC1.out 1).trans rfl; have k2 : W8.cell? ⟨w.heap.size, 2, none⟩ = some (.int .i64 a2) := (blk_cell nC0.out 2).trans rfl; have l2 : W8.cell? ⟨q1, 2, none⟩ = some (.int .i64 b2) := (blk_cell nC1.out 2).trans rfl; go_wp2; exact bodyPost_ret (v := .tuple #[.agg #[.int .i64 a0, .int .i64 a1, .int .i64 a2], .agg #[.int .i64 b0, .int .i64 b1, .int .i64 b2], .bool true]) (by simp [results, Tryd.results16, go_sem, k0, k1, k2, l0, l1, l2]) rfl ⟨rfl, nB.out⟩
    · rw [if_neg hv] at h
      simp only [Option.some.injEq, Prod.mk.injEq] at h; obtain ⟨rfl, rfl, rfl, rfl, rfl, rfl, rfl⟩ := h; rw [Bool.eq_false_iff.mpr hv] at HA; clear hv; go_enter Tryd.func16, Tryd.ntmps16
      go_upto_region 1 with fail
      have e1 : (w.alloc (Obj.cells #[Value.int IntKind.i64 0, Value.int IntKind.i64 0, Value.int IntKind.i64 0] 31)).heap.size = w.heap.size + 1 := by go_simp
      have B0 : Aside0 (((w.alloc (Obj.cells #[Value.int IntKind.i64 0, Value.int IntKind.i64 0, Value.int IntKind.i64 0] 31)).alloc (Obj.cells #[Value.int IntKind.i64 0, Value.int IntKind.i64 0, Value.int IntKind.i64 0] 31)).heap[w.heap.size]? = some (Obj.cells #[Value.int IntKind.i64 0, Value.int IntKind.i64 0, Value.int IntKind.i64 0] 31)) := ⟨blk_alloc (blk_new w _) _⟩; have B1 : Aside0 (((w.alloc (Obj.cells #[Value.int IntKind.i64 0, Value.int IntKind.i64 0, Value.int IntKind.i64 0] 31)).alloc (Obj.cells #[Value.int IntKind.i64 0, Value.int IntKind.i64 0, Value.int IntKind.i64 0] 31)).heap[w.heap.size + 1]? = some (Obj.cells #[Value.int IntKind.i64 0, Value.int IntKind.i64 0, Value.int IntKind.i64 0] 31)) := ⟨(by rw [← e1]; exact blk_new _ _)⟩; replace HB : Aside0 (Below w.heap.size w ((w.alloc (Obj.cells #[Value.int IntKind.i64 0, Value.int IntKind.i64 0, Value.int IntKind.i64 0] 31)).alloc (Obj.cells #[Value.int IntKind.i64 0, Value.int IntKind.i64 0, Value.int IntKind.i64 0] 31))) := ⟨below_alloc (below_alloc (Below.refl _ _) _) _⟩; obtain ⟨q1, hq1⟩ : ∃ r, r = w.heap.size + 1 := ⟨_, rfl⟩
      have GG := ak (show w.heap.size < q1 from by omega); clear e1; generalize ((w.alloc (Obj.cells #[Value.int IntKind.i64 0, Value.int IntKind.i64 0, Value.int IntKind.i64 0] 31)).alloc (Obj.cells #[Value.int IntKind.i64 0, Value.int IntKind.i64 0, Value.int IntKind.i64 0] 31)) = W2 at B0 B1 HB ⊢; rw [← hq1] at B1 ⊢; clear hq1; have gg := GG.out; have ne0 : w.heap.size ≠ q1 := by omega
      have ne1 : q1 ≠ w.heap.size := by omega
      go_wp2_with (go_at_call 62; (with_reducible refine (impl_areLegs.calls K _ _ ls false _ ?s1 ?s2 HA.out).mono ?_); (case s1 => exact Kd.C_below HR.out qz11); (case s2 => exact hc); rintro e w1 ⟨rfl, hw⟩; replace B0 := ak (blk_below B0.out hw); replace B1 := ak (blk_below B1.out hw); replace HB := ak (below_step (show Below w.heap.size w _ from by (repeat (first | exact HB.out | exact Below.refl _ _ | apply below_alloc | apply pw_below_drewN | apply below_drew1)); done) hw); clear hw; have d0 : w1.cell? ⟨w.heap.size, 0, none⟩ = some (.int .i64 0) := (blk_cell B0.out 0).trans rfl; have e0 : w1.cell? ⟨q1, 0, none⟩ = some (.int .i64 0) := (blk_cell B1.out 0).trans rfl; have fd0 := blk_frozen B0.out 0; have fe0 := blk_frozen B1.out 0; have d1 : w1.cell? ⟨w.heap.size, 1, none⟩ = some (.int .i64 0) := (blk_cell B0.out 1).trans rfl; have e1 : w1.cell? ⟨q1, 1, none⟩ = some (.int .i64 0) := (blk_cell B1.out 1).trans rfl; have fd1 := blk_frozen B0.out 1; have fe1 := blk_frozen B1.out 1; have d2 : w1.cell? ⟨w.heap.size, 2, none⟩ = some (.int .i64 0) := (blk_cell B0.out 2).trans rfl; have e2 : w1.cell? ⟨q1, 2, none⟩ = some (.int .i64 0) := (blk_cell B1.out 2).trans rfl; have fd2 := blk_frozen B0.out 2; have fe2 := blk_frozen B1.out 2); exact bodyPost_ret (v := .tuple #[.agg #[.int .i64 0, .int .i64 0, .int .i64 0], .agg #[.int .i64 0, .int .i64 0, .int .i64 0], .bool false]) (by simp [results, Tryd.results16, go_sem, d0, d1, d2, e0, e1, e2, ne0, ne1]) rfl ⟨rfl, (by repeat (first | exact HB.out | apply below_drew1 | (refine below_set ?_ (by omega))))⟩
  · rw [if_neg hb] at h
    cases h
def impl_DepthOf.f (l0 : List (S49)) : Option (Int × Bool) := if l0.length ≤ 140737488351232 then some (depthM l0) else none
theorem impl_DepthOf.calls (A0 : Option Addr) (c : Nat) (ls : List (S49)) (r1 : Int) (r2 : Bool) (w : World) (hr0 : Kd.C k49 w A0 ls.length ls) (hc : ls.length ≤ c) (h : impl_DepthOf.f ls = some (r1, r2)) (hL : Sine.Laid w) :
    Calls Tryd.prog 17 #[.slice A0 ls.length c] w fun e w' => e = .returned (.tuple #[.int .i64 r1, .bool r2]) ∧ Below w.heap.size w w' := by
  unfold impl_DepthOf.f at h; by_cases hb : ls.length ≤ 140737488351232
  · rw [if_pos hb] at h
    obtain ⟨K, hK⟩ := areLegs_ev ls hb; have HA := ak (hK K (Nat.le_refl _)); have HR := ak hr0; have HL := ak hL; have HB := ak (Below.refl w.heap.size w); clear hK hr0 hL; unfold depthM at h; by_cases hv : legsB ls = true
    · rw [if_pos hv] at h
      obtain ⟨rfl, rfl⟩ := Prod.mk.inj (Option.some.inj h); rw [hv] at HA; have hv' := legsB_iff.mp hv; have HG := ak hv'.1; have hn := hv'.2; have HM := ak (extM_to HG.out); clear h hv hv'; generalize extM ls = e at *; obtain ⟨⟨a0, a1, a2⟩, ⟨b0, b1, b2⟩⟩ := e; go_enter Tryd.func17, Tryd.ntmps17
      go_wp2_with (first
        | (go_at_call 62; (with_reducible refine (impl_areLegs.calls K _ _ ls true _ ?s1 ?s2 HA.out).mono ?_); (case s1 => exact Kd.C_below HR.out qz11); (case s2 => exact hc); rintro e w' ⟨rfl, hw⟩; replace HB := ak (below_step (show Below w.heap.size w _ from by (repeat (first | exact HB.out | exact Below.refl _ _ | apply below_alloc | apply pw_below_drewN | apply below_drew1)); done) hw); clear hw)
        | (go_at_call 63; (with_reducible refine (place _ c ls _ ?s1 ?s2 hc hn HG.out (RR ls) rfl).mono ?_); (case s1 => exact HL.out.keep qz11); (case s2 => exact Kd.C_below HR.out qz11); rintro e w' ⟨g, T, cl, rfl, hst, ho, hw⟩; have HO : Aside0 (Kd.R (Kd.int .i64) 3 w' w.heap.size (fun k => k ≠ g ∧ k ≠ T) cl (closeL ls)) := ⟨Kd.R_lower ho (below_size (show Below w.heap.size w _ from by (repeat (first | exact HB.out | exact Below.refl _ _ | apply below_alloc | apply pw_below_drewN | apply below_drew1)); done))⟩; replace HB := ak (below_step (show Below w.heap.size w _ from by (repeat (first | exact HB.out | exact Below.refl _ _ | apply below_alloc | apply pw_below_drewN | apply below_drew1)); done) hw); have HS := ak hst; clear hst ho hw; obtain ⟨cA, cC, ecl⟩ := Kd.R_slice HO.out; subst ecl)
        | (go_at_call 69; (with_reducible refine (extentW _ (HS.out.keep qz11)).mono ?_); rintro e w3 ⟨rfl, hw⟩; rw [HM.out]; replace HB := ak (below_step (show Below w.heap.size w _ from by (repeat (first | exact HB.out | exact Below.refl _ _ | apply below_alloc | apply pw_below_drewN | apply below_drew1)); done) hw); clear hw))
      go_ret2
      exact ⟨rfl, qz11⟩
    · rw [if_neg hv] at h
      obtain ⟨rfl, rfl⟩ := Prod.mk.inj (Option.some.inj h); rw [Bool.eq_false_iff.mpr hv] at HA; clear h hv; go_enter Tryd.func17, Tryd.ntmps17; go_wp2_with (go_at_call 62; (with_reducible refine (impl_areLegs.calls K _ _ ls false _ ?s1 ?s2 HA.out).mono ?_); (case s1 => exact Kd.C_below HR.out qz11); (case s2 => exact hc); rintro e w' ⟨rfl, hw⟩; replace HB := ak (below_step (show Below w.heap.size w _ from by (repeat (first | exact HB.out | exact Below.refl _ _ | apply below_alloc | apply pw_below_drewN | apply below_drew1)); done) hw); clear hw)
      go_ret2
      exact ⟨rfl, qz11⟩
  · rw [if_neg hb] at h
    cases h
def impl_PlacedStations.f (l0 : List (S49)) : Option (List Int × Bool) := if l0.length ≤ 140737488351232 then some (if legsB l0 = true then (plL (RR l0), true) else ([], false)) else none
theorem impl_PlacedStations.calls (A0 : Option Addr) (c : Nat) (ls : List (S49)) (r1 : List Int) (r2 : Bool) (w : World) (hr0 : Kd.C k49 w A0 ls.length ls) (hc : ls.length ≤ c) (h : impl_PlacedStations.f ls = some (r1, r2)) (hL : Sine.Laid w) :
    Calls Tryd.prog 10 #[.slice A0 ls.length c] w fun e w' => ∃ v0_ : Value, e = .returned (.tuple #[v0_, .bool r2]) ∧ Kd.R (Kd.int .i64) 3 w' w.heap.size (fun _ => True) v0_ r1 ∧ Below w.heap.size w w' := by
  unfold impl_PlacedStations.f at h; by_cases hb : ls.length ≤ 140737488351232
  · rw [if_pos hb] at h
    obtain ⟨K, hK⟩ := areLegs_ev ls hb; have HA := ak (hK K (Nat.le_refl _)); have HR := ak hr0; have HL := ak hL; have HB := ak (Below.refl w.heap.size w); clear hK hr0 hL; by_cases hv : legsB ls = true
    · rw [if_pos hv] at h
      obtain ⟨rfl, rfl⟩ := Prod.mk.inj (Option.some.inj h); rw [hv] at HA; have hv' := legsB_iff.mp hv; have HG := ak hv'.1; have hn := hv'.2; have HPE := ak (show selTo (Pq (RR ls)) 8 = plL (RR ls) from plL_sel HG.out); clear h hv hv'; go_enter Tryd.func10, Tryd.ntmps10
      go_wp2_with (first
        | (go_at_call 62; (with_reducible refine (impl_areLegs.calls K _ _ ls true _ ?s1 ?s2 HA.out).mono ?_); (case s1 => exact Kd.C_below HR.out qz11); (case s2 => exact hc); rintro e w' ⟨rfl, hw⟩; replace HB := ak (below_step (show Below w.heap.size w _ from by (repeat (first | exact HB.out | exact Below.refl _ _ | apply below_alloc | apply pw_below_drewN | apply below_drew1)); done) hw); clear hw)
        | (go_at_call 63; (with_reducible refine (place _ c ls _ ?s1 ?s2 hc hn HG.out (RR ls) rfl).mono ?_); (case s1 => exact HL.out.keep qz11); (case s2 => exact Kd.C_below HR.out qz11); rintro e w' ⟨g, T, cl, rfl, hst, ho, hw⟩; have HO : Aside0 (Kd.R (Kd.int .i64) 3 w' w.heap.size (fun k => k ≠ g ∧ k ≠ T) cl (closeL ls)) := ⟨Kd.R_lower ho (below_size (show Below w.heap.size w _ from by (repeat (first | exact HB.out | exact Below.refl _ _ | apply below_alloc | apply pw_below_drewN | apply below_drew1)); done))⟩; replace HB := ak (below_step (show Below w.heap.size w _ from by (repeat (first | exact HB.out | exact Below.refl _ _ | apply below_alloc | apply pw_below_drewN | apply below_drew1)); done) hw); have HS := ak hst; clear hst ho hw; obtain ⟨cA, cC, ecl⟩ := Kd.R_slice HO.out; subst ecl)
        | (go_at_call 65; have hq := stationsW _ (HS.out.keep qz143); (with_reducible refine hq.mono ?_); clear hq; rintro e w3 ⟨v, rfl, hv3, hw⟩; have hsz := below_size HB.out; rw [HPE.out] at hv3; have HP := ak (show Kd.R (Kd.int .i64) 3 w3 w.heap.size (fun _ => True) v (plL (RR ls)) from Kd.R_mono (Kd.R_lower hv3 hsz) (fun k hk => trivial)); replace HB := ak (below_step (show Below w.heap.size w _ from by (repeat (first | exact HB.out | exact Below.refl _ _ | apply below_alloc | apply pw_below_drewN | apply below_drew1)); done) hw); clear hv3 hw))
      exact bodyPost_ret (v := .tuple #[v, .bool true]) (by simp [results, Tryd.results10, go_sem]) rfl ⟨_, rfl, (by repeat (first | exact HP.out | apply Kd.R_drewN | apply Kd.R_drew)), qz11⟩
    · rw [if_neg hv] at h
      obtain ⟨rfl, rfl⟩ := Prod.mk.inj (Option.some.inj h); rw [Bool.eq_false_iff.mpr hv] at HA; clear h hv; go_enter Tryd.func10, Tryd.ntmps10; go_wp2_with (go_at_call 62; (with_reducible refine (impl_areLegs.calls K _ _ ls false _ ?s1 ?s2 HA.out).mono ?_); (case s1 => exact Kd.C_below HR.out qz11); (case s2 => exact hc); rintro e w' ⟨rfl, hw⟩; replace HB := ak (below_step (show Below w.heap.size w _ from by (repeat (first | exact HB.out | exact Below.refl _ _ | apply below_alloc | apply pw_below_drewN | apply below_drew1)); done) hw); clear hw); exact bodyPost_ret (v := .tuple #[.slice none 0 0, .bool false]) (by simp [results, Tryd.results10, go_sem]) rfl ⟨_, rfl, Kd.R_nil _ _ _ _ _, qz11⟩
  · rw [if_neg hb] at h
    cases h
end Go.Proofs.YtcafgpincnkcdaaDoor.A
