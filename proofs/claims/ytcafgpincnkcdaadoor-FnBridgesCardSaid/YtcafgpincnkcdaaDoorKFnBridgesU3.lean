/- All bridges: the reference's BridgesOf, in plain. -/
import Derived.Test.YtcafgpincnkcdaaDoorKFnBridgesU2
set_option maxHeartbeats 4000000
set_option maxRecDepth 100000
set_option linter.unusedSimpArgs false
set_option linter.unusedVariables false
namespace Go.Proofs.YtcafgpincnkcdaaDoor.Net
open Go.RowKit YtcafgpincnkcdaaDoorW.PrintWords YtcafgpincnkcdaaDoorW.PrintLast YtcafgpincnkcdaaDoorW.PrintMore A Plain
open Tree (verts legs W)
open Dfs (dfs try_)
open Grow (Q sweep grow)
theorem rd_at (l : List Int) (i : Nat) (h : i < l.length) : rd l (i : Int) = l[i] := by
  unfold rd; rw [Int.toNat_natCast, List.getD_eq_getElem?_getD, List.getElem?_eq_getElem h]; rfl
section
variable (ls : L) (hg : ∀ x ∈ ls, Good x) (tree : List Int) (ht : ∀ i ∈ tree, 0 ≤ i ∧ i < (ls.length : Int)) (hl : tree.length ≤ 1000) (dst : Int)
include hg ht hl
theorem way_of_dfs : ∀ (f : Nat), f ≤ 1000 →
    (∀ fr last r, 0 ≤ fr → fr < 8 → dfs (ends ls) tree dst f fr last = some r → r.1.length ≤ f ∧ Ev (fun k => spec_l8Way.f k ls tree fr dst last) r) := by
  intro f
  induction f with
  | zero => intro hf fr last r h0 h8 h; simp [dfs] at h
  | succ f ihf =>
    intro hf; have ihf := ihf (by omega)
    have inner : ∀ (fr last : Int), 0 ≤ fr → fr < 8 → ∀ (d j : Nat) r, j + d = tree.length → try_ (ends ls) tree dst f fr last (tree.drop j) = some r → r.1.length ≤ f + 1 ∧ Ev (fun k => spec_l8Way.l0 k ls tree fr dst last (j : Int)) r := by
      intro fr last h0 h8 d
      induction d with
      | zero =>
        intro j r hj h; rw [List.drop_eq_nil_of_le (by omega), try_] at h; obtain rfl := Option.some.inj h; refine ⟨by simp, Ev.step (f := fun _ => some ([], false)) (fun k => ?_) (Ev.now _)⟩; simp only [spec_l8Way.l0]; rw [if_neg (by omega)]
      | succ d ih =>
        intro j r hj h; have hlt : j < tree.length := by omega
        have er := rd_at tree j hlt; have hin := ht _ (List.getElem_mem hlt); rw [List.drop_eq_getElem_cons hlt, try_] at h; have e : wrap64 ((j : Int) + 1) = ((j + 1 : Nat) : Int) := by rw [w64 (by omega) (by omega)]; omega
        have bj : (j : Int) < (tree.length : Int) := Int.ofNat_lt.mpr hlt; have bj0 : (0 : Int) ≤ (j : Int) := Int.natCast_nonneg j; obtain ⟨i, hi⟩ := Int.eq_ofNat_of_zero_le hin.1; rw [hi] at hin h er; have hgi := leg_good hg i (Int.ofNat_lt.mp hin.2); have hrd : rd_T49 ls (i : Int) = leg ls i := rfl; have hE : ends ls i = ((leg ls i).f0, (leg ls i).f1) := rfl; rw [hE] at h; obtain ⟨⟨a0, a8⟩, ⟨b0, b8⟩, _⟩ := hgi; generalize leg ls (i : Int) = x at *; simp only at h
        have next : ∀ r, try_ (ends ls) tree dst f fr last (tree.drop (j + 1)) = some r → r.1.length ≤ f + 1 ∧ Ev (fun k => spec_l8Way.j1 k ls tree fr dst last (j : Int) (i : Int) true) r := by
          intro r hr; obtain ⟨h1, h2⟩ := ih (j + 1) r (by omega) hr; refine ⟨h1, Ev.step (fun k => ?_) h2⟩; simp only [spec_l8Way.j1]; rw [if_pos trivial, e]
        by_cases c1 : (i : Int) = last
        · rw [if_pos (Or.inl c1)] at h
          obtain ⟨h1, h2⟩ := next r h; refine ⟨h1, Ev.step (fun k => ?_) h2⟩; simp only [spec_l8Way.l0]; rw [if_pos bj, if_pos bj0, er, if_pos c1]
        · by_cases c2 : x.f0 = fr ∨ x.f1 = fr
          · rw [if_neg (by
              rintro (c | ⟨c3, c4⟩)
              · exact c1 c
              · rcases c2 with c2 | c2
                · exact c3 c2
                · exact c4 c2)] at h
            have hstep : ∀ r, Ev (fun k => spec_l8Way.j1 k ls tree fr dst last (j : Int) (i : Int) false) r → Ev (fun k => spec_l8Way.l0 k ls tree fr dst last (j : Int)) r := by
              intro r hr; refine Ev.step (fun k => ?_) hr; simp only [spec_l8Way.l0]; rw [if_pos bj, if_pos bj0, er, if_neg c1, if_pos hin.1, if_pos hin.2, hrd]; by_cases c3 : x.f0 = fr
              · rw [if_pos c3]
              · rw [if_neg c3, c2.resolve_left c3]
                simp
            have ho : wrap64 ((wrap64 (x.f0 + x.f1)) - fr) = x.f0 + x.f1 - fr := by rw [w64 (x := x.f0 + x.f1) (by omega) (by omega), w64 (by omega) (by omega)]
            have ho8 : 0 ≤ x.f0 + x.f1 - fr ∧ x.f0 + x.f1 - fr < 8 := by rcases c2 with c2 | c2 <;> omega
            cases hd : dfs (ends ls) tree dst f (x.f0 + x.f1 - fr) i with
            | none => rw [hd] at h; cases h
            | some y =>
              rw [hd, Option.bind_some] at h; obtain ⟨l1, l2⟩ := ihf _ _ y ho8.1 ho8.2 hd; by_cases c5 : y.2 = true
              · rw [if_pos c5] at h
                obtain rfl := Option.some.inj h; refine ⟨qz108, hstep _ ?_⟩; refine Ev.step (f := fun k => (spec_l8Way.f k ls tree (x.f0 + x.f1 - fr) dst (i : Int)).bind fun bt344 => (if bt344.2 = true then ((some (([(i : Int)] : List Int) : List Int)).bind fun y348 => (if y348.length + bt344.1.length < 17592186044416 then (some ((y348 ++ bt344.1), true)) else (none))) else (spec_l8Way.l0 k ls tree fr dst last (wrap64 ((j : Int) + 1))))) (fun k => ?_) ?_
                · simp only [spec_l8Way.j1]
                  rw [if_neg (by decide), if_pos hin.1, if_pos hin.2, hrd, ho]
                · refine Ev.bind l2 (Ev.pos c5 ?_)
                  refine Ev.bindc rfl (Ev.pos qz108 (Ev.now _))
              · rw [if_neg c5] at h
                obtain ⟨h1, h2⟩ := ih (j + 1) r (by omega) h; refine ⟨h1, hstep _ ?_⟩; refine Ev.step (f := fun k => (spec_l8Way.f k ls tree (x.f0 + x.f1 - fr) dst (i : Int)).bind fun bt344 => (if bt344.2 = true then ((some (([(i : Int)] : List Int) : List Int)).bind fun y348 => (if y348.length + bt344.1.length < 17592186044416 then (some ((y348 ++ bt344.1), true)) else (none))) else (spec_l8Way.l0 k ls tree fr dst last (wrap64 ((j : Int) + 1))))) (fun k => ?_) ?_
                · simp only [spec_l8Way.j1]
                  rw [if_neg (by decide), if_pos hin.1, if_pos hin.2, hrd, ho]
                · refine Ev.bind l2 (Ev.neg c5 ?_)
                  rw [e]; exact h2
          · rw [if_pos (Or.inr ⟨fun c => c2 (Or.inl c), fun c => c2 (Or.inr c)⟩)] at h
            obtain ⟨h1, h2⟩ := next r h; refine ⟨h1, Ev.step (fun k => ?_) h2⟩; simp only [spec_l8Way.l0]; rw [if_pos bj, if_pos bj0, er, if_neg c1, if_pos hin.1, if_pos hin.2, hrd, if_neg (fun c => c2 (Or.inl c)), show (x.f1 != fr) = true from by simpa using fun c => c2 (Or.inr c)]
    intro fr last r h0 h8 h; rw [dfs] at h; by_cases c : fr = dst
    · rw [if_pos c] at h
      obtain rfl := Option.some.inj h; refine ⟨by simp, Ev.step (f := fun _ => some ([], true)) (fun k => ?_) (Ev.now _)⟩; simp only [spec_l8Way.f]; rw [if_pos c]
    · rw [if_neg c] at h
      obtain ⟨h1, h2⟩ := inner fr last h0 h8 tree.length 0 r (by omega) qz127; refine ⟨h1, Ev.step (fun k => ?_) h2⟩; simp only [spec_l8Way.f]; rw [if_neg c]; rfl
end
theorem mem_closeTo (ls : L) (q : Q) : ∀ (n : Nat) (i : Int), i ∈ closeTo ls q n ↔ ∃ k : Nat, i = k ∧ k < n ∧ Pq q (leg ls k).f0.toNat = true ∧ Bq q k = false
  | 0, i => by simp [closeTo]
  | n + 1, i => by
    have ih := mem_closeTo ls q n i; unfold closeTo; split
    · rename_i c
      rw [List.mem_append, ih, List.mem_singleton]
      constructor
      · rintro (⟨k, h1, h2, h3⟩ | rfl)
        · exact ⟨k, h1, by omega, h3⟩
        · exact ⟨n, rfl, by omega, c⟩
      · rintro ⟨k, h1, h2, h3⟩
        by_cases e : k = n
        · exact Or.inr (by rw [h1, e])
        · exact Or.inl ⟨k, h1, by omega, h3⟩
    · rename_i c
      rw [ih]
      constructor
      · rintro ⟨k, h1, h2, h3⟩
        exact ⟨k, h1, by omega, h3⟩
      · rintro ⟨k, h1, h2, h3⟩
        by_cases e : k = n
        · exact absurd (e ▸ h3) c
        · exact ⟨k, h1, by omega, h3⟩
theorem mem_closeL {ls : L} (hg : ∀ x ∈ ls, Good x) {i : Int} (h : i ∈ closeL ls) : 0 ≤ i ∧ i < (ls.length : Int) ∧ (ends ls i).1 ∈ verts 0 (RR ls) ∧ (ends ls i).2 ∈ verts 0 (RR ls) ∧ i ∉ legs (RR ls) := by
  obtain ⟨k, rfl, h1, h2, h3⟩ := (mem_closeTo ls (RR ls) ls.length i).mp h; have hk := (leg_good hg k h1).1.1
  have hv : (ends ls k).1 ∈ verts 0 (RR ls) := by
    have := of_decide_eq_true h2
    rwa [Int.toNat_of_nonneg hk] at this
  exact ⟨by omega, by omega, hv, ((RR_ok hg).2 k (by omega) (by omega)).mp hv, of_decide_eq_false h3⟩
theorem RR_ends {ls : L} (hg : ∀ x ∈ ls, Good x) : ∀ x ∈ RR ls, (ends ls x.1 = (x.2.1, x.2.2) ∨ ends ls x.1 = (x.2.2, x.2.1)) ∧ 0 ≤ x.1 := fun x hx => by
  have := (RR_ok hg).1.ends x hx; exact ⟨this.1, this.2.1⟩
theorem trL_range {ls : L} (hg : ∀ x ∈ ls, Good x) : ∀ i ∈ trL (RR ls), 0 ≤ i ∧ i < (ls.length : Int) := fun i hi => by
  have := (RR_ok hg).1.legs_ends (ends ls) ((mem_trL _ _).mp hi); exact ⟨this.2.2.2.1, this.2.2.2.2⟩
theorem way_ev {ls : L} (hn : ls.length ≤ 12) (hg : ∀ x ∈ ls, Good x) {a b : Int} (ha : a ∈ verts 0 (RR ls)) (hb : b ∈ verts 0 (RR ls)) : Ev (fun k => spec_l8Way.f k ls (trL (RR ls)) a b (-1)) (W (RR ls) a b, true) := by
  have h8 := Grow.in_range (ends ls) (RR_ok hg).1 (Good.range hg) a ha; have hl := RR_len hg; have ht := trL_small hg; exact (way_of_dfs ls hg (trL (RR ls)) (trL_range hg) (by omega) b 8 (by omega) a (-1) _ h8.1 h8.2 (Dfs.dfs_way (ends ls) (RR_ok hg).1.tr (RR_ends hg) (fun i => mem_trL _ i) ha hb (by omega))).2
def loopL (ls : L) (i : Int) : List Int := W (RR ls) (ends ls i).2 (ends ls i).1 ++ [i]
theorem loop_ev {ls : L} (hn : ls.length ≤ 12) (hg : ∀ x ∈ ls, Good x) {i : Int} (hi : i ∈ closeL ls) : Ev (fun k => spec_l8Legs.f k ls i) (loopL ls i) := by
  obtain ⟨h0, h1, h2, h3, _⟩ := mem_closeL hg hi; refine Ev.bind (place_ev ls hn hg (RR ls) rfl) (Ev.pos h0 (Ev.pos h1 ?_)); refine Ev.bind (way_ev hn hg h3 h2) ?_; have := Tree.W_len (RR ls) (ends ls i).2 (ends ls i).1; have hl := RR_len hg; exact Ev.pos (show (W (RR ls) (ends ls i).2 (ends ls i).1).length < 17592186044416 by omega) (Ev.now _)
end Go.Proofs.YtcafgpincnkcdaaDoor.Net
namespace Go.Proofs.YtcafgpincnkcdaaDoor.Net
open Go.RowKit YtcafgpincnkcdaaDoorW.PrintWords YtcafgpincnkcdaaDoorW.PrintLast YtcafgpincnkcdaaDoorW.PrintMore A Plain
open Tree (verts legs W)
open Grow (Q sweep grow)
theorem loopL_len {ls : L} (hg : ∀ x ∈ ls, Good x) (i : Int) : (loopL ls i).length ≤ 8 := by
  have := Tree.W_len (RR ls) (ends ls i).2 (ends ls i).1; have hl := RR_len hg; simp only [loopL, List.length_append, List.length_singleton]; omega
end Go.Proofs.YtcafgpincnkcdaaDoor.Net
namespace Go.Proofs.YtcafgpincnkcdaaDoor.Net
open Go Go.RowKit YtcafgpincnkcdaaDoorW.PrintWords YtcafgpincnkcdaaDoorW.PrintLast YtcafgpincnkcdaaDoorW.PrintMore A Plain
open Tree (verts legs W)
open Grow (Q)
theorem loopUse {n T g : Nat} {P : Nat → Bool} {X : Nat → S31} {B : Nat → Bool} {cl : Value} (i : Nat) (p : Addr) (w : World) (hp : w.cell? p = some (.pointer (some ⟨g, 0, none⟩))) (hS : St n T g P X B cl w) (hi : i < n) :
    Calls Tryd.prog 119 #[.int .i64 (i : Int), .pointer (some p)] w fun e w' => e = .returned (.bool (B i)) ∧ w' = w := by
  have tc := hS.tc; have tb := hS.tb i hi; have k0 : (0 : Int) ≤ (i : Int) := by omega
  have k1 : (i : Int) < (n : Int) := by omega
  clear hS; go_enter Tryd.func119, Tryd.ntmps119; go_wp2; go_ret; exact ⟨rfl, rfl⟩
theorem trail_snoc (e : Int → Int × Int) : ∀ (l : List Int) (a : Int) (i : Int), ∃ b, trail e a (l ++ [i]) = trail e a l ++ [(e i).1 + (e i).2 - b] ∧ (trail e a l).getLast? = some b
  | [], a, i => ⟨a, rfl, rfl⟩
  | j :: l, a, i => by
    obtain ⟨b, h1, h2⟩ := trail_snoc e l ((e j).1 + (e j).2 - a) i; refine ⟨b, (by simp only [List.cons_append, trail, h1]), ?_⟩; simp only [trail]; rw [trail_cons e _ l] at h2 ⊢; simpa using h2
theorem trail_rev {e : Int → Int × Int} {q : Q} (hx : ∀ x ∈ q, e x.1 = (x.2.1, x.2.2) ∨ e x.1 = (x.2.2, x.2.1)) {a : Int} {o : Option Int} {l : List Int} {b : Int} (h : Tree.Walk q a o l b) : trail e b l.reverse = (trail e a l).reverse := by
  induction h with
  | nil => rfl
  | cons hj ho hw ih =>
    rename_i a o i c l b
    have he : (e i).1 + (e i).2 - a = c ∧ (e i).1 + (e i).2 - c = a := by
      rcases hj with hj | hj
      · rcases hx _ hj with he | he <;> rw [he] <;> simp only <;> omega
      · rcases hx _ hj with he | he <;> rw [he] <;> simp only <;> omega
    simp only [List.reverse_cons, trail, he.1]; obtain ⟨d, h1, h2⟩ := trail_snoc e l.reverse b i; rw [h1, ih]; rw [ih, List.getLast?_reverse, trail_cons e c l] at h2; obtain rfl : c = d := by simpa using h2
    rw [he.2]
def loopS (ls : L) (i : Int) : List Int := trail (ends ls) (ends ls i).2 (W (RR ls) (ends ls i).2 (ends ls i).1)
theorem path_of {ls : L} (hg : ∀ x ∈ ls, Good x) {i : Int} (hi : i ∈ closeL ls) :
    (ends ls i).1 ∈ verts (ends ls i).2 (Bfs.run (ends ls) (fun j => decide (j ∈ legs (RR ls))) (ends ls i).2 ls.length 9 0 []) ∧
      (Bfs.back (Bfs.run (ends ls) (fun j => decide (j ∈ legs (RR ls))) (ends ls i).2 ls.length 9 0 []) (ends ls i).1).reverse = W (RR ls) (ends ls i).2 (ends ls i).1 ∧
      (trail (ends ls) (ends ls i).1 (Bfs.back (Bfs.run (ends ls) (fun j => decide (j ∈ legs (RR ls))) (ends ls i).2 ls.length 9 0 []) (ends ls i).1)).reverse = loopS ls i := by
  obtain ⟨h0, h1, h2, h3, _⟩ := mem_closeL hg hi; obtain ⟨f1, f2⟩ := Way.found (ends ls) (RR_ok hg).1 (Good.range hg) h3 h2; refine ⟨f1, (by rw [f2, ← Way.W_rev]), ?_⟩; rw [f2]; unfold loopS; rw [Way.W_rev (RR ls) (ends ls i).1 (ends ls i).2]; exact (trail_rev (fun x hx => (RR_ends hg x hx).1) (Tree.walk_W (RR_ok hg).1.tr h2 h3)).symm
theorem netLoop (A : Option Addr) (c : Nat) (ls : L) (i : Int) (T g : Nat) (cl : Value) (w : World) (hS : St ls.length T g (Pq (RR ls)) (Xq ls (RR ls)) (Bq (RR ls)) cl w) (hr0 : Kd.C k49 w A ls.length ls) (hc : ls.length ≤ c) (hn : ls.length ≤ 12) (hg : ∀ x ∈ ls, Good x) (hi : i ∈ closeL ls) :
    Calls Tryd.prog 87 #[.pointer (some ⟨g, 0, none⟩), .slice A ls.length c, .int .i64 i] w fun e w' => ∃ v1 v2, e = .returned (.tuple #[v1, v2]) ∧ Kd.R (Kd.int .i64) 3 w' w.heap.size (fun _ => True) v1 (loopS ls i) ∧ Kd.R (Kd.int .i64) 3 w' w.heap.size (fun _ => True) v2 (loopL ls i) ∧ Below w.heap.size w w' := by
  have HP := ak (path_of hg hi); obtain ⟨i0, i1, _⟩ := mem_closeL hg hi; have HLN := ak (loopL_len hg i); obtain ⟨k, rfl⟩ := Int.eq_ofNat_of_zero_le i0; have hgk := leg_good hg k (Int.ofNat_lt.mp i1); obtain ⟨w_1, e2, h0, h1, _⟩ := at_T49 hr0 (k : Int) i0 i1; cases e2; rw [Int.toNat_natCast, show rd_T49 ls (k : Int) = leg ls k from rfl] at h0 h1; have HE := ak (show ends ls k = ((leg ls k).f0, (leg ls k).f1) from rfl); have HR := ak hr0; have HG := ak hg; have HS := ak hS; have hl0 := hgk.1; have hl1 := hgk.2.1; clear hr0 hg hS hgk; generalize leg ls (k : Int) = x at *; go_enter Tryd.func87, Tryd.ntmps87; go_wp2; have HB := ak (below_alloc (Below.refl w.heap.size w) (Obj.cells #[Value.pointer (some { block := g, off := 0 })] 51)); replace h0 := Sine.keepc h0 HB.out; replace h1 := Sine.keepc h1 HB.out; replace HS := ak (HS.out.keep HB.out); have hp0 : (w.alloc (Obj.cells #[Value.pointer (some { block := g, off := 0 })] 51)).cell? ⟨w.heap.size, 0, none⟩ = some (.pointer (some ⟨g, 0, none⟩)) := by go_simp
  have HP0 := ak hp0
  have HPP : Aside0 (x.f0 ∈ verts x.f1 (Bfs.run (ends ls) (fun j => decide (j ∈ legs (RR ls))) x.f1 ls.length 9 0 []) ∧
      (Bfs.back (Bfs.run (ends ls) (fun j => decide (j ∈ legs (RR ls))) x.f1 ls.length 9 0 []) x.f0).reverse = W (RR ls) x.f1 x.f0 ∧
      (trail (ends ls) x.f0 (Bfs.back (Bfs.run (ends ls) (fun j => decide (j ∈ legs (RR ls))) x.f1 ls.length 9 0 []) x.f0)).reverse = loopS ls k) := ⟨(by have := HP.out; rw [HE.out] at this; exact this)⟩
  have HLL : Aside0 (loopL ls k = W (RR ls) x.f1 x.f0 ++ [(k : Int)]) := ⟨(by unfold loopL; rw [HE.out])⟩; clear hp0 HP; generalize w.alloc (Obj.cells #[Value.pointer (some { block := g, off := 0 })] 51) = W1 at *
  go_region_held3 (fun w' => w'.cell? (w_1.add (k * 5)) = some (.int .i64 x.f0) ∧ w'.cell? { block := (w_1.add (k * 5)).block, off := (w_1.add (k * 5)).off + 1 } = some (.int .i64 x.f1))
    (exact ⟨Sine.keepc (w := W1) h0 qz16, Sine.keepc (w := W1) h1 qz16⟩)
    (first | (go_at_call 117; (with_reducible refine (pathTree _ c ls ⟨w.heap.size, 0, none⟩ (fun j => decide (j ∈ legs (RR ls))) x.f1 x.f0 _ ?s1 hc hn HG.out hl1 hl0 ?s2 _ rfl).mono ?_); (case s1 => exact Kd.C_below HR.out qz11); (case s2 => exact (by intro j W hj hb; exact loopUse j ⟨w.heap.size, 0, none⟩ W (Sine.keepc (w := W1) HP0.out (below_step qz16 hb)) (HS.out.keep (below_step qz16 hb)) hj)); rintro e w' hpost; unfold PathPost at hpost; rw [if_pos HPP.out.1] at hpost; obtain ⟨v1, v2, rfl, hv1, hv2, hw1⟩ := hpost))
  rw [HPP.out.2.1] at hv2; rw [HPP.out.2.2] at hv1; have hsz : w.heap.size ≤ W1.drew.heap.size := below_size (show Below w.heap.size w W1.drew from by (repeat (first | exact HB.out | exact Below.refl _ _ | apply below_alloc | apply pw_below_drewN | apply below_drew1)); done); have HV1 := ak (Kd.R_lower hv1 hsz); have HV2 := ak (Kd.R_lower hv2 hsz); replace HB := ak (below_step (show Below w.heap.size w W1.drew from by (repeat (first | exact HB.out | exact Below.refl _ _ | apply below_alloc | apply pw_below_drewN | apply below_drew1)); done) hw1); clear hv1 hv2 hw1 hsz; obtain ⟨lA, lC, el⟩ := Kd.R_slice HV2.out; subst el; have HLW := ak (show (W (RR ls) x.f1 x.f0).length ≤ 7 from by have := HLN.out; rw [HLL.out] at this; simp at this; omega)
  go_wp2_with ((with_reducible refine gate_builtin (b := .append) (xs := #[.tmp 29, .tmp 31]) rfl ?_); at_builtin; refine Kd.R_append (Kd.int .i64) (w0 := w) w.heap.size rfl (.tmp 29) (.tmp 31) 26 3 (.int .i64 0) 8 rfl Tryd.underlying26 info3 rfl (by decide) (by omega) (.slice lA (W (RR ls) x.f1 x.f0).length lC) (W (RR ls) x.f1 x.f0) (k : Int) [.int .i64 (k : Int)] (fun b => some b ≠ v1.ownBlock) (fun _ => False) rfl rfl ?aP (fun _ hk => hk.elim) ?aF ?aO ?aB ?aS ?aL ?_; (case aP => exact rfl); (case aF => exact (by intro b hb; exact Kd.fresh' (Kd.R_lt HV1.out) b hb)); (case aO => exact HV2.out); (case aB => exact HB.out); (case aS => exact below_size HB.out); (case aL => have := HLW.out; omega)
               intro v2_ w2_ ho hb hg hat; have HP1 := ak (Kd.R_after (ok := fun _ => True) (Kd.R_mono HV1.out (fun k hk => ⟨trivial, hk⟩)) hg hat); have HP2 := ak ho
               have HB6 := ak hb)
  go_ret2
  exact ⟨v1, v2_, rfl, Kd.R_mono HP1.out (fun _ _ => trivial), (by rw [HLL.out]; exact Kd.R_mono HP2.out (fun _ _ => trivial)), HB6.out⟩
def thruL (ls : L) (i : Int) (l : List Int) : List Int := l.filter (fun c => decide (i ∈ loopL ls c))
theorem thru_loop (ls : L) (hn : ls.length ≤ 12) (hg : ∀ x ∈ ls, Good x) (i : Int) : ∀ (d j : Nat) (out : List Int), j + d = (closeL ls).length → out.length ≤ j →
    Ev (fun k => spec_LoopsThrough.l0 k ls i out (closeL ls) (j : Int)) (out ++ thruL ls i ((closeL ls).drop j), true) := by
  have hcl := closeL_len ls; intro d
  induction d with
  | zero =>
    intro j out hj ho; rw [List.drop_eq_nil_of_le (by omega)]; refine Ev.step (f := fun _ => some (out, true)) (fun k => ?_) (by simp only [thruL, List.filter_nil, List.append_nil]; exact Ev.now _); simp only [spec_LoopsThrough.l0]; rw [if_neg (by omega)]
  | succ d ih =>
    intro j out hj ho; have hlt : j < (closeL ls).length := by omega
    have hm := List.getElem_mem hlt; have hle := loopL_len hg (closeL ls)[j]; rw [List.drop_eq_getElem_cons hlt]; refine Ev.step (f := fun k => (spec_l8Legs.f k ls (closeL ls)[j]).bind fun t794 => ((spec_l1Has.f k t794 i).bind fun t797 => (if t797 = true then (spec_LoopsThrough.l0 k ls i (out ++ [(closeL ls)[j]]) (closeL ls) ((j + 1 : Nat) : Int)) else (spec_LoopsThrough.l0 k ls i out (closeL ls) ((j + 1 : Nat) : Int))))) (fun k => ?_) ?_
    · simp only [spec_LoopsThrough.l0]
      rw [if_pos (by omega), if_pos (by omega), if_pos (by omega), rd_at _ j hlt, w64 (by omega) (by omega)]; rfl
    · refine Ev.bind (loop_ev hn hg hm) (Ev.bind (has_ev _ i (by omega)) ?_)
      by_cases h : i ∈ loopL ls (closeL ls)[j]
      · rw [decide_eq_true h]
        refine Ev.pos rfl ?_; have := ih (j + 1) (out ++ [(closeL ls)[j]]) (by omega) qz82; rw [List.append_assoc, List.singleton_append] at this
        have e : thruL ls i ((closeL ls)[j] :: (closeL ls).drop (j + 1)) = (closeL ls)[j] :: thruL ls i ((closeL ls).drop (j + 1)) := by
          unfold thruL; rw [List.filter_cons_of_pos qz127]
        rw [e]; exact this
      · rw [decide_eq_false h]
        refine Ev.neg (by simp) ?_
        have e : thruL ls i ((closeL ls)[j] :: (closeL ls).drop (j + 1)) = thruL ls i ((closeL ls).drop (j + 1)) := by
          unfold thruL; rw [List.filter_cons_of_neg qz127]
        rw [e]; exact ih (j + 1) out (by omega) (by omega)
theorem specThru_ev (ls : L) (i : Int) (hb : ls.length ≤ 140737488351232) : Ev (fun k => spec_LoopsThrough.f k ls i) (if legsB ls = true ∧ 0 ≤ i ∧ i < (ls.length : Int) then (thruL ls i (closeL ls), true) else ([], false)) := by
  have h4 := l4Legs_ev ls hb; unfold spec_LoopsThrough.f; simp only [Option.bind_some]
  have hin : spec_l1In.f i 0 (wrap64 ((ls.length : Int) - 1)) = some (decide (0 ≤ i ∧ i < (ls.length : Int))) := by
    rw [w64 (by omega) (by omega)]; unfold spec_l1In.f; by_cases h : i ≥ 0
    · rw [if_pos h]; congr 1; rw [decide_eq_decide]; omega
    · rw [if_neg h]; congr 1; symm; rw [decide_eq_false_iff_not]; omega
  cases hv : legsB ls
  · rw [if_neg (by simp)]
    rw [hv] at h4; refine Ev.bind h4 (Ev.neg (by simp) ?_); exact Ev.step (f := fun _ => some ([], false)) (fun k => by simp only [spec_LoopsThrough.j0, if_true]) (Ev.now _)
  · rw [hv] at h4
    refine Ev.bind h4 (Ev.pos rfl (Ev.bindc hin ?_)); have hv' := legsB_iff.mp hv; by_cases h : 0 ≤ i ∧ i < (ls.length : Int)
    · rw [decide_eq_true h, if_pos ⟨rfl, h⟩]
      refine Ev.step (f := fun k => (spec_l6Closing.f k ls).bind fun t790 => spec_LoopsThrough.l0 k ls i [] t790 0) (fun k => by simp only [spec_LoopsThrough.j0, Bool.not_true, Bool.false_eq_true, if_false]) ?_; refine Ev.bind (closing_ev ls hv'.2 hv'.1) ?_; exact thru_loop ls hv'.2 hv'.1 i _ 0 [] (Nat.zero_add _) (by simp)
    · rw [decide_eq_false h, if_neg (fun e => h e.2)]
      exact Ev.step (f := fun _ => some ([], false)) (fun k => by simp only [spec_LoopsThrough.j0, Bool.not_false, if_true]) (Ev.now _)
end Go.Proofs.YtcafgpincnkcdaaDoor.Net
namespace Go.Proofs.YtcafgpincnkcdaaDoor.A
open Go.RowKit YtcafgpincnkcdaaDoorW.PrintWords YtcafgpincnkcdaaDoorW.PrintLast YtcafgpincnkcdaaDoorW.PrintMore
open Net
def impl_LoopsThrough.f (l0 : List (S49)) (a1 : Int) : Option (List Int × Bool) := if l0.length ≤ 140737488351232 then some (if legsB l0 = true ∧ 0 ≤ a1 ∧ a1 < (l0.length : Int) then (thruL l0 a1 (closeL l0), true) else ([], false)) else none
theorem impl_LoopsThrough.calls (A0 : Option Addr) (c : Nat) (ls : List (S49)) (a1 : Int) (r1 : List Int) (r2 : Bool) (w : World) (hr0 : Kd.C k49 w A0 ls.length ls) (hc : ls.length ≤ c) (h : impl_LoopsThrough.f ls a1 = some (r1, r2)) (hL : Sine.Laid w) :
    Calls Tryd.prog 39 #[.slice A0 ls.length c, .int .i64 a1] w fun e w' => ∃ v0_ : Value, e = .returned (.tuple #[v0_, .bool r2]) ∧ Kd.R (Kd.int .i64) 3 w' w.heap.size (fun _ => True) v0_ r1 ∧ Below w.heap.size w w' := by
  unfold impl_LoopsThrough.f at h; by_cases hb : ls.length ≤ 140737488351232
  · rw [if_pos hb] at h
    obtain ⟨K, hK⟩ := areLegs_ev ls hb; have HA := ak (hK K (Nat.le_refl _)); have HR := ak hr0; have HL := ak hL; have HB := ak (Below.refl w.heap.size w); clear hK hr0 hL; cases hv : legsB ls
    · rw [if_neg (by rw [hv]; simp)] at h
      simp only [Option.some.injEq, Prod.mk.injEq] at h; obtain ⟨rfl, rfl⟩ := h; rw [hv] at HA; clear hv; go_enter Tryd.func39, Tryd.ntmps39; go_wp2_with (go_at_call 62; (with_reducible refine (impl_areLegs.calls K _ _ ls false _ ?s1 ?s2 HA.out).mono ?_); (case s1 => exact Kd.C_below HR.out qz11); (case s2 => exact hc); rintro e w' ⟨rfl, hw⟩; replace HB := ak (below_step (show Below w.heap.size w _ from by (repeat (first | exact HB.out | exact Below.refl _ _ | apply below_alloc | apply pw_below_drewN | apply below_drew1)); done) hw); clear hw); exact bodyPost_ret (v := .tuple #[.slice none 0 0, .bool false]) (by simp [results, Tryd.results39, go_sem]) rfl ⟨_, rfl, Kd.R_nil _ _ _ _ _, qz103⟩
    · rw [hv] at HA
      by_cases hm : 0 ≤ a1 ∧ a1 < (ls.length : Int)
      · rw [if_pos ⟨hv, hm⟩] at h
        simp only [Option.some.injEq, Prod.mk.injEq] at h; obtain ⟨rfl, rfl⟩ := h; have hv' := legsB_iff.mp hv; have HG := ak hv'.1; have hn := hv'.2; have HCL := ak (Nat.le_trans (closeL_len ls) hn); have HW : Aside0 (impl_within.f a1 0 ((ls.length : Int) - 1) = some true) := ⟨(by rw [within_eq, decide_eq_true (by omega)])⟩; have HMem : Aside0 (∀ j : Nat, (hj : j < (closeL ls).length) → (closeL ls)[j] ∈ closeL ls) := ⟨fun j hj => List.getElem_mem hj⟩; clear hv hv' hm; go_enter Tryd.func39, Tryd.ntmps39
        go_wp2_with (first
          | (go_at_call 62; (with_reducible refine (impl_areLegs.calls K _ _ ls true _ ?s1 ?s2 HA.out).mono ?_); (case s1 => exact Kd.C_below HR.out qz11); (case s2 => exact hc); rintro e w' ⟨rfl, hw⟩; replace HB := ak (below_step (show Below w.heap.size w _ from by (repeat (first | exact HB.out | exact Below.refl _ _ | apply below_alloc | apply pw_below_drewN | apply below_drew1)); done) hw); clear hw)
          | (go_at_call 71; (with_reducible refine (impl_within.calls _ _ _ _ _ HW.out).mono ?_); rintro e w' ⟨rfl, ⟨nd, rfl⟩⟩; replace HB := ak (pw_below_drewN HB.out nd))
          | ((go_at_call 63; (with_reducible refine (place _ c ls _ ?s1 ?s2 hc hn HG.out (RR ls) rfl).mono ?_); (case s1 => exact HL.out.keep qz11); (case s2 => exact Kd.C_below HR.out qz11); rintro e w' ⟨g, T, cl, rfl, hst, ho, hw⟩; have HO : Aside0 (Kd.R (Kd.int .i64) 3 w' w.heap.size (fun k => k ≠ g ∧ k ≠ T) cl (closeL ls)) := ⟨Kd.R_lower ho (below_size (show Below w.heap.size w _ from by (repeat (first | exact HB.out | exact Below.refl _ _ | apply below_alloc | apply pw_below_drewN | apply below_drew1)); done))⟩; replace HB := ak (below_step (show Below w.heap.size w _ from by (repeat (first | exact HB.out | exact Below.refl _ _ | apply below_alloc | apply pw_below_drewN | apply below_drew1)); done) hw); have HS := ak hst; clear hst ho hw; obtain ⟨cA, cC, ecl⟩ := Kd.R_slice HO.out; subst ecl); have cc := HS.out.cc))
        have hown : ∀ k, Value.ownBlock (Value.slice none 0 0) = some k → False := by intro k hk; simp [Value.ownBlock] at hk
        go_loopw [7, 30] (fun v7 v30 w' => ∃ (j : Nat), j ≤ (closeL ls).length ∧ v30 = .int .i64 j ∧ Aside0 (Kd.R (Kd.int .i64) 3 w' w.heap.size (fun k => k ≠ g ∧ k ≠ T ∧ some k ≠ (Value.slice cA (closeL ls).length cC).ownBlock) v7 (thruL ls a1 ((closeL ls).take j))) ∧ Aside0 (Kd.R (Kd.int .i64) 3 w' w.heap.size (fun k => (k ≠ g ∧ k ≠ T) ∧ some k ≠ v7.ownBlock) (.slice cA (closeL ls).length cC) (closeL ls)) ∧ Aside0 (St ls.length T g (Pq (RR ls)) (Xq ls (RR ls)) (Bq (RR ls)) (.slice cA (closeL ls).length cC) w') ∧ Aside0 (Below w.heap.size w w')) (fun _ v30 _ => (closeL ls).length - (intOf v30).toNat)
        case atStart => exact ⟨0, Nat.zero_le _, rfl, ⟨(by rw [List.take_zero]; exact Kd.R_nil _ _ _ _ _)⟩, ⟨Kd.R_mono HO.out (fun k hk => ⟨hk, fun e => hown k e.symm⟩)⟩, HS, HB⟩
        case round =>
          obtain ⟨j, hj, rfl, HV, HC, HS2, HB2⟩ := hrel; clear HO HS HB cc hown; have HO := HC; have HS := HS2; have HB := HB2; clear HC HS2 HB2; obtain ⟨vA, vC, ev⟩ := Kd.R_slice HV.out; subst ev; by_cases hlt : j < (closeL ls).length
          · obtain ⟨ad, e1, h1⟩ := Kd.at_int (Kd.R_reads' HO.out).2.2 (j : Int) (by omega) (by omega)
            subst e1; rw [rd_at _ j hlt, Int.toNat_natCast] at h1; have HM := HMem.out j hlt; have HLN := ak (loopL_len HG.out (closeL ls)[j])
            have HE : Aside0 (thruL ls a1 ((closeL ls).take (j + 1)) = if a1 ∈ loopL ls (closeL ls)[j] then thruL ls a1 ((closeL ls).take j) ++ [(closeL ls)[j]] else thruL ls a1 ((closeL ls).take j)) := ⟨by
              rw [List.take_succ_eq_append_getElem hlt]; unfold thruL; rw [List.filter_append]; split
              · rename_i h; rw [List.filter_cons_of_pos qz127, List.filter_nil]
              · rename_i h; rw [List.filter_cons_of_neg qz127, List.filter_nil, List.append_nil]⟩
            have HTL : Aside0 ((thruL ls a1 ((closeL ls).take j)).length ≤ 12) := ⟨by
              unfold thruL
              exact Nat.le_trans (List.length_filter_le _ _) (by rw [List.length_take]; have := HCL.out; omega)⟩
            generalize (closeL ls)[j] = ci at *; by_cases hin : a1 ∈ loopL ls ci
            · rw [if_pos hin] at HE
              have HH := ak (hasI_at (loopL ls ci) a1 (by have := HLN.out; omega) 20 (by have := HLN.out; omega)); rw [decide_eq_true hin] at HH; clear hin; have hcl := HCL.out
              go_wp2_with (first
                | (go_at_call 87; have hq := netLoop _ c ls ci _ _ _ _ (HS.out.keep (by repeat (first | exact Below.refl _ _ | apply pw_below_drewN | apply below_drew1))) (Kd.C_below HR.out qz11) hc hn HG.out HM; (with_reducible refine hq.mono ?_); clear hq; rintro e w' ⟨v1, v2, rfl, hv1, hv2, hw⟩; have hbw := below_step (show Below wr.heap.size wr _ from by repeat (first | exact Below.refl _ _ | apply pw_below_drewN | apply below_drew1)) hw; replace HV := ak (Kd.R_below HV.out hbw); replace HO := ak (Kd.R_below HO.out hbw); replace HS := ak (HS.out.keep hbw); replace HB := ak (below_step HB.out hbw); have HV2 := ak hv2; clear hbw hw hv1 hv2; obtain ⟨lA, lC, el⟩ := Kd.R_slice HV2.out; subst el)
                | (go_at_call 88; (with_reducible refine (impl_has.calls 20 _ _ (loopL ls ci) a1 _ _ ?s1 ?s2 HH.out).mono ?_); (case s1 => exact (Kd.R_reads' HV2.out).2.2); (case s2 => exact (Kd.R_reads' HV2.out).2.1); rintro e w3 ⟨rfl, ⟨nd, ed⟩⟩; replace HV := ak (Kd.R_drewN HV.out nd); replace HO := ak (Kd.R_drewN HO.out nd); replace HS := ak (HS.out.keep (pw_below_drewN (Below.refl _ _) nd)); replace HB := ak (pw_below_drewN HB.out nd); rw [← ed] at HV HO HS HB; clear ed; have hgs : g < w3.heap.size := World.block_lt_of_cell? _ _ HS.out.cc; have hTs := HS.out.ge)
                | ((with_reducible refine gate_builtin (b := .append) (xs := #[.tmp 44, .tmp 46]) rfl ?_); at_builtin; refine Kd.R_append (Kd.int .i64) (w0 := w) w.heap.size rfl (.tmp 44) (.tmp 46) 26 3 (.int .i64 0) 8 rfl Tryd.underlying26 info3 rfl (by decide) (by omega) (.slice vA (thruL ls a1 ((closeL ls).take j)).length vC) (thruL ls a1 ((closeL ls).take j)) ci [.int .i64 ci] (fun k => k ≠ g ∧ k ≠ T ∧ some k ≠ (Value.slice (some ad) (closeL ls).length cC).ownBlock) (fun _ => False) rfl rfl ?aP (fun _ hk => hk.elim) ?aF ?aO ?aB ?aS ?aL ?_; (case aP => exact rfl); (case aF => exact (by intro b hb; exact ⟨by omega, by omega, Kd.fresh' (Kd.R_lt HO.out) b hb⟩)); (case aO => exact HV.out); (case aB => exact HB.out); (case aS => exact below_size HB.out); (case aL => have := HTL.out; omega)
                   intro v7_ w7_ ho hb hg hat; have HP1 := ak (Kd.R_after (ok := fun k => k ≠ g ∧ k ≠ T) HO.out hg hat); have HP2 := ak ho; have HP3 := ak hb
                   have HP4 := ak (HS.out.blocks (hg.block g hgs (fun e => (HV.out.1 _ e.symm).1 rfl)) (hg.block T hTs (fun e => (HV.out.1 _ e.symm).2.1 rfl)) hg.size)))
              exact ⟨⟨j + 1, hlt, by go_num, (by rw [HE.out]; exact HP2), HP1, HP4, HP3⟩, qz69⟩
            · rw [if_neg hin] at HE
              have HH := ak (hasI_at (loopL ls ci) a1 (by have := HLN.out; omega) 20 (by have := HLN.out; omega)); rw [decide_eq_false hin] at HH; clear hin; have hcl := HCL.out
              go_wp2_with (first
                | (go_at_call 87; have hq := netLoop _ c ls ci _ _ _ _ (HS.out.keep (by repeat (first | exact Below.refl _ _ | apply pw_below_drewN | apply below_drew1))) (Kd.C_below HR.out qz11) hc hn HG.out HM; (with_reducible refine hq.mono ?_); clear hq; rintro e w' ⟨v1, v2, rfl, hv1, hv2, hw⟩; have hbw := below_step (show Below wr.heap.size wr _ from by repeat (first | exact Below.refl _ _ | apply pw_below_drewN | apply below_drew1)) hw; replace HV := ak (Kd.R_below HV.out hbw); replace HO := ak (Kd.R_below HO.out hbw); replace HS := ak (HS.out.keep hbw); replace HB := ak (below_step HB.out hbw); have HV2 := ak hv2; clear hbw hw hv1 hv2; obtain ⟨lA, lC, el⟩ := Kd.R_slice HV2.out; subst el)
                | (go_at_call 88; (with_reducible refine (impl_has.calls 20 _ _ (loopL ls ci) a1 _ _ ?s1 ?s2 HH.out).mono ?_); (case s1 => exact (Kd.R_reads' HV2.out).2.2); (case s2 => exact (Kd.R_reads' HV2.out).2.1); rintro e w3 ⟨rfl, ⟨nd, ed⟩⟩; replace HV := ak (Kd.R_drewN HV.out nd); replace HO := ak (Kd.R_drewN HO.out nd); replace HS := ak (HS.out.keep (pw_below_drewN (Below.refl _ _) nd)); replace HB := ak (pw_below_drewN HB.out nd); rw [← ed] at HV HO HS HB; clear ed; have hgs : g < w3.heap.size := World.block_lt_of_cell? _ _ HS.out.cc; have hTs := HS.out.ge))
              exact ⟨⟨j + 1, hlt, by go_num, (by rw [HE.out]; exact HV), HO, HS, HB⟩, qz69⟩
          · go_wp2
            obtain rfl : j = (closeL ls).length := by omega
            rw [List.take_length] at HV; exact bodyPost_ret (v := .tuple #[.slice vA _ vC, .bool true]) (by simp [results, Tryd.results39, go_sem]) rfl ⟨_, rfl, Kd.R_mono HV.out (fun _ _ => trivial), HB.out⟩
      · rw [if_neg (by rintro ⟨_, h⟩; exact hm h)] at h
        simp only [Option.some.injEq, Prod.mk.injEq] at h; obtain ⟨rfl, rfl⟩ := h; have HW : Aside0 (impl_within.f a1 0 ((ls.length : Int) - 1) = some false) := ⟨(by rw [within_eq, decide_eq_false (by omega)])⟩; clear hv; go_enter Tryd.func39, Tryd.ntmps39
        go_wp2_with (first
          | (go_at_call 62; (with_reducible refine (impl_areLegs.calls K _ _ ls true _ ?s1 ?s2 HA.out).mono ?_); (case s1 => exact Kd.C_below HR.out qz11); (case s2 => exact hc); rintro e w' ⟨rfl, hw⟩; replace HB := ak (below_step (show Below w.heap.size w _ from by (repeat (first | exact HB.out | exact Below.refl _ _ | apply below_alloc | apply pw_below_drewN | apply below_drew1)); done) hw); clear hw)
          | (go_at_call 71; (with_reducible refine (impl_within.calls _ _ _ _ _ HW.out).mono ?_); rintro e w' ⟨rfl, ⟨nd, rfl⟩⟩; replace HB := ak (pw_below_drewN HB.out nd)))
        exact bodyPost_ret (v := .tuple #[.slice none 0 0, .bool false]) (by simp [results, Tryd.results39, go_sem]) rfl ⟨_, rfl, Kd.R_nil _ _ _ _ _, qz103⟩
  · rw [if_neg hb] at h
    cases h
end Go.Proofs.YtcafgpincnkcdaaDoor.A
namespace Go.Proofs.YtcafgpincnkcdaaDoor.Net
open Go Go.Maps Go.WideElems Go.ChangeShapes Go.RowKit YtcafgpincnkcdaaDoorW.PrintWords YtcafgpincnkcdaaDoorW.PrintLast YtcafgpincnkcdaaDoorW.PrintMore A Plain
open Tree (verts legs W)
open Grow (Q)
theorem pathBridge (A : Option Addr) (c : Nat) (ls : L) (p0 : Addr) (use : Int → Bool) (r dst : Int) (w : World) (hr0 : Kd.C k49 w A ls.length ls) (hc : ls.length ≤ c) (hn : ls.length ≤ 12) (hg : ∀ x ∈ ls, Good x) (hr : 0 ≤ r ∧ r < 8) (hd : 0 ≤ dst ∧ dst < 8)
    (HU : ∀ (i : Nat) (W : World), i < ls.length → Below w.heap.size w W → Calls Tryd.prog 118 #[.int .i64 (i : Int), .pointer (some p0)] W fun e W' => e = .returned (.bool (use i)) ∧ W' = W) (R : Q) (hR : Bfs.run (ends ls) use r ls.length 9 0 [] = R) :
    Calls Tryd.prog 117 #[.slice A ls.length c, .func (Fn.func 118) #[] #[.pointer (some p0)], .int .i64 r, .int .i64 dst] w (PathPost (ends ls) r dst R w) := by
  have HR := ak hr0; have HG := ak hg; have HU' := ak HU; have HB := ak (Below.refl w.heap.size w); obtain ⟨w1, hrun, hmap, hbel, hsz⟩ := MapAt.new w r hr.1 (by omega); have hmk := run_makeMap (P := Tryd.prog) 103 w; have HM := ak hmap; have HB1 := ak hbel; have HI := ak (show OutInv ls use r R 0 [] from ⟨Bfs.Ok.nil _ _ _ _, by simp, 9, hR, by omega⟩); clear hr0 hg HU hmap hbel hR; go_enter Tryd.func117, Tryd.ntmps117; go_wp2; have HO := ak (R_lits [r] w1 w.heap.size (fun b => b ≠ w.heap.size) (by omega) (by omega) (by simp)); replace HM := ak (HM.out.below (below_alloc (Below.refl w1.heap.size w1) (Obj.cells #[Value.int IntKind.i64 r] 3))); replace HB1 := ak (below_alloc HB1.out (Obj.cells #[Value.int IntKind.i64 r] 3)); rw [show ([r].map (Value.int .i64)).toArray = #[Value.int IntKind.i64 r] from rfl] at HO; clear hmk hrun hsz HB
  go_loopw [12, 13] (fun v12 v13 w' => ∃ (k : Nat) (q : Q), v13 = .int .i64 k ∧ Aside0 (OutInv ls use r R k q) ∧ Aside0 (Kd.R (Kd.int .i64) 3 w' w.heap.size (fun b => b ≠ w.heap.size) v12 (Bfs.queue r q)) ∧ Aside0 (MapAt w' w.heap.size (q.length + 1) (bef r q)) ∧ Aside0 (Below w.heap.size w w')) (fun _ v13 _ => 9 - (intOf v13).toNat)
  case atStart => exact ⟨0, [], rfl, HI, HO, HM, HB1⟩
  case round =>
    obtain ⟨k, q, rfl, HI2, HO2, HM2, HB⟩ := hrel; clear HI HO HM HB1; obtain ⟨qA, qC, eq_⟩ := Kd.R_slice HO2.out; subst eq_; have HQL := ak (Bfs.queue_len r q); have HQ7 := ak (HI2.out.1.len (ends ls) use r hr (Good.range HG.out)); by_cases hk : k < (Bfs.queue r q).length
    · have hkI : (k : Int) < ((Bfs.queue r q).length : Int) := by omega
      have HK := ak hk; obtain ⟨a, hqa⟩ : ∃ a, a = (Bfs.queue r q).getD k 0 := ⟨_, rfl⟩
      have HQA := ak hqa
      have HAV : Aside0 (a ∈ verts r q) := ⟨by
        rw [hqa, ← Bfs.mem_queue, List.getD_eq_getElem?_getD, List.getElem?_eq_getElem hk]
        exact List.getElem_mem hk⟩
      have HA8 : Aside0 (0 ≤ a ∧ a < 8) := ⟨okRange HI2.out.1 hr (Good.range HG.out) a HAV.out⟩; have HIn := ak (show InInv ls use r a q 0 q from ⟨HI2.out.1, Bfs.Ext.refl q, rfl⟩); clear hk hqa; go_wp2
      go_loopw [12, 38] (fun v12 v38 w' => ∃ (i : Nat) (p : Q), v38 = .int .i64 i ∧ i ≤ ls.length ∧ Aside0 (InInv ls use r a q i p) ∧ Aside0 (Kd.R (Kd.int .i64) 3 w' w.heap.size (fun b => b ≠ w.heap.size) v12 (Bfs.queue r p)) ∧ Aside0 (MapAt w' w.heap.size (p.length + 1) (bef r p)) ∧ Aside0 (Below w.heap.size w w')) (fun _ v38 _ => ls.length - (intOf v38).toNat)
      case atStart => exact ⟨0, q, rfl, Nat.zero_le _, HIn, HO2, HM2, HB⟩
      case round =>
        obtain ⟨i, p, rfl, hi, HJ, HO, HM, HB2⟩ := hrel; clear HIn HO2 HM2 HB; have HB := HB2; clear HB2; obtain ⟨qA2, qC2, eq_⟩ := Kd.R_slice HO.out; subst eq_; by_cases hlt : i < ls.length
        · obtain ⟨_, e2, h0, h1, h2, h3, h4⟩ := at_T49 HR.out (i : Int) (by omega) (by omega)
          cases e2; have HX : Aside0 (Good (leg ls (i : Int))) := ⟨leg_good HG.out i hlt⟩; have HE := ak (show ends ls i = ((leg ls i).f0, (leg ls i).f1) from rfl); rw [Int.toNat_natCast, show rd_T49 ls (i : Int) = leg ls i from rfl] at h0 h1 h2 h3 h4
          have qk : ∃ ad, qA2 = some ad ∧ wr.cell? (ad.add k) = some (.int .i64 a) := by
            obtain ⟨t, ht⟩ := HJ.out.2.1.queue r; obtain ⟨ad, h1, h2⟩ := Kd.at_int (Kd.R_reads' HO.out).2.2 (k : Int) (by omega) (by rw [ht, List.length_append]; have := HK.out; omega); refine ⟨ad, h1, ?_⟩; rw [Int.toNat_natCast] at h2; rw [h2]; show some (Value.int .i64 ((Bfs.queue r p).getD (k : Int).toNat 0)) = _; rw [Int.toNat_natCast, HQA.out, ← HJ.out.2.1.queue_getD r HK.out]
          obtain ⟨qad, eqa, qk⟩ := qk; subst eqa
          have hkI2 : (k : Int) < ((Bfs.queue r p).length : Int) := by
            obtain ⟨t, ht⟩ := HJ.out.2.1.queue r; rw [ht, List.length_append]; have := HK.out; omega
          have hkI0 : (0 : Int) ≤ (k : Int) := by omega
          generalize leg ls (i : Int) = x at *; replace h0 := Sine.keepc h0 HB.out; replace h1 := Sine.keepc h1 HB.out; replace h2 := Sine.keepc h2 HB.out; replace h3 := Sine.keepc h3 HB.out; replace h4 := Sine.keepc h4 HB.out; go_wp2; have B1 := below_alloc (Below.refl wr.heap.size wr) (Obj.cells #[Value.int IntKind.i64 x.f0, Value.int IntKind.i64 x.f1, Value.int IntKind.i64 x.f2, Value.int IntKind.i64 x.f3, Value.int IntKind.i64 x.f4] 49); replace HB := ak (below_step HB.out B1); replace HM := ak (HM.out.below B1); replace HO := ak (Kd.R_alloc HO.out (Obj.cells #[Value.int IntKind.i64 x.f0, Value.int IntKind.i64 x.f1, Value.int IntKind.i64 x.f2, Value.int IntKind.i64 x.f3, Value.int IntKind.i64 x.f4] 49)); replace qk := Sine.keepc qk B1; clear B1 h0 h1 h2 h3 h4; have h0 : (wr.alloc (Obj.cells #[Value.int IntKind.i64 x.f0, Value.int IntKind.i64 x.f1, Value.int IntKind.i64 x.f2, Value.int IntKind.i64 x.f3, Value.int IntKind.i64 x.f4] 49)).cell? ⟨wr.heap.size, 0, none⟩ = some (.int .i64 x.f0) := by go_simp
          have h1 : (wr.alloc (Obj.cells #[Value.int IntKind.i64 x.f0, Value.int IntKind.i64 x.f1, Value.int IntKind.i64 x.f2, Value.int IntKind.i64 x.f3, Value.int IntKind.i64 x.f4] 49)).cell? ⟨wr.heap.size, 1, none⟩ = some (.int .i64 x.f1) := by go_simp
          generalize wr.alloc (Obj.cells #[Value.int IntKind.i64 x.f0, Value.int IntKind.i64 x.f1, Value.int IntKind.i64 x.f2, Value.int IntKind.i64 x.f3, Value.int IntKind.i64 x.f4] 49) = W1 at *; generalize wr.heap.size = X at *; have w0 : wrap64 (x.f0 + x.f1) = x.f0 + x.f1 := by have := HX.out; have a1 := this.1; have a2 := this.2.1; unfold wrap64; omega
          have w2 : wrap64 (x.f0 + x.f1 - a) = x.f0 + x.f1 - a := by have := HX.out; have a1 := this.1; have a2 := this.2.1; have a3 := HA8.out; unfold wrap64; omega
          have na8 := HA8.out; have nx0 := HX.out.1; have nx1 := HX.out.2.1; by_cases c1 : x.f0 = a
          · have v0 : wrap64 (a + x.f1) = a + x.f1 := by rw [← c1]; exact w0
            have v1 : wrap64 (a + x.f1 - a) = x.f1 := by unfold wrap64; omega
            have v2 : a + x.f1 - a = x.f1 := by omega
            go_quiet (fail)
            go_wp2; have BD := pw_below_drewN (Below.refl W1.heap.size W1) nq; replace HB := ak (below_step HB.out BD); replace HM := ak (HM.out.below BD); replace HO := ak (Kd.R_drewN HO.out nq); replace h0 := Sine.keepc h0 BD; replace h1 := Sine.keepc h1 BD; replace qk := Sine.keepc qk BD; clear BD; generalize W1.drewN nq = W2 at *; cases hu : use (i : Int)
            · have HUi := fun W hb => HU'.out i W hlt hb
              rw [hu] at HUi; replace HUi := ak HUi
              go_quiet (first | (go_at_call 118; refine (HUi.out _ qz11).mono ?_; rintro e w' ⟨rfl, rfl⟩; exact ⟨rfl, _, rfl⟩))
              go_wp2; exact ⟨⟨i + 1, p, by go_num, by omega, ⟨HJ.out.skip hlt (Or.inr hu)⟩, ⟨Kd.R_drewN HO.out _⟩, ⟨HM.out.below (pw_below_drewN (Below.refl _ _) _)⟩, ⟨pw_below_drewN HB.out _⟩⟩, qz69⟩
            · have HUi := fun W hb => HU'.out i W hlt hb
              rw [hu] at HUi; replace HUi := ak HUi
              go_quiet (first | (go_at_call 118; refine (HUi.out _ qz11).mono ?_; rintro e w' ⟨rfl, rfl⟩; exact ⟨rfl, _, rfl⟩))
              have BD := pw_below_drewN (Below.refl W2.heap.size W2) nq; replace HB := ak (below_step HB.out BD); replace HM := ak (HM.out.below BD); replace HO := ak (Kd.R_drewN HO.out nq); replace h0 := Sine.keepc h0 BD; replace h1 := Sine.keepc h1 BD; replace qk := Sine.keepc qk BD; clear BD; generalize W2.drewN nq = W3 at *; have hlk := (HM.out.look x.f1 (by omega) (by omega)).1; have hmem := bef_some (r := r) (q := p) x.f1; have HSTEP := ak (HJ.out.next hlt HAV.out); have hot : Bfs.other (ends ls) i a = x.f1 := by unfold Bfs.other; rw [HE.out]; simp only; omega
              have hnsk : ¬ (((ends ls i).1 ≠ a ∧ (ends ls i).2 ≠ a) ∨ use i = false) := by
                rw [HE.out, hu]; rintro (⟨d1, d2⟩ | d1)
                · first | exact d1 c1 | exact d2 c2
                · cases d1
              by_cases hin : x.f1 ∈ verts r p
              · rw [decide_eq_true hin] at hmem
                have hlook : Bfs.look (ends ls) use r a p i = p := by unfold Bfs.look; rw [if_neg hnsk, hot, if_pos hin]
                rw [hmem] at hlk; rw [hlook] at HSTEP; clear hmem hot hnsk hlook hin; go_wp2; exact ⟨⟨i + 1, p, by go_num, by omega, HSTEP, HO, HM, HB⟩, qz69⟩
              · rw [decide_eq_false hin] at hmem
                have hlook : Bfs.look (ends ls) use r a p i = ((i : Int), a, x.f1) :: p := by unfold Bfs.look; rw [if_neg hnsk, hot, if_neg hin]
                rw [hmem] at hlk; rw [hlook] at HSTEP; have HP7 := ak (HJ.out.1.len (ends ls) use r hr (Good.range HG.out)); obtain ⟨W4, hst, hm4, hg4⟩ := HM.out.store (by have := HP7.out; omega) x.f1 (i : Int) (by omega) (by omega) (by omega) (by omega); have HM4 := ak hm4; have HG4 := ak hg4; have HNE := ak (show x.f1 ≠ r from fun e => hin qz132); have HBM : Aside0 (bef r (((i : Int), a, x.f1) :: p) = fun y => if y = x.f1 then some (i : Int) else bef r p y) := ⟨qz129⟩; have HQQ : Aside0 (Bfs.queue r (((i : Int), a, x.f1) :: p) = Bfs.queue r p ++ [x.f1]) := ⟨(by simp [Bfs.queue])⟩; have HMB : Aside0 (w.heap.size < W3.heap.size) := ⟨HM.out.lt⟩; have HO4 : Aside0 (Kd.R (Kd.int .i64) 3 W4 w.heap.size (fun b => b ≠ w.heap.size) (.slice (some qad) (Bfs.queue r p).length qC2) (Bfs.queue r p)) := ⟨R_blocks HO.out hg4.size (fun b hb hl => hg4.block b hl (fun e => by injection e with e; exact hb e))⟩; have HB4 : Aside0 (Below w.heap.size w W4) := ⟨HB.out.grown hg4 (by have := HMB.out; omega) (fun b e => by injection e with e; omega)⟩; clear hmem hot hnsk hlook hin hm4 hg4; go_wp2_with ((with_reducible refine gate_builtin (b := .append) (xs := #[.tmp 86, .tmp 88]) rfl ?_); at_builtin; refine Kd.R_append (Kd.int .i64) (w0 := w) w.heap.size rfl (.tmp 86) (.tmp 88) 26 3 (.int .i64 0) 8 rfl Tryd.underlying26 info3 rfl (by decide) (by omega) (.slice (some qad) (Bfs.queue r p).length qC2) (Bfs.queue r p) x.f1 [.int .i64 x.f1] (fun b => b ≠ w.heap.size) (fun _ => False) rfl rfl ?aP (fun _ hk => hk.elim) ?aF ?aO ?aB ?aS ?aL ?_; (case aP => exact rfl); (case aF => exact qz126); (case aO => exact HO4.out); (case aB => exact HB4.out); (case aS => have := HM4.out.lt; omega); (case aL => exact qz122); intro v1 w1' ho hb hg hat; rw [← HQQ.out] at ho; have HO5 := ak ho; have HB5 := ak hb; have HM5 : Aside0 (MapAt w1' w.heap.size (p.length + 1 + 1) (bef r (((i : Int), a, x.f1) :: p))) := ⟨qz109⟩; clear ho hb hg hat); exact ⟨⟨i + 1, ((i : Int), a, x.f1) :: p, by go_num, by omega, HSTEP, HO5, HM5, HB5⟩, qz69⟩
          · by_cases c2 : x.f1 = a
            · have v0 : wrap64 (x.f0 + a) = x.f0 + a := by rw [← c2]; exact w0
              have v1 : wrap64 x.f0 = x.f0 := by unfold wrap64; omega
              go_quiet (fail)
              go_wp2; have BD := pw_below_drewN (Below.refl W1.heap.size W1) nq; replace HB := ak (below_step HB.out BD); replace HM := ak (HM.out.below BD); replace HO := ak (Kd.R_drewN HO.out nq); replace h0 := Sine.keepc h0 BD; replace h1 := Sine.keepc h1 BD; replace qk := Sine.keepc qk BD; clear BD; generalize W1.drewN nq = W2 at *; cases hu : use (i : Int)
              · have HUi := fun W hb => HU'.out i W hlt hb
                rw [hu] at HUi; replace HUi := ak HUi
                go_quiet (first | (go_at_call 118; refine (HUi.out _ qz11).mono ?_; rintro e w' ⟨rfl, rfl⟩; exact ⟨rfl, _, rfl⟩))
                go_wp2; exact ⟨⟨i + 1, p, by go_num, by omega, ⟨HJ.out.skip hlt (Or.inr hu)⟩, ⟨Kd.R_drewN HO.out _⟩, ⟨HM.out.below (pw_below_drewN (Below.refl _ _) _)⟩, ⟨pw_below_drewN HB.out _⟩⟩, qz69⟩
              · have HUi := fun W hb => HU'.out i W hlt hb
                rw [hu] at HUi; replace HUi := ak HUi
                go_quiet (first | (go_at_call 118; refine (HUi.out _ qz11).mono ?_; rintro e w' ⟨rfl, rfl⟩; exact ⟨rfl, _, rfl⟩))
                have BD := pw_below_drewN (Below.refl W2.heap.size W2) nq; replace HB := ak (below_step HB.out BD); replace HM := ak (HM.out.below BD); replace HO := ak (Kd.R_drewN HO.out nq); replace h0 := Sine.keepc h0 BD; replace h1 := Sine.keepc h1 BD; replace qk := Sine.keepc qk BD; clear BD; generalize W2.drewN nq = W3 at *; have hlk := (HM.out.look x.f0 (by omega) (by omega)).1; have hmem := bef_some (r := r) (q := p) x.f0; have HSTEP := ak (HJ.out.next hlt HAV.out); have hot : Bfs.other (ends ls) i a = x.f0 := by unfold Bfs.other; rw [HE.out]; simp only; omega
                have hnsk : ¬ (((ends ls i).1 ≠ a ∧ (ends ls i).2 ≠ a) ∨ use i = false) := by
                  rw [HE.out, hu]; rintro (⟨d1, d2⟩ | d1)
                  · first | exact d1 c1 | exact d2 c2
                  · cases d1
                by_cases hin : x.f0 ∈ verts r p
                · rw [decide_eq_true hin] at hmem
                  have hlook : Bfs.look (ends ls) use r a p i = p := by unfold Bfs.look; rw [if_neg hnsk, hot, if_pos hin]
                  rw [hmem] at hlk; rw [hlook] at HSTEP; clear hmem hot hnsk hlook hin; go_wp2; exact ⟨⟨i + 1, p, by go_num, by omega, HSTEP, HO, HM, HB⟩, qz69⟩
                · rw [decide_eq_false hin] at hmem
                  have hlook : Bfs.look (ends ls) use r a p i = ((i : Int), a, x.f0) :: p := by unfold Bfs.look; rw [if_neg hnsk, hot, if_neg hin]
                  rw [hmem] at hlk; rw [hlook] at HSTEP; have HP7 := ak (HJ.out.1.len (ends ls) use r hr (Good.range HG.out)); obtain ⟨W4, hst, hm4, hg4⟩ := HM.out.store (by have := HP7.out; omega) x.f0 (i : Int) (by omega) (by omega) (by omega) (by omega); have HM4 := ak hm4; have HG4 := ak hg4; have HNE := ak (show x.f0 ≠ r from fun e => hin qz132); have HBM : Aside0 (bef r (((i : Int), a, x.f0) :: p) = fun y => if y = x.f0 then some (i : Int) else bef r p y) := ⟨qz129⟩; have HQQ : Aside0 (Bfs.queue r (((i : Int), a, x.f0) :: p) = Bfs.queue r p ++ [x.f0]) := ⟨(by simp [Bfs.queue])⟩; have HMB : Aside0 (w.heap.size < W3.heap.size) := ⟨HM.out.lt⟩; have HO4 : Aside0 (Kd.R (Kd.int .i64) 3 W4 w.heap.size (fun b => b ≠ w.heap.size) (.slice (some qad) (Bfs.queue r p).length qC2) (Bfs.queue r p)) := ⟨R_blocks HO.out hg4.size (fun b hb hl => hg4.block b hl (fun e => by injection e with e; exact hb e))⟩; have HB4 : Aside0 (Below w.heap.size w W4) := ⟨HB.out.grown hg4 (by have := HMB.out; omega) (fun b e => by injection e with e; omega)⟩; clear hmem hot hnsk hlook hin hm4 hg4; go_wp2_with ((with_reducible refine gate_builtin (b := .append) (xs := #[.tmp 86, .tmp 88]) rfl ?_); at_builtin; refine Kd.R_append (Kd.int .i64) (w0 := w) w.heap.size rfl (.tmp 86) (.tmp 88) 26 3 (.int .i64 0) 8 rfl Tryd.underlying26 info3 rfl (by decide) (by omega) (.slice (some qad) (Bfs.queue r p).length qC2) (Bfs.queue r p) x.f0 [.int .i64 x.f0] (fun b => b ≠ w.heap.size) (fun _ => False) rfl rfl ?aP (fun _ hk => hk.elim) ?aF ?aO ?aB ?aS ?aL ?_; (case aP => exact rfl); (case aF => exact qz126); (case aO => exact HO4.out); (case aB => exact HB4.out); (case aS => have := HM4.out.lt; omega); (case aL => exact qz122); intro v1 w1' ho hb hg hat; rw [← HQQ.out] at ho; have HO5 := ak ho; have HB5 := ak hb; have HM5 : Aside0 (MapAt w1' w.heap.size (p.length + 1 + 1) (bef r (((i : Int), a, x.f0) :: p))) := ⟨qz109⟩; clear ho hb hg hat); exact ⟨⟨i + 1, ((i : Int), a, x.f0) :: p, by go_num, by omega, HSTEP, HO5, HM5, HB5⟩, qz69⟩
            · go_quiet (fail)
              go_wp2
              go_quiet (fail)
              go_wp2; exact ⟨⟨i + 1, p, by go_num, by omega, ⟨HJ.out.skip hlt (Or.inl (by rw [HE.out]; exact ⟨c1, c2⟩))⟩, ⟨Kd.R_drewN HO.out _⟩, ⟨HM.out.below (pw_below_drewN (Below.refl _ _) _)⟩, ⟨pw_below_drewN HB.out _⟩⟩, qz69⟩
        · obtain rfl : i = ls.length := by omega
          have HN := ak (HI2.out.next HJ.out HK.out HQA.out HQ7.out); have ek : wrap64 ((k : Int) + 1) = (k : Int) + 1 := by have := HK.out; have := HQL.out; have := HQ7.out; unfold wrap64; omega
          go_wp2
          go_roundw
          case rel => exact ⟨k + 1, p, by go_num, HN, HO, HM, HB⟩
          case measure =>
            (try simp only [ek]); clear ek; have h1 := HK.out; have h2 := HQL.out; have h3 := HQ7.out; simp [intOf]; omega
    · have hkI : ¬ (k : Int) < ((Bfs.queue r q).length : Int) := by omega
      have hRq := HI2.out.stop hk; subst hRq; have hlk := (HM2.out.look dst (by omega) (by omega)).1; have hmem := bef_some (r := r) (q := R) dst; by_cases hin : dst ∈ verts r R
      · rw [decide_eq_true hin] at hmem
        rw [hmem] at hlk; clear hmem; go_wp2; have HOk := ak HI2.out.1; have HD7 := ak (back_len HI2.out.1 hin); have HIN := ak hin; clear hlk hin HO2; have HV1 : Aside0 (Kd.R (Kd.int .i64) 3 ((wr.alloc (Obj.cells #[Value.int IntKind.i64 dst] 3)).alloc (Obj.cells #[] 3)) w.heap.size (fun b => b ≠ w.heap.size ∧ some b ≠ (Value.slice (some ⟨wr.heap.size + 1, 0, none⟩) 0 0).ownBlock) (.slice (some ⟨wr.heap.size, 0, none⟩) 1 1) [dst]) := ⟨Kd.R_alloc (R_lits [dst] wr w.heap.size (fun b => b ≠ w.heap.size ∧ some b ≠ (Value.slice (some ⟨wr.heap.size + 1, 0, none⟩) 0 0).ownBlock) (by have := HM2.out.lt; omega) ⟨(by have := HM2.out.lt; omega), (by simp [Value.ownBlock])⟩ (by simp)) _⟩
        have HV2 : Aside0 (Kd.R (Kd.int .i64) 3 ((wr.alloc (Obj.cells #[Value.int IntKind.i64 dst] 3)).alloc (Obj.cells #[] 3)) w.heap.size (fun b => b ≠ w.heap.size ∧ some b ≠ (Value.slice (some ⟨wr.heap.size, 0, none⟩) 1 1).ownBlock) (.slice (some ⟨wr.heap.size + 1, 0, none⟩) 0 0) []) := ⟨by
          have h := R_lits [] (wr.alloc (Obj.cells #[Value.int IntKind.i64 dst] 3)) w.heap.size (fun b => b ≠ w.heap.size ∧ some b ≠ (Value.slice (some ⟨wr.heap.size, 0, none⟩) 1 1).ownBlock) qz131 ⟨qz131, (by simp [Value.ownBlock])⟩ (by simp)
          simpa using h⟩
        have HM3 := ak ((HM2.out.below (below_alloc (Below.refl wr.heap.size wr) (Obj.cells #[Value.int IntKind.i64 dst] 3))).below (below_alloc (Below.refl _ _) (Obj.cells #[] 3))); have HB3 := ak (below_alloc (below_alloc HB.out (Obj.cells #[Value.int IntKind.i64 dst] 3)) (Obj.cells #[] 3)); clear HM2 HB
        go_loopg [21, 22, 23] (Bfs.back R dst).length (fun kq v21 v22 v23 w' => ∃ (cur : Int) (st lst : List Int), v23 = .int .i64 cur ∧ Aside0 (BackInv (ends ls) r dst R cur st lst ∧ (Bfs.back R cur).length = kq) ∧ Aside0 (Kd.R (Kd.int .i64) 3 w' w.heap.size (fun b => b ≠ w.heap.size ∧ some b ≠ v22.ownBlock) v21 st) ∧ Aside0 (Kd.R (Kd.int .i64) 3 w' w.heap.size (fun b => b ≠ w.heap.size ∧ some b ≠ v21.ownBlock) v22 lst) ∧ Aside0 (MapAt w' w.heap.size (R.length + 1) (bef r R)) ∧ Aside0 (Below w.heap.size w w'))
        case atStart => exact ⟨dst, [dst], [], rfl, ⟨BackInv.start HIN.out, rfl⟩, HV1, HV2, HM3, HB3⟩
        case round =>
          obtain ⟨cur, st, lst, rfl, HBI, HO1, HO2, HM, HB⟩ := hrel; clear HV1 HV2 HM3 HB3; obtain ⟨sA, sC, es_⟩ := Kd.R_slice HO1.out; obtain ⟨lA, lC, el_⟩ := Kd.R_slice HO2.out; subst es_; subst el_; have HLN := ak (HBI.out.1.len HOk.out HIN.out); have HR7 := ak (HOk.out.len (ends ls) use r hr (Good.range HG.out)); have HC8 := ak (okRange HOk.out hr (Good.range HG.out) cur HBI.out.1.1); by_cases hcr : cur = r
          · subst hcr
            have HFIN : Aside0 (lst = Bfs.back R dst ∧ st = trail (ends ls) dst (Bfs.back R dst)) := ⟨by
              obtain ⟨⟨_, f2, f3⟩, _⟩ := HBI.out; rw [back_root HOk.out] at f2 f3
              exact ⟨(by simpa using f2), (by simpa [trail] using f3)⟩⟩
            obtain ⟨K1, hK1⟩ := rev_ev st qz98; obtain ⟨K2, hK2⟩ := rev_ev lst qz98; have HK1 := ak (hK1 K1 (Nat.le_refl _)); have HK2 := ak (hK2 K2 (Nat.le_refl _)); have HA1 : Aside0 (Kd.R (Kd.int .i64) 3 wr w.heap.size (fun b => some b = (Value.slice sA st.length sC).ownBlock ∧ some b ≠ (Value.slice lA lst.length lC).ownBlock) (.slice sA st.length sC) st) := ⟨R_own_ok HO1.out (fun b hb _ => ⟨hb.symm, (HO1.out.1 b hb).2⟩)⟩; clear hK1 hK2
            go_wp2_with (first
              | (go_at_call 130; (with_reducible refine (slices_Reverse_int_int.calls K1 _ _ _ _ w _ HB.out HA1.out HK1.out).mono ?_); rintro e w' ⟨rfl, hq1, hq2, hq3⟩; have HP1 := ak hq1; have HP2 : Aside0 (Kd.R (Kd.int .i64) 3 w' w.heap.size (fun b => b ≠ w.heap.size ∧ some b ≠ (Value.slice sA st.length sC).ownBlock) (.slice lA lst.length lC) lst) := ⟨R_blocks HO2.out hq3.1 (fun b hb hl => hq3.2 b hl (fun hs => hb.2 hs.1))⟩; have HB6 := ak hq2; have HA2 : Aside0 (Kd.R (Kd.int .i64) 3 w' w.heap.size (fun b => some b = (Value.slice lA lst.length lC).ownBlock ∧ some b ≠ (Value.slice sA st.length sC).ownBlock) (.slice lA lst.length lC) lst) := ⟨R_own_ok HP2.out (fun b hb _ => ⟨hb.symm, (HP2.out.1 b hb).2⟩)⟩; clear hq1 hq2 hq3)
              | (go_at_call 130; (with_reducible refine (slices_Reverse_int_int.calls K2 _ _ _ _ w _ HB6.out HA2.out HK2.out).mono ?_); rintro e w' ⟨rfl, hq1, hq2, hq3⟩; have HP3 := ak hq1; have HB7 := ak hq2; have HK3 := ak hq3; clear hq1 hq2 hq3))
            have HF1 : Aside0 (Kd.R (Kd.int .i64) 3 w' w.heap.size (fun b => some b ≠ (Value.slice lA lst.length lC).ownBlock) (.slice sA st.length sC) st.reverse) := ⟨R_blocks (R_own_ok HP1.out (ok' := fun b => some b ≠ (Value.slice lA lst.length lC).ownBlock) (fun b hb _ => (HO1.out.1 b hb).2)) HK3.out.1 (fun b hb hl => HK3.out.2 b hl (fun hs => hb hs.1))⟩; have HF2 : Aside0 (Kd.R (Kd.int .i64) 3 w' w.heap.size (fun b => some b ≠ (Value.slice sA st.length sC).ownBlock) (.slice lA lst.length lC) lst.reverse) := ⟨R_own_ok HP3.out (fun b hb _ => (HP2.out.1 b hb).2)⟩; exact bodyPost_ret (v := .tuple #[.slice sA st.length sC, .slice lA lst.length lC, .bool true]) qz123 rfl (by unfold PathPost; rw [if_pos HIN.out]; exact ⟨_, _, rfl, (by rw [← HFIN.out.2]; exact HF1.out), (by rw [← HFIN.out.1]; exact HF2.out), HB7.out⟩)
          · obtain ⟨i, u, hb1, hb2, hb3, hb4, hb5, hb6⟩ := back_step HOk.out HBI.out.1.1 hcr
            have hlk := (HM.out.look cur HC8.out.1 (by have := HC8.out.2; omega)).2; rw [hb1] at hlk; have hlk2 : (some i).getD 0 = i := rfl; obtain ⟨ii, rfl⟩ := Int.eq_ofNat_of_zero_le hb5; obtain ⟨_, e2, h0, h1, h2, h3, h4⟩ := at_T49 HR.out (ii : Int) (by omega) (by omega); cases e2; rw [Int.toNat_natCast, show rd_T49 ls (ii : Int) = leg ls ii from rfl] at h0 h1; have H0 := ak h0; have H1 := ak h1; have hgx := leg_good HG.out ii (by omega); have hu8 := okRange HOk.out hr (Good.range HG.out) u hb3; have hE : (leg ls ii).f0 + (leg ls ii).f1 - cur = u := hb4; have HNX : Aside0 (BackInv (ends ls) r dst R u (st ++ [u]) (lst ++ [(ii : Int)])) := ⟨HBI.out.1.next hb2 hb3 hb4⟩; have HKQ : Aside0 ((Bfs.back R u).length + 1 = gk) := ⟨(by have := HBI.out.2; rw [hb2] at this; simpa using this)⟩; have v0 : wrap64 ((leg ls ii).f0 + (leg ls ii).f1) = (leg ls ii).f0 + (leg ls ii).f1 := by have a1 := hgx.1; have a2 := hgx.2.1; unfold wrap64; omega
            have v1 : wrap64 ((leg ls ii).f0 + (leg ls ii).f1 - cur) = u := by rw [hE]; unfold wrap64; omega
            have HMI := ak (show 0 ≤ (ii : Int) ∧ (ii : Int) < ls.length from ⟨hb5, hb6⟩); generalize leg ls (ii : Int) = x at *; clear hb1 hb2 hb3 hb4 hgx hu8 hE h0 h1 h2 h3 h4; obtain ⟨g1, eg1⟩ : ∃ g1, gk = g1 + 1 := ⟨(Bfs.back R u).length, HKQ.out.symm⟩
            subst eg1
            go_wp2_with ((with_reducible refine gate_builtin (b := .append) (xs := #[.tmp 109, .tmp 111]) rfl ?_); at_builtin; refine Kd.R_append (Kd.int .i64) (w0 := w) w.heap.size rfl (.tmp 109) (.tmp 111) 26 3 (.int .i64 0) 8 rfl Tryd.underlying26 info3 rfl (by decide) (by omega) (.slice lA lst.length lC) lst (ii : Int) [.int .i64 (ii : Int)] (fun b => b ≠ w.heap.size ∧ some b ≠ (Value.slice sA st.length sC).ownBlock) (fun _ => False) rfl rfl ?aP (fun _ hk => hk.elim) ?aF ?aO ?aB ?aS ?aL ?_; (case aP => exact rfl); (case aF => exact (by intro b hb; exact ⟨(by have := HM.out.lt; omega), Kd.fresh' (Kd.R_lt HO1.out) b hb⟩)); (case aO => exact HO2.out); (case aB => exact HB.out); (case aS => have := HM.out.lt; omega); (case aL => exact qz98)
                         intro v1_ w1_ ho hb hg hat; have HP1 := ak (Kd.R_after (ok := fun b => b ≠ w.heap.size) HO1.out hg hat); have HP2 := ak ho; have HB6 := ak hb; have HM6 := ak (HM.out.kept hg (fun e => (HO2.out.1 _ e.symm).1 rfl))
                         clear ho hb hg hat)
            have h0 := Sine.keepc H0.out HB6.out; have h1 := Sine.keepc H1.out HB6.out; have hm0 := HMI.out.1; have hm1 := HMI.out.2
            go_quiet (fail)
            go_wp2_with ((with_reducible refine gate_builtin (b := .append) (xs := #[.tmp 126, .tmp 128]) rfl ?_); at_builtin; refine Kd.R_append (Kd.int .i64) (w0 := w) w.heap.size rfl (.tmp 126) (.tmp 128) 26 3 (.int .i64 0) 8 rfl Tryd.underlying26 info3 rfl (by decide) (by omega) (.slice sA st.length sC) st u [.int .i64 u] (fun b => b ≠ w.heap.size ∧ some b ≠ v1_.ownBlock) (fun _ => False) rfl rfl ?aP (fun _ hk => hk.elim) ?aF ?aO ?aB ?aS ?aL ?_; (case aP => exact rfl); (case aF => exact (by intro b hb; simp only [World.heap_drewN] at hb; exact ⟨(by have := HM6.out.lt; omega), Kd.fresh' (Kd.R_lt HP2.out) b hb⟩)); (case aO => exact Kd.R_drewN HP1.out _); (case aB => exact pw_below_drewN HB6.out _); (case aS => exact (by simp only [World.heap_drewN]; have := HM6.out.lt; omega)); (case aL => exact qz98)
                         intro v2_ w2_ ho hb hg hat; have HQ2 := ak (Kd.R_after (ok := fun b => b ≠ w.heap.size) (Kd.R_drewN HP2.out _) hg hat); have HQ1 := ak ho; have HB8 := ak hb; have HM8 := ak ((HM6.out.below (pw_below_drewN (Below.refl _ _) _)).kept hg (fun e => (HP1.out.1 _ e.symm).1 rfl))
                         clear ho hb hg hat)
            go_roundg g1; (case measure => omega); (case rel => exact ⟨u, st ++ [u], lst ++ [(ii : Int)], (by first | rfl | simp), ⟨HNX.out, (by have := HKQ.out; omega)⟩, HQ1, HQ2, HM8, HB8⟩)
      · rw [decide_eq_false hin] at hmem
        rw [hmem] at hlk; clear hmem; go_wp2; exact bodyPost_ret (v := .tuple #[.slice none 0 0, .slice none 0 0, .bool false]) qz123 rfl (by unfold PathPost; rw [if_neg hin]; exact ⟨rfl, HB.out⟩)
end Go.Proofs.YtcafgpincnkcdaaDoor.Net
namespace Go.Proofs.YtcafgpincnkcdaaDoor.Net
open Go.RowKit YtcafgpincnkcdaaDoorW.PrintWords YtcafgpincnkcdaaDoorW.PrintLast YtcafgpincnkcdaaDoorW.PrintMore A Plain
open Tree (verts legs W)
open Grow (Q sweep grow)
open Conn (Conn)
def less (ls : L) (i : Nat) : L := ls.take i ++ ls.drop (i + 1)
theorem less_len (ls : L) (i : Nat) (h : i < ls.length) : (less ls i).length + 1 = ls.length := by
  unfold less; rw [List.length_append, List.length_take, List.length_drop]; omega
theorem less_good {ls : L} (hg : ∀ x ∈ ls, Good x) (i : Nat) : ∀ x ∈ less ls i, Good x := fun x hx => by
  unfold less at hx; rcases List.mem_append.mp hx with h | h
  · exact hg x (List.mem_of_mem_take h)
  · exact hg x (List.mem_of_mem_drop h)
theorem less_leg (ls : L) (i : Nat) (h : i < ls.length) (j : Nat) : leg (less ls i) (j : Int) = if j < i then leg ls (j : Int) else leg ls ((j + 1 : Nat) : Int) := by
  unfold leg rd_T49 less; rw [Int.toNat_natCast, Int.toNat_natCast, List.getD_eq_getElem?_getD, List.getD_eq_getElem?_getD, List.getD_eq_getElem?_getD, List.getElem?_append, List.length_take, Nat.min_eq_left (by omega)]; by_cases c : j < i
  · rw [if_pos c, if_pos c, List.getElem?_take_of_lt c]
  · rw [if_neg c, if_neg c, List.getElem?_drop, show i + 1 + (j - i) = j + 1 by omega]
theorem less_rel (ls : L) (i : Nat) (h : i < ls.length) (a b : Int) : Grow.Rel (ends (less ls i)) (less ls i).length a b ↔ Bfs.RelU (ends ls) (fun j => decide (j ≠ (i : Int))) ls.length a b := by
  have hl := less_len ls i h
  have he : ∀ j : Nat, ends (less ls i) (j : Int) = if j < i then ends ls (j : Int) else ends ls ((j + 1 : Nat) : Int) := fun j => by
    show ((leg (less ls i) (j : Int)).f0, (leg (less ls i) (j : Int)).f1) = _; rw [less_leg ls i h j]; split <;> rfl
  constructor
  · rintro ⟨j, h0, h1, h2⟩
    obtain ⟨j, rfl⟩ := Int.eq_ofNat_of_zero_le h0; rw [he] at h2; by_cases c : j < i
    · rw [if_pos c] at h2
      exact ⟨j, h0, by omega, decide_eq_true (by omega), h2⟩
    · rw [if_neg c] at h2
      exact ⟨((j + 1 : Nat) : Int), by omega, by omega, decide_eq_true (by omega), h2⟩
  · rintro ⟨j, h0, h1, hu, h2⟩
    obtain ⟨j, rfl⟩ := Int.eq_ofNat_of_zero_le h0; have hne := of_decide_eq_true hu; by_cases c : j < i
    · exact ⟨j, h0, by omega, (by rw [he, if_pos c]; exact h2)⟩
    · exact ⟨((j - 1 : Nat) : Int), by omega, by omega, (by rw [he, if_neg (by omega), show j - 1 + 1 = j by omega]; exact h2)⟩
def useB (i : Int) (j : Int) : Bool := decide (j ≠ i)
def bridgeB (ls : L) (i : Int) : Bool := !decide ((ends ls i).2 ∈ verts (ends ls i).1 (Bfs.run (ends ls) (useB i) (ends ls i).1 ls.length 9 0 []))
theorem bridge_eq {ls : L} (hg : ∀ x ∈ ls, Good x) (i : Nat) (hi : i < ls.length) (hp : (ends ls i).1 ∈ verts 0 (RR ls)) :
    (if (!decide ((ends ls i).1 ∈ plL (RR (less ls i)))) = true then true else !decide ((ends ls i).2 ∈ plL (RR (less ls i)))) = bridgeB ls i := by
  have hr := ends_range hg i (by omega) (by omega); have hf := Bfs.found_iff (ends ls) (useB i) (ends ls i).1 ⟨hr.1, hr.2.1⟩ (Good.range hg) (ends ls i).2; have ok := RR_ok hg; have ok' := RR_ok (less_good hg i); have hv := fun s => (mem_plL (RR (less ls i)) s).trans (Grow.verts_iff (ends (less ls i)) ok'.1 ok'.2 s)
  have hR : Conn (Grow.Rel (ends ls) ls.length) 0 (ends ls i).1 := (Grow.verts_iff (ends ls) ok.1 ok.2 _).mp hp
  have hQ : ∀ s, Conn (Grow.Rel (ends (less ls i)) (less ls i).length) 0 s ↔ Conn (Bfs.RelU (ends ls) (useB i) ls.length) 0 s := fun s =>
    ⟨fun h => h.map (fun a b r => Conn.Conn.one ((less_rel ls i hi a b).mp r)), fun h => h.map (fun a b r => Conn.Conn.one ((less_rel ls i hi a b).mpr r))⟩
  have hs : ∀ a b, Bfs.RelU (ends ls) (useB i) ls.length a b → Bfs.RelU (ends ls) (useB i) ls.length b a := fun a b ⟨j, h0, h1, hu, h2⟩ => ⟨j, h0, h1, hu, h2.symm⟩
  have hround := Conn.round (R := Grow.Rel (ends ls) ls.length) hs (a := (ends ls i).1) (b := (ends ls i).2) (o := 0) (fun x y ⟨j, h0, h1, h2⟩ => by
    by_cases c : j = (i : Int)
    · subst c
      right
      rcases h2 with h2 | h2
      · left; rw [h2]; exact ⟨rfl, rfl⟩
      · right; rw [h2]; exact ⟨rfl, rfl⟩
    · exact Or.inl ⟨j, h0, h1, decide_eq_true c, h2⟩) hR
  unfold bridgeB
  have e1 : ((ends ls i).1 ∈ plL (RR (less ls i)) ∧ (ends ls i).2 ∈ plL (RR (less ls i))) ↔ (ends ls i).2 ∈ verts (ends ls i).1 (Bfs.run (ends ls) (useB i) (ends ls i).1 ls.length 9 0 []) := by
    rw [hv, hv, hQ, hQ, hf]; exact hround.symm
  by_cases c1 : (ends ls i).1 ∈ plL (RR (less ls i))
  · by_cases c2 : (ends ls i).2 ∈ plL (RR (less ls i))
    · rw [decide_eq_true c1, decide_eq_true c2, decide_eq_true (e1.mp ⟨c1, c2⟩)]; rfl
    · rw [decide_eq_true c1, decide_eq_false c2, decide_eq_false (fun h => c2 (e1.mpr h).2)]; rfl
  · rw [decide_eq_false c1, decide_eq_false (fun h => c1 (e1.mpr h).1)]; rfl
end Go.Proofs.YtcafgpincnkcdaaDoor.Net
namespace Go.Proofs.YtcafgpincnkcdaaDoor.Net
open Go Go.RowKit YtcafgpincnkcdaaDoorW.PrintWords YtcafgpincnkcdaaDoorW.PrintLast YtcafgpincnkcdaaDoorW.PrintMore A Plain
open Tree (verts legs W)
open Grow (Q)
theorem bridgeUse (k : Int) (i : Nat) (p : Addr) (w : World) (hp : w.cell? p = some (.int .i64 k)) :
    Calls Tryd.prog 118 #[.int .i64 (i : Int), .pointer (some p)] w fun e w' => e = .returned (.bool (useB k i)) ∧ w' = w := by
  have e : useB k i = ((i : Int) != k) := by
    unfold useB; by_cases h : (i : Int) = k
    · rw [decide_eq_false (by omega), h]; simp
    · rw [decide_eq_true h]; simp [h]
  rw [e]; go_enter Tryd.func118, Tryd.ntmps118; go_wp2; go_ret; exact ⟨rfl, rfl⟩
theorem isBridgeW (A : Option Addr) (c : Nat) (ls : L) (k : Nat) (w : World) (hr0 : Kd.C k49 w A ls.length ls) (hc : ls.length ≤ c) (hn : ls.length ≤ 12) (hg : ∀ x ∈ ls, Good x) (hk : k < ls.length) :
    Calls Tryd.prog 85 #[.slice A ls.length c, .int .i64 (k : Int)] w fun e w' => e = .returned (.bool (bridgeB ls k)) ∧ Below w.heap.size w w' := by
  have hgk := leg_good hg k hk; obtain ⟨w_1, e2, h0, h1, _⟩ := at_T49 hr0 (k : Int) (by omega) (by omega); cases e2; rw [Int.toNat_natCast, show rd_T49 ls (k : Int) = leg ls k from rfl] at h0 h1; obtain ⟨R, hR⟩ : ∃ R, R = Bfs.run (ends ls) (useB k) (leg ls k).f0 ls.length 9 0 [] := ⟨_, rfl⟩
  have hbr : bridgeB ls k = !decide ((leg ls k).f1 ∈ verts (leg ls k).f0 R) := by rw [hR]; rfl
  rw [hbr]; have HRR := ak hR.symm; have HR := ak hr0; have HG := ak hg; have hl0 := hgk.1; have hl1 := hgk.2.1; have k1 : (k : Int) < (ls.length : Int) := by omega
  have k0 : (0 : Int) ≤ (k : Int) := by omega
  clear hr0 hg hgk hR hbr; generalize leg ls (k : Int) = x at *; go_enter Tryd.func85, Tryd.ntmps85; go_wp2; have HB := ak (below_alloc (Below.refl w.heap.size w) (Obj.cells #[Value.int IntKind.i64 (k : Int)] 3)); replace h0 := Sine.keepc h0 HB.out; replace h1 := Sine.keepc h1 HB.out; have hp0 : (w.alloc (Obj.cells #[Value.int IntKind.i64 (k : Int)] 3)).cell? ⟨w.heap.size, 0, none⟩ = some (.int .i64 (k : Int)) := by go_simp
  have HP0 := ak hp0; generalize w.alloc (Obj.cells #[Value.int IntKind.i64 (k : Int)] 3) = W1 at *; by_cases hf : x.f1 ∈ verts x.f0 R
  · have hd := decide_eq_true hf
    go_region_held3 (fun w' => w'.cell? (w_1.add (k * 5)) = some (.int .i64 x.f0) ∧ w'.cell? { block := (w_1.add (k * 5)).block, off := (w_1.add (k * 5)).off + 1 } = some (.int .i64 x.f1) ∧ w'.cell? ⟨w.heap.size, 0, none⟩ = some (.int .i64 (k : Int)))
      (exact ⟨Sine.keepc (w := W1) h0 qz16, Sine.keepc (w := W1) h1 qz16, Sine.keepc (w := W1) HP0.out qz16⟩)
      (first | (go_at_call 117; (with_reducible refine (pathBridge _ c ls ⟨w.heap.size, 0, none⟩ (useB k) x.f0 x.f1 _ ?s1 hc hn HG.out hl0 hl1 ?s2 R HRR.out).mono ?_); (case s1 => exact Kd.C_below HR.out qz11); (case s2 => exact (by intro j W hj hb; exact bridgeUse (k : Int) j ⟨w.heap.size, 0, none⟩ W (Sine.keepc (w := W1) HP0.out (below_step qz16 hb)))); rintro e w' hpost; unfold PathPost at hpost; rw [if_pos hf] at hpost; obtain ⟨v1, v2, rfl, _, _, hw1⟩ := hpost))
    replace HB := ak (below_step (show Below w.heap.size w W1.drew from by (repeat (first | exact HB.out | exact Below.refl _ _ | apply below_alloc | apply pw_below_drewN | apply below_drew1)); done) hw1); go_wp2; go_ret; exact ⟨(by rw [hd]; rfl), HB.out⟩
  · have hd := decide_eq_false hf
    go_region_held3 (fun w' => w'.cell? (w_1.add (k * 5)) = some (.int .i64 x.f0) ∧ w'.cell? { block := (w_1.add (k * 5)).block, off := (w_1.add (k * 5)).off + 1 } = some (.int .i64 x.f1) ∧ w'.cell? ⟨w.heap.size, 0, none⟩ = some (.int .i64 (k : Int)))
      (exact ⟨Sine.keepc (w := W1) h0 qz16, Sine.keepc (w := W1) h1 qz16, Sine.keepc (w := W1) HP0.out qz16⟩)
      (first | (go_at_call 117; (with_reducible refine (pathBridge _ c ls ⟨w.heap.size, 0, none⟩ (useB k) x.f0 x.f1 _ ?s1 hc hn HG.out hl0 hl1 ?s2 R HRR.out).mono ?_); (case s1 => exact Kd.C_below HR.out qz11); (case s2 => exact (by intro j W hj hb; exact bridgeUse (k : Int) j ⟨w.heap.size, 0, none⟩ W (Sine.keepc (w := W1) HP0.out (below_step qz16 hb)))); rintro e w' hpost; unfold PathPost at hpost; rw [if_neg hf] at hpost; obtain ⟨rfl, hw1⟩ := hpost))
    replace HB := ak (below_step (show Below w.heap.size w W1.drew from by (repeat (first | exact HB.out | exact Below.refl _ _ | apply below_alloc | apply pw_below_drewN | apply below_drew1)); done) hw1); go_wp2; go_ret; exact ⟨(by rw [hd]; rfl), HB.out⟩
theorem l8Bridge_ev {ls : L} (hn : ls.length ≤ 12) (hg : ∀ x ∈ ls, Good x) (k : Nat) (hk : k < ls.length) (hp : (leg ls k).f0 ∈ plL (RR ls)) : Ev (fun m => spec_l8Bridge.f m ls (k : Int)) (bridgeB ls k) := by
  have hb := bridge_eq hg k hk ((mem_plL _ _).mp hp); have hl := less_len ls k hk; have hlg := less_good hg k; have hs := plL_small hlg; have e : wrap64 ((k : Int) + 1) = ((k + 1 : Nat) : Int) := by rw [w64 (by omega) (by omega)]; omega
  unfold spec_l8Bridge.f; refine Ev.bindc rfl (Ev.pos (by omega) (Ev.pos (by omega) (Ev.bindc rfl (Ev.pos qz108 (Ev.bindc rfl (Ev.pos (by rw [e]; omega) (Ev.pos (by rw [e]; omega) (Ev.bindc rfl (Ev.pos qz108 ?_))))))))); rw [e, Int.toNat_natCast, Int.toNat_natCast, List.nil_append]; refine Ev.bind (place_ev (less ls k) (by omega) hlg (RR (less ls k)) rfl) (Ev.pos (by omega) ?_); refine Ev.bind (has_ev _ _ (by show (plL (RR (less ls k))).length ≤ _; omega)) ?_; rw [← hb]; by_cases c1 : (ends ls k).1 ∈ plL (RR (less ls k))
  · rw [if_neg (by rw [decide_eq_true c1]; decide)]
    exact Ev.pos (decide_eq_true c1) (Ev.bind (has_ev _ _ (by show (plL (RR (less ls k))).length ≤ _; omega)) (Ev.now _))
  · rw [if_pos (by rw [decide_eq_false c1]; rfl)]
    exact Ev.neg (by show ¬ decide ((ends ls k).1 ∈ plL (RR (less ls k))) = true; rw [decide_eq_false c1]; decide) (Ev.now _)
end Go.Proofs.YtcafgpincnkcdaaDoor.Net
namespace Go.Proofs.YtcafgpincnkcdaaDoor.Net
open Go.RowKit YtcafgpincnkcdaaDoorW.PrintWords YtcafgpincnkcdaaDoorW.PrintLast YtcafgpincnkcdaaDoorW.PrintMore A Plain
theorem l6Has_ev (ls : L) (s : Int) (hb : ls.length ≤ 140737488351232) : Ev (fun m => spec_l6Has.f m ls s) (legsB ls && decide (s ∈ plL (RR ls))) := by
  unfold spec_l6Has.f; refine Ev.bind (l4Legs_ev ls hb) ?_; cases h : legsB ls
  · exact Ev.neg (by decide) (Ev.now _)
  · have h' := legsB_iff.mp h
    have hs := plL_small h'.1; exact Ev.pos rfl (Ev.bind (place_ev ls h'.2 h'.1 (RR ls) rfl) (Ev.bind (has_ev _ _ (by show (plL (RR ls)).length ≤ _; omega)) (Ev.now _)))
def isBridgeM (ls : L) (i : Int) : Bool × Bool := if legsB ls = true ∧ (0 ≤ i ∧ i < (ls.length : Int)) ∧ (leg ls i).f0 ∈ plL (RR ls) then (bridgeB ls i, true) else (false, false)
theorem specIsBridge_ev (ls : L) (i : Int) (hb : ls.length ≤ 140737488351232) : Ev (fun m => spec_IsBridge.f m ls i) (isBridgeM ls i) := by
  unfold spec_IsBridge.f isBridgeM; refine Ev.bind (l4Legs_ev ls hb) ?_; by_cases h : legsB ls = true
  · have h' := legsB_iff.mp h
    refine Ev.pos h ?_
    have e : spec_l1In.f i 0 (wrap64 ((ls.length : Int) - 1)) = some (decide (0 ≤ i ∧ i < (ls.length : Int))) := by
      rw [w64 (by omega) (by omega)]; unfold spec_l1In.f; by_cases c : 0 ≤ i
      · rw [if_pos c]; congr 1; rw [decide_eq_decide]; omega
      · rw [if_neg c, decide_eq_false (fun hh => c hh.1)]
    refine Ev.bindc e ?_; by_cases c : 0 ≤ i ∧ i < (ls.length : Int)
    · refine Ev.pos (decide_eq_true c) (Ev.pos c.1 (Ev.pos c.2 ?_))
      refine Ev.bind (l6Has_ev ls _ hb) ?_; obtain ⟨k, rfl⟩ := Int.eq_ofNat_of_zero_le c.1; rw [show rd_T49 ls (k : Int) = leg ls k from rfl, h, Bool.true_and]; by_cases q : (leg ls k).f0 ∈ plL (RR ls)
      · rw [if_pos ⟨rfl, c, q⟩]
        exact Ev.pos (decide_eq_true q) (Ev.bind (l8Bridge_ev h'.2 h'.1 k (by omega) q) (Ev.now _))
      · rw [if_neg (fun hh => q hh.2.2)]
        exact Ev.neg (by rw [decide_eq_false q]; decide) (Ev.now _)
    · rw [if_neg (fun hh => c hh.2.1)]
      exact Ev.neg (by rw [decide_eq_false c]; decide) (Ev.now _)
  · rw [if_neg (fun hh => h hh.1)]
    exact Ev.neg h (Ev.now _)
end Go.Proofs.YtcafgpincnkcdaaDoor.Net
namespace Go.Proofs.YtcafgpincnkcdaaDoor.A
open Go.RowKit YtcafgpincnkcdaaDoorW.PrintWords YtcafgpincnkcdaaDoorW.PrintLast YtcafgpincnkcdaaDoorW.PrintMore
open Net
def impl_IsBridge.f (l0 : List (S49)) (a1 : Int) : Option (Bool × Bool) := if l0.length ≤ 140737488351232 then some (isBridgeM l0 a1) else none
theorem impl_IsBridge.calls (A0 : Option Addr) (c0 : Nat) (l0 : List (S49)) (a1 : Int) (r1 : Bool) (r2 : Bool) (w : World) (hr0 : Kd.C k49 w A0 l0.length l0) (hc0 : l0.length ≤ c0) (h : impl_IsBridge.f l0 a1 = some (r1, r2)) (hL : Sine.Laid w) :
    Calls Tryd.prog 37 #[.slice A0 l0.length c0, .int .i64 a1] w fun e w' => e = .returned (.tuple #[.bool r1, .bool r2]) ∧ Below w.heap.size w w' := by
  unfold impl_IsBridge.f at h; by_cases hb : l0.length ≤ 140737488351232
  · rw [if_pos hb] at h
    unfold isBridgeM at h; have HR := ak hr0; have HL := ak hL; have HB := ak (Below.refl w.heap.size w); by_cases hm : legsB l0 = true ∧ (0 ≤ a1 ∧ a1 < (l0.length : Int))
    · obtain ⟨k, rfl⟩ := Int.eq_ofNat_of_zero_le hm.2.1
      have HV := ak (legsB_iff.mp hm.1); have hv := hm.1; have h0 := hm.2.1; have h1 := hm.2.2; have hk : k < l0.length := by omega
      have hgk := leg_good HV.out.1 k hk; have hpq : Pq (RR l0) (leg l0 k).f0.toNat = decide ((leg l0 k).f0 ∈ plL (RR l0)) := by rw [Pq_eq, Int.toNat_of_nonneg hgk.1.1]
      clear hr0 hL hgk; by_cases hp : (leg l0 k).f0 ∈ plL (RR l0)
      · rw [if_pos ⟨hm.1, hm.2, hp⟩] at h
        simp only [Option.some.injEq, Prod.mk.injEq] at h; obtain ⟨rfl, rfl⟩ := h; rw [decide_eq_true hp] at hpq; clear hm hp; go_enter Tryd.func37, Tryd.ntmps37
        go_wp2_with (first
          | (go_at_call 84; (with_reducible refine (placedLeg A0 c0 l0 (k : Int) _ ?s0 ?s1 hc0 hv h0 h1).mono ?_); (case s0 => exact HL.out.keep qz11); (case s1 => exact Kd.C_below HR.out qz11); rintro e w' ⟨g, T, cA, cC, rfl, _, _, hw⟩; rw [hpq]; replace HB := ak (below_step (show Below w.heap.size w _ from by (repeat (first | exact HB.out | exact Below.refl _ _ | apply below_alloc | apply pw_below_drewN | apply below_drew1)); done) hw); clear hw)
          | (go_at_call 85; have hq := isBridgeW A0 c0 l0 k _ (Kd.C_below HR.out (show Below w.heap.size w _ from by (repeat (first | exact HB.out | exact Below.refl _ _ | apply below_alloc | apply pw_below_drewN | apply below_drew1)); done)) hc0 HV.out.2 HV.out.1 hk; (with_reducible refine hq.mono ?_); clear hq; rintro e w' ⟨rfl, hw⟩; replace HB := ak (below_step (show Below w.heap.size w _ from by (repeat (first | exact HB.out | exact Below.refl _ _ | apply below_alloc | apply pw_below_drewN | apply below_drew1)); done) hw); clear hw))
        exact bodyPost_ret (v := .tuple #[.bool (bridgeB l0 k), .bool true]) (by simp [results, Tryd.results37, go_sem]) rfl ⟨rfl, qz103⟩
      · rw [if_neg (by rintro ⟨_, _, h⟩; exact hp h)] at h
        simp only [Option.some.injEq, Prod.mk.injEq] at h; obtain ⟨rfl, rfl⟩ := h; rw [decide_eq_false hp] at hpq; clear hm hp; go_enter Tryd.func37, Tryd.ntmps37; go_wp2_with (go_at_call 84; (with_reducible refine (placedLeg A0 c0 l0 (k : Int) _ ?s0 ?s1 hc0 hv h0 h1).mono ?_); (case s0 => exact HL.out.keep qz11); (case s1 => exact Kd.C_below HR.out qz11); rintro e w' ⟨g, T, cA, cC, rfl, _, _, hw⟩; rw [hpq]; replace HB := ak (below_step (show Below w.heap.size w _ from by (repeat (first | exact HB.out | exact Below.refl _ _ | apply below_alloc | apply pw_below_drewN | apply below_drew1)); done) hw); clear hw); exact bodyPost_ret (v := .tuple #[.bool false, .bool false]) (by simp [results, Tryd.results37, go_sem]) rfl ⟨rfl, qz103⟩
    · rw [if_neg (by rintro ⟨h1, h2, _⟩; exact hm ⟨h1, h2⟩)] at h
      simp only [Option.some.injEq, Prod.mk.injEq] at h; obtain ⟨rfl, rfl⟩ := h; have hno : legsB l0 = true → ¬ (0 ≤ a1 ∧ a1 < (l0.length : Int)) := fun h1 h2 => hm ⟨h1, h2⟩
      clear hr0 hL hm; go_enter Tryd.func37, Tryd.ntmps37; go_wp2_with (go_at_call 84; (with_reducible refine (placedLeg_no A0 c0 l0 a1 _ ?s1 hc0 hb hno).mono ?_); (case s1 => exact Kd.C_below HR.out qz11); rintro e w' ⟨rfl, hw⟩; replace HB := ak (below_step (show Below w.heap.size w _ from by (repeat (first | exact HB.out | exact Below.refl _ _ | apply below_alloc | apply pw_below_drewN | apply below_drew1)); done) hw); clear hw); exact bodyPost_ret (v := .tuple #[.bool false, .bool false]) (by simp [results, Tryd.results37, go_sem]) rfl ⟨rfl, qz103⟩
  · rw [if_neg hb] at h
    cases h
end Go.Proofs.YtcafgpincnkcdaaDoor.A
namespace Go.Proofs.YtcafgpincnkcdaaDoor.Net
open Go Go.RowKit YtcafgpincnkcdaaDoorW.PrintWords YtcafgpincnkcdaaDoorW.PrintLast YtcafgpincnkcdaaDoorW.PrintMore A Plain
open Tree (verts legs W)
open Grow (Q)
def selTo (p : Nat → Bool) : Nat → List Int
  | 0 => []
  | k + 1 => if p k = true then selTo p k ++ [(k : Int)] else selTo p k
theorem selTo_len (p : Nat → Bool) : ∀ k, (selTo p k).length ≤ k
  | 0 => by simp [selTo]
  | k + 1 => by
    have := selTo_len p k; unfold selTo; split
    · rw [List.length_append, List.length_singleton]; omega
    · omega
theorem mem_selTo (p : Nat → Bool) : ∀ (n : Nat) (i : Int), i ∈ selTo p n ↔ ∃ k : Nat, i = k ∧ k < n ∧ p k = true
  | 0, i => by simp [selTo]
  | n + 1, i => by
    have ih := mem_selTo p n i; unfold selTo; split
    · rename_i c
      rw [List.mem_append, ih, List.mem_singleton]
      constructor
      · rintro (⟨k, h1, h2, h3⟩ | rfl)
        · exact ⟨k, h1, by omega, h3⟩
        · exact ⟨n, rfl, by omega, c⟩
      · rintro ⟨k, h1, h2, h3⟩
        by_cases e : k = n
        · exact Or.inr (by rw [h1, e])
        · exact Or.inl ⟨k, h1, by omega, h3⟩
    · rename_i c
      rw [ih]
      constructor
      · rintro ⟨k, h1, h2, h3⟩
        exact ⟨k, h1, by omega, h3⟩
      · rintro ⟨k, h1, h2, h3⟩
        by_cases e : k = n
        · exact absurd (e ▸ h3) c
        · exact ⟨k, h1, by omega, h3⟩
def SelPost (l : List Int) (w : World) (e : Ending) (w' : World) : Prop := ∃ v, e = .returned v ∧ Kd.R (Kd.int .i64) 3 w' w.heap.size (fun b => w.heap.size ≤ b) v l ∧ Below w.heap.size w w'
def plcL (ls : L) (R : Q) (n : Nat) : List Int := selTo (fun k => Pq R (leg ls k).f0.toNat) n
theorem placedLegsW {T g : Nat} {B : Nat → Bool} {cl : Value} {R : Q} {X : Nat → S31} (A : Option Addr) (c : Nat) (ls : L) (w : World) (hS : St ls.length T g (Pq R) X B cl w) (hgw : g < w.heap.size) (hTw : T < w.heap.size) (hr0 : Kd.C k49 w A ls.length ls) (hc : ls.length ≤ c) (hn : ls.length ≤ 12) (hg : ∀ x ∈ ls, Good x) :
    Calls Tryd.prog 89 #[.pointer (some ⟨g, 0, none⟩), .slice A ls.length c] w (SelPost (plcL ls R ls.length) w) := by
  have HB := ak (Below.refl w.heap.size w); have HR := ak hr0; have HG := ak hg; have HS0 := ak hS; have HT : Aside0 (∀ k, (plcL ls R k).length ≤ k) := ⟨selTo_len _⟩; clear hr0 hg hS; go_enter Tryd.func89, Tryd.ntmps89; go_wp2
  go_loopw [5, 10] (fun v5 v10 w' => ∃ (k : Nat), k ≤ ls.length ∧ v10 = .int .i64 k ∧ Aside0 (Kd.R (Kd.int .i64) 3 w' w.heap.size (fun b => w.heap.size ≤ b) v5 (plcL ls R k)) ∧ Aside0 (St ls.length T g (Pq R) X B cl w') ∧ Aside0 (Below w.heap.size w w')) (fun _ v10 _ => ls.length - (intOf v10).toNat)
  case atStart => exact ⟨0, by omega, rfl, ⟨Kd.R_nil _ _ _ _ _⟩, HS0, HB⟩
  case round =>
    obtain ⟨k, hk, rfl, HV, HS, HB2⟩ := hrel; clear HB HS0; have HB := HB2; clear HB2; obtain ⟨vA, vC, ev⟩ := Kd.R_slice HV.out; subst ev; have HTL := ak (HT.out k); by_cases hlt : k < ls.length
    · obtain ⟨_, e2, h0, h1, h2, h3, h4⟩ := at_T49 HR.out (k : Int) (by omega) (by omega)
      cases e2; have HX : Aside0 (Good (leg ls (k : Int))) := ⟨HG.out _ (leg_mem hlt)⟩; have ek : rd_T49 ls (k : Int) = leg ls k := rfl; rw [Int.toNat_natCast] at h0 h1 h2 h3 h4; rw [ek] at h0 h1 h2 h3 h4; have HC := ak (show plcL ls R (k + 1) = if Pq R (leg ls k).f0.toNat = true then plcL ls R k ++ [(k : Int)] else plcL ls R k from rfl); generalize leg ls (k : Int) = x at *; obtain ⟨a, ha⟩ := Int.eq_ofNat_of_zero_le HX.out.1.1; have ha8 : (a : Int) < 8 := by have := HX.out.1.2; omega
      rw [ha] at h0; rw [ha, Int.toNat_natCast] at HC; replace h0 := Sine.keepc h0 HB.out; replace h1 := Sine.keepc h1 HB.out; replace h2 := Sine.keepc h2 HB.out; replace h3 := Sine.keepc h3 HB.out; replace h4 := Sine.keepc h4 HB.out; go_wp2; have B1 := below_alloc (Below.refl wr.heap.size wr) (Obj.cells #[Value.int IntKind.i64 ↑a, Value.int IntKind.i64 x.f1, Value.int IntKind.i64 x.f2, Value.int IntKind.i64 x.f3, Value.int IntKind.i64 x.f4] 49); replace HB := ak (below_step HB.out B1); replace HS := ak (HS.out.keep B1); replace HV := ak (Kd.R_alloc HV.out (Obj.cells #[Value.int IntKind.i64 ↑a, Value.int IntKind.i64 x.f1, Value.int IntKind.i64 x.f2, Value.int IntKind.i64 x.f3, Value.int IntKind.i64 x.f4] 49)); clear B1 h0 h1 h2 h3 h4; have h0 : (wr.alloc (Obj.cells #[Value.int IntKind.i64 ↑a, Value.int IntKind.i64 x.f1, Value.int IntKind.i64 x.f2, Value.int IntKind.i64 x.f3, Value.int IntKind.i64 x.f4] 49)).cell? ⟨wr.heap.size, 0, none⟩ = some (.int .i64 (a : Int)) := by go_simp
      generalize wr.alloc (Obj.cells #[Value.int IntKind.i64 ↑a, Value.int IntKind.i64 x.f1, Value.int IntKind.i64 x.f2, Value.int IntKind.i64 x.f3, Value.int IntKind.i64 x.f4] 49) = W1 at *; generalize wr.heap.size = X at *; have pa := HS.out.pb a (by omega); have k0 : (0 : Int) ≤ (k : Int) := by omega
      have k1 : (k : Int) < (ls.length : Int) := by omega
      have hTs := HS.out.ge; have hgs : g < W1.heap.size := World.block_lt_of_cell? _ _ HS.out.tc; by_cases hpa : Pq R a = true
      · rw [hpa] at pa
        rw [if_pos hpa] at HC
        go_quiet (fail)
        go_wp2_with ((with_reducible refine gate_builtin (b := .append) (xs := #[.tmp 22, .tmp 24]) rfl ?_); at_builtin; refine Kd.R_append (Kd.int .i64) (w0 := w) w.heap.size rfl (.tmp 22) (.tmp 24) 26 3 (.int .i64 0) 8 rfl Tryd.underlying26 info3 rfl (by decide) (by omega) (.slice vA (plcL ls R k).length vC) (plcL ls R k) (k : Int) [.int .i64 (k : Int)] (fun b => w.heap.size ≤ b) (fun _ => False) rfl rfl ?aP (fun _ hk => hk.elim) ?aF ?aO ?aB ?aS ?aL ?_; (case aP => exact rfl); (case aF => exact (by intro b hb; have := below_size HB.out; simp only [World.heap_drewN] at hb; omega)); (case aO => exact Kd.R_drewN HV.out _); (case aB => exact pw_below_drewN HB.out _); (case aS => exact (by simp only [World.heap_drewN]; exact below_size HB.out)); (case aL => have := HTL.out; omega)
                     intro v_ w_ ho hb hg hat; have HP1 := ak ho; have HP2 := ak hb
                     have HS5 := ak ((HS.out.keep (W := W1.drewN nq) (pw_below_drewN (Below.refl _ _) _)).blocks (W := w_) (hg.block _ qz121 (fun e => by have := HV.out.1 _ e.symm; omega)) (hg.block _ qz121 (fun e => by have := HV.out.1 _ e.symm; omega)) hg.size))
        exact ⟨⟨k + 1, by omega, by go_num, (by rw [HC.out]; exact HP1), HS5, HP2⟩, qz69⟩
      · have hpa' : Pq R a = false := by simpa using hpa
        rw [hpa'] at pa; rw [if_neg hpa] at HC
        go_quiet (fail)
        go_wp2; exact ⟨⟨k + 1, by omega, by go_num, ⟨(by rw [HC.out]; exact Kd.R_drewN HV.out _)⟩, ⟨HS.out.keep (pw_below_drewN (Below.refl _ _) _)⟩, ⟨pw_below_drewN HB.out _⟩⟩, qz69⟩
    · obtain rfl : k = ls.length := by omega
      go_wp2; exact bodyPost_ret (v := .slice vA (plcL ls R ls.length).length vC) (by simp [results, Tryd.results89, go_sem]) rfl ⟨_, rfl, HV.out, HB.out⟩
def brL (ls : L) (l : List Int) : List Int := l.filter (fun i => bridgeB ls i)
def bridgesL (ls : L) : List Int := brL ls (plcL ls (RR ls) ls.length)
theorem brL_sel (ls : L) (p : Nat → Bool) : ∀ n : Nat, brL ls (selTo p n) = selTo (fun k => p k && bridgeB ls k) n
  | 0 => rfl
  | n + 1 => by
    have ih := brL_sel ls p n; unfold brL at ih ⊢; unfold selTo; cases h : p n
    · rw [if_neg (by decide), if_neg (by simp), ih]
    · rw [if_pos rfl, List.filter_append, ih]
      cases q : bridgeB ls (n : Int)
      · rw [if_neg (by simp), List.filter_cons_of_neg (by simp [q]), List.filter_nil, List.append_nil]
      · rw [if_pos (by simp), List.filter_cons_of_pos (by simp [q]), List.filter_nil]
theorem bridges_loop (ls : L) (hn : ls.length ≤ 12) (hg : ∀ x ∈ ls, Good x) (p : Nat → Bool) (hp : ∀ k : Nat, k < ls.length → p k = (decide ((leg ls k).f0 ∈ plL (RR ls)) && bridgeB ls k)) : ∀ (d j : Nat), j + d = ls.length →
    Ev (fun k => spec_BridgesOf.l0 k ls (selTo p j) (j : Int)) (selTo p ls.length, true) := by
  have hv : legsB ls = true := legsB_iff.mpr ⟨hg, hn⟩; intro d
  induction d with
  | zero =>
    intro j hj; obtain rfl : j = ls.length := by omega
    refine Ev.step (f := fun _ => some (selTo p ls.length, true)) (fun k => ?_) (Ev.now _); simp only [spec_BridgesOf.l0]; rw [if_neg (by omega)]
  | succ d ih =>
    intro j hj; have hlt : j < ls.length := by omega
    have h := ih (j + 1) (by omega)
    have hs : selTo p (j + 1) = if p j = true then selTo p j ++ [(j : Int)] else selTo p j := rfl
    have hl := selTo_len p j; rw [hs, hp j hlt] at h; have h6 := l6Has_ev ls (leg ls j).f0 (by omega); rw [hv, Bool.true_and] at h6; refine Ev.step (f := fun k => (spec_l6Has.f k ls (leg ls j).f0).bind fun t629 => (if t629 = true then ((spec_l8Bridge.f k ls (j : Int)).bind fun t630 => (if t630 = true then (if (selTo p j).length < 17592186044416 then (spec_BridgesOf.l0 k ls (selTo p j ++ [(j : Int)]) ((j + 1 : Nat) : Int)) else (none)) else (spec_BridgesOf.l0 k ls (selTo p j) ((j + 1 : Nat) : Int)))) else (spec_BridgesOf.l0 k ls (selTo p j) ((j + 1 : Nat) : Int)))) (fun k => ?_) ?_
    · simp only [spec_BridgesOf.l0]
      rw [if_pos (by omega), if_pos (by omega), w64 (by omega) (by omega)]; rfl
    · refine Ev.bind h6 ?_
      by_cases c : (leg ls j).f0 ∈ plL (RR ls)
      · rw [decide_eq_true c, Bool.true_and] at h
        refine Ev.pos (decide_eq_true c) (Ev.bind (l8Bridge_ev hn hg j hlt c) ?_); by_cases q : bridgeB ls j = true
        · rw [if_pos q] at h
          exact Ev.pos q (Ev.pos (by omega) h)
        · rw [if_neg q] at h
          exact Ev.neg q h
      · rw [decide_eq_false c, Bool.false_and, if_neg (by decide)] at h
        exact Ev.neg (by rw [decide_eq_false c]; decide) h
theorem specBridges_ev (ls : L) (hb : ls.length ≤ 140737488351232) : Ev (fun k => spec_BridgesOf.f k ls) (if legsB ls = true then (bridgesL ls, true) else ([], false)) := by
  unfold spec_BridgesOf.f; refine Ev.bindc rfl (Ev.bind (l4Legs_ev ls hb) ?_); by_cases h : legsB ls = true
  · have h' := legsB_iff.mp h
    rw [if_pos h]; refine Ev.pos h ?_; unfold bridgesL plcL; rw [brL_sel]; refine bridges_loop ls h'.2 h'.1 _ (fun k hk => ?_) ls.length 0 (by omega); have hgk := leg_good h'.1 k hk; rw [Pq_eq, Int.toNat_of_nonneg hgk.1.1]
  · rw [if_neg h]
    exact Ev.neg h (Ev.now _)
end Go.Proofs.YtcafgpincnkcdaaDoor.Net
