/- The program's WorstLoop, in the form of the printed functions, over the laid table of sines. -/
import Derived.Maps.OwnSet
import Derived.Test.YtiooiefjcbooeaaDoorKFnExactWorstLoop0
import Derived.Test.YtiooiefjcbooeaaDoorKFnExactWorstLoop1
import Derived.Test.YtiooiefjcbooeaaDoorKFnExactWorstLoop2
import Derived.Test.YtiooiefjcbooeaaDoorKFnExactWorstLoop3
import Derived.Test.YtiooiefjcbooeaaDoorKFnExactWorstLoop4
import Derived.Test.YtiooiefjcbooeaaDoorKFnExactWorstLoopU1
import Derived.Test.YtiooiefjcbooeaaDoorKFnExactWorstLoopU2
/- The search for a way: the map of the legs by which the stations were found, and what the search leaves. -/
namespace Go.Proofs.YtiooiefjcbooeaaDoor.Net
open Go Go.Maps Go.WideElems Go.ChangeShapes Go.RowKit Go.Proofs.YtiooiefjcbooeaaDoorW.PrintWords Go.Proofs.YtiooiefjcbooeaaDoorW.PrintLast Go.Proofs.YtiooiefjcbooeaaDoorW.PrintMore Go.Proofs.YtiooiefjcbooeaaDoor.A Go.Proofs.YtiooiefjcbooeaaDoor.Plain
open Go.Proofs.YtiooiefjcbooeaaDoor.Tree (verts legs W)
open Go.Proofs.YtiooiefjcbooeaaDoor.Grow (Q)
set_option linter.unusedVariables false
set_option linter.unusedSimpArgs false
theorem keyed3 : Maps.Keyed Tryd.prog 3 := Maps.int_keyed Tryd.underlying3
theorem zero3 (w : World) : (zeroValue 3).run Tryd.prog w = .ok (.int .i64 0) w := by kernel_rfl
/-- Block b is a map of ints that holds what F says. -/
def MapAt (w : World) (b : Nat) (n : Nat) (F : Int → Option Int) : Prop := ∃ D : DataW Unit, w.ownsMap Tryd.prog 3 (plainElem Tryd.prog 3) b n D ∧ ∀ x : Int, 0 ≤ x → x < 100 → Maps.has D (.int .i64 x) = (F x).isSome ∧ D.atKey (.int .i64 x) (.lit (.int .i64 0)) = .lit (.int .i64 ((F x).getD 0))
theorem wf_small {x : Int} (h0 : -100 ≤ x) (h1 : x < 1000) : (Lit.int .i64 x).wf = true := by
  simp only [Lit.wf, IntKind.min, IntKind.max, IntKind.signed, IntKind.bits, Bool.and_eq_true, decide_eq_true_eq, if_true]
  omega
theorem MapAt.kept {w w' : World} {b n : Nat} {F : Int → Option Int} {row : Option Nat} (h : MapAt w b n F) (hg : w.grownBy w' row) (hne : some b ≠ row) : MapAt w' b n F := by
  obtain ⟨D, h1, h2⟩ := h
  exact ⟨D, h1.kept hg hne, h2⟩
theorem MapAt.lt {w : World} {b n : Nat} {F : Int → Option Int} (h : MapAt w b n F) : b < w.heap.size := by
  obtain ⟨D, h1, h2⟩ := h
  exact h1.lt
theorem MapAt.below {w w' : World} {b n : Nat} {F : Int → Option Int} (h : MapAt w b n F) (hb : Below w.heap.size w w') : MapAt w' b n F := by
  obtain ⟨D, h1, h2⟩ := h
  have hlt := h1.lt
  obtain ⟨es, clock, hh, F', hs, hD⟩ := h1
  exact ⟨D, ⟨es, clock, (hb.block b hlt).trans hh, F', hs, hD⟩, h2⟩
theorem MapAt.look {w : World} {b n : Nat} {F : Int → Option Int} (h : MapAt w b n F) (x : Int) (h0 : 0 ≤ x) (h1 : x < 100) :
    (Instr.lookup 105 (.map (some b)) (.int .i64 x) true).run Tryd.prog w = .ok (.tuple #[.int .i64 ((F x).getD 0), .bool (F x).isSome]) w ∧
    (Instr.lookup 105 (.map (some b)) (.int .i64 x) false).run Tryd.prog w = .ok (.int .i64 ((F x).getD 0)) w := by
  obtain ⟨D, hown, hF⟩ := h
  obtain ⟨hh, hat⟩ := hF x h0 h1
  have hkey := keyOf_int_mk Tryd.underlying3 (wf_small (x := x) (by omega) (by omega))
  have hz0 : (Lit.int .i64 0).wf = true := by decide
  obtain ⟨v, ps, hrun, hv⟩ := hown.look_ok keyed3 Tryd.underlying105 (zero3 w) (plainElem_int Tryd.underlying3 hz0) hkey
  obtain ⟨c, rfl, hc, _⟩ := plainElem_int_inv Tryd.underlying3 hv
  obtain ⟨c2, hrun2, hc2, _⟩ := hown.lookup_int keyed3 Tryd.underlying105 Tryd.underlying3 (zero3 w) hkey
  rw [hat] at hc2 hc
  have e1 : (F x).getD 0 = c := by simpa using congrArg Prod.fst hc
  have e2 : (F x).getD 0 = c2 := by simpa using hc2
  rw [hrun, hrun2, hh, ← e1, ← e2]
  exact ⟨rfl, rfl⟩
theorem MapAt.store {w : World} {b n : Nat} {F : Int → Option Int} (h : MapAt w b n F) (hn : n < 1000) (x v : Int) (h0 : 0 ≤ x) (h1 : x < 100) (hv : -100 ≤ v) (hv1 : v < 1000) :
    ∃ w', (Instr.mapUpdate 105 (.map (some b)) (.int .i64 x) (.int .i64 v)).run Tryd.prog w = .ok () w' ∧ MapAt w' b (n + 1) (fun y => if y = x then some v else F y) ∧ w.grownBy w' (some b) := by
  obtain ⟨D, hown, hF⟩ := h
  have hkey := keyOf_int_mk Tryd.underlying3 (wf_small (x := x) (by omega) (by omega))
  obtain ⟨w', hrun, hown', hg⟩ := hown.update keyed3 Tryd.underlying105 (by unfold maxLen; omega) hkey (plainElem_int Tryd.underlying3 (wf_small hv hv1))
  refine ⟨w', hrun, ⟨_, hown', fun y y0 y1 => ?_⟩, hg⟩
  have hD := hown.isMap
  have hk : ∀ z : Int, WideAt.IsKeyLit (.int .i64 z) := fun z => trivial
  obtain ⟨f1, f2⟩ := hF y y0 y1
  dsimp only
  by_cases e : y = x
  · subst e
    rw [if_pos rfl, Maps.has_put_same hD (hk y), Maps.atKey_put_same hD (hk y)]
    exact ⟨rfl, rfl⟩
  · have hne : (Lit.int .i64 y : Lit) ≠ .int .i64 x := fun h => e (by injection h)
    rw [if_neg e, Maps.has_put_other hne, Maps.atKey_put_other hne]
    exact ⟨f1, f2⟩
theorem MapAt.new (w : World) (r : Int) (h0 : 0 ≤ r) (h1 : r < 100) : ∃ w', (Instr.mapUpdate 105 (.map (some w.heap.size)) (.int .i64 r) (.int .i64 (-1))).run Tryd.prog (w.alloc (.map #[] 0)) = .ok () w' ∧ MapAt w' w.heap.size 1 (fun y => if y = r then some (-1) else none) ∧ Below w.heap.size w w' ∧ w.heap.size + 1 ≤ w'.heap.size := by
  have h : MapAt (w.alloc (.map #[] 0)) w.heap.size 0 (fun _ => none) := ⟨_, World.ownsMap_made w _ _ _, fun x _ _ => ⟨rfl, rfl⟩⟩
  obtain ⟨w', hrun, hm, hg⟩ := h.store (by omega) r (-1) h0 h1 (by omega) (by omega)
  have hsz : (w.alloc (Obj.map #[] 0)).heap.size = w.heap.size + 1 := by simp
  refine ⟨w', hrun, hm, ?_, by have := hg.size; omega⟩
  exact (below_alloc (Below.refl w.heap.size w) (Obj.map #[] 0)).grown hg (by omega) (fun k e => by injection e with e; omega)
theorem R_lits (xs : List Int) (W : World) (base : Nat) (ok : Nat → Prop) (hb : base ≤ W.heap.size) (hok : ok W.heap.size) (hl : xs.length ≤ 1000) :
    Kd.R (Kd.int .i64) 3 (W.alloc (Obj.cells (xs.map (Value.int .i64)).toArray 3)) base ok (.slice (some ⟨W.heap.size, 0, none⟩) xs.length xs.length) xs := by
  refine ⟨fun k hk => ?_, xs.map (Value.int .i64), ?_, Kd.reps_scalar xs⟩
  · have : W.heap.size = k := by simpa [Value.ownBlock] using hk
    subst this
    exact hok
  · have h2 := World.ownsRow_lit (base := base) (e := 3) (size := 1) W (xs.map (Value.int .i64)).toArray xs.length hb (by simp [maxLen]; omega) (by simp)
    show World.ownsRow _ _ _ 1 _ _ _
    simpa using h2
theorem R_blocks {w W : World} {base : Nat} {ok : Nat → Prop} {v : Value} {xs : List Int} (h : Kd.R (Kd.int .i64) 3 w base ok v xs) (hs : w.heap.size ≤ W.heap.size) (hb : ∀ b, ok b → b < w.heap.size → W.heap[b]? = w.heap[b]?) : Kd.R (Kd.int .i64) 3 W base ok v xs :=
  Kd.R_step h (fun k ho hl => hb k ho (by omega))
/-- A row of one's own, seen through its own block alone. -/
theorem R_own_ok {w : World} {base : Nat} {ok ok' : Nat → Prop} {v : Value} {xs : List Int} (h : Kd.R (Kd.int .i64) 3 w base ok v xs) (ho : ∀ b, v.ownBlock = some b → some b = v.ownBlock ∧ True → ok' b) : Kd.R (Kd.int .i64) 3 w base ok' v xs := by
  obtain ⟨h0, inner, hown, hr⟩ := h
  exact ⟨fun k hk => ho k hk ⟨hk.symm, trivial⟩, inner, hown, hr.imp_ (fun _ _ hp => hp)⟩
/-! ### What the search leaves -/
def bef (r : Int) (q : Q) (x : Int) : Option Int := if x = r then some (-1) else (q.find? (fun t => t.2.2 == x)).map (·.1)
theorem bef_cons {r i u s : Int} {q : Q} (hs : s ≠ r) (x : Int) : bef r ((i, u, s) :: q) x = if x = s then some i else bef r q x := by
  unfold bef
  by_cases h : x = r
  · rw [if_pos h, if_neg (fun e => hs (e.symm.trans h)), if_pos h]
  · rw [if_neg h, if_neg h, List.find?_cons]
    by_cases e : x = s
    · subst e; simp
    · have e' : (s == x) = false := by simpa using fun h => e h.symm
      simp only [e', if_neg e]
theorem bef_some {r : Int} {q : Q} (x : Int) : (bef r q x).isSome = decide (x ∈ verts r q) := by
  unfold bef
  by_cases h : x = r
  · subst h; rw [if_pos rfl]; simp [verts]
  · rw [if_neg h]
    induction q with
    | nil => simp [verts, h]
    | cons t q ih =>
      rw [List.find?_cons]
      by_cases e : t.2.2 = x
      · have e' : (t.2.2 == x) = true := by simpa using e
        simp only [e', Option.map_some, Option.isSome_some]
        exact (decide_eq_true (by simp [verts, e])).symm
      · have e' : (t.2.2 == x) = false := by simpa using e
        simp only [e']
        rw [ih, decide_eq_decide]
        simp only [verts, List.map_cons, List.mem_cons]
        constructor
        · rintro (h1 | h1)
          · exact Or.inl h1
          · exact Or.inr (Or.inr h1)
        · rintro (h1 | h1 | h1)
          · exact Or.inl h1
          · exact absurd h1.symm e
          · exact Or.inr h1
theorem okRange {e : Int → Int × Int} {use : Int → Bool} {r : Int} {n : Nat} {q : Q} (h : Bfs.Ok e use r n q) (h0 : 0 ≤ r ∧ r < 8) (hr : ∀ i : Int, 0 ≤ i → i < n → 0 ≤ (e i).1 ∧ (e i).1 < 8 ∧ 0 ≤ (e i).2 ∧ (e i).2 < 8) : ∀ s ∈ verts r q, 0 ≤ s ∧ s < 8 := by
  intro s hs
  simp only [verts, List.mem_cons, List.mem_map] at hs
  rcases hs with rfl | ⟨x, hx, rfl⟩
  · exact h0
  · obtain ⟨he, ⟨h0, h1⟩, _⟩ := h.ends x hx
    have := hr _ h0 h1
    rcases he with he | he <;> rw [he] at this <;> simp only at this <;> omega
/-- The stations of a way from a along legs. -/
def trail (e : Int → Int × Int) : Int → List Int → List Int
  | a, [] => [a]
  | a, i :: l => a :: trail e ((e i).1 + (e i).2 - a) l
theorem rev_loop (l : List Int) (hn : l.length ≤ 1000) : ∀ (d i : Nat) (x : List Int), x.length = l.length → (∀ m : Nat, m < l.length → x[m]? = if m < i ∨ l.length - i ≤ m then l[l.length - 1 - m]? else l[m]?) → l.length ≤ 2 * i + d → i ≤ l.length →
    Ev (fun k => slices_Reverse_int_int.l0 k x (i : Int) ((l.length : Int) - 1 - (i : Int))) l.reverse := by
  intro d
  induction d with
  | zero =>
    intro i x hx hm hd hi
    have : x = l.reverse := by
      apply List.ext_getElem?
      intro m
      by_cases h : m < l.length
      · rw [hm m h, if_pos (by omega), List.getElem?_reverse h]
      · rw [List.getElem?_eq_none (by omega), List.getElem?_eq_none (by simp; omega)]
    rw [← this]
    refine Ev.step (f := fun _ => some x) (fun k => ?_) (Ev.now _)
    simp only [slices_Reverse_int_int.l0]
    rw [if_neg (by omega)]
  | succ d ih =>
    intro i x hx hm hd hi
    by_cases c : (i : Int) < (l.length : Int) - 1 - (i : Int)
    · have e1 : wrap64 ((i : Int) + 1) = ((i + 1 : Nat) : Int) := by rw [w64 (by omega) (by omega)]; omega
      have e2 : wrap64 ((l.length : Int) - 1 - (i : Int) - 1) = (l.length : Int) - 1 - ((i + 1 : Nat) : Int) := by rw [w64 (by omega) (by omega)]; omega
      have ej : ((l.length : Int) - 1 - (i : Int)).toNat = l.length - 1 - i := by omega
      refine Ev.step (fun k => ?_) (ih (i + 1) ((x.set i (rd x ((l.length : Int) - 1 - (i : Int)))).set (l.length - 1 - i) (rd x (i : Int))) (by simp [hx]) ?_ (by omega) (by omega))
      · simp only [slices_Reverse_int_int.l0]
        rw [if_pos c, if_pos (by omega), if_pos (by omega), if_pos (by omega), if_pos (by omega), e1, e2, ej, Int.toNat_natCast]
      · have r1 : rd x (i : Int) = l[i]'(by omega) := by
          have := hm i (by omega)
          rw [if_neg (by omega), List.getElem?_eq_getElem (by omega : i < x.length), List.getElem?_eq_getElem (by omega : i < l.length)] at this
          rw [rd_at x i (by omega)]
          exact Option.some.inj this
        have r2 : rd x ((l.length : Int) - 1 - (i : Int)) = l[l.length - 1 - i]'(by omega) := by
          have := hm (l.length - 1 - i) (by omega)
          rw [if_neg (by omega), List.getElem?_eq_getElem (by omega : l.length - 1 - i < x.length), List.getElem?_eq_getElem (by omega : l.length - 1 - i < l.length)] at this
          rw [show (l.length : Int) - 1 - (i : Int) = ((l.length - 1 - i : Nat) : Int) by omega, rd_at x _ (by omega)]
          exact Option.some.inj this
        intro m hml
        rw [r1, r2, List.getElem?_set, List.getElem?_set]
        by_cases m1 : l.length - 1 - i = m
        · rw [if_pos m1, if_pos (by simp; omega), if_pos (by omega), ← m1, show l.length - 1 - (l.length - 1 - i) = i by omega, List.getElem?_eq_getElem (by omega : i < l.length)]
        · rw [if_neg m1]
          by_cases m2 : i = m
          · rw [if_pos m2, if_pos (by omega), if_pos (by omega), ← m2, List.getElem?_eq_getElem (by omega : l.length - 1 - i < l.length)]
          · rw [if_neg m2, hm m hml]
            by_cases m3 : m < i ∨ l.length - i ≤ m
            · rw [if_pos m3, if_pos (by omega)]
            · rw [if_neg m3, if_neg (by omega)]
    · have : x = l.reverse := by
        apply List.ext_getElem?
        intro m
        by_cases h : m < l.length
        · rw [hm m h, List.getElem?_reverse h]
          by_cases m3 : m < i ∨ l.length - i ≤ m
          · rw [if_pos m3]
          · rw [if_neg m3, show l.length - 1 - m = m by omega]
        · rw [List.getElem?_eq_none (by omega), List.getElem?_eq_none (by simp; omega)]
      rw [← this]
      refine Ev.step (f := fun _ => some x) (fun k => ?_) (Ev.now _)
      simp only [slices_Reverse_int_int.l0]
      rw [if_neg c]
theorem rev_ev (l : List Int) (hn : l.length ≤ 1000) : Ev (fun k => slices_Reverse_int_int.f k l) l.reverse := by
  have h := rev_loop l hn l.length 0 l rfl (fun m hm => by rw [if_neg (by omega)]) (by omega) (by omega)
  refine Ev.congr (fun k => ?_) h
  unfold slices_Reverse_int_int.f
  rw [w64 (by omega) (by omega)]
  simp
/-! ### The way back -/
theorem back_step {e : Int → Int × Int} {use : Int → Bool} {r : Int} {n : Nat} {q : Q} (h : Bfs.Ok e use r n q) {cur : Int} (hc : cur ∈ verts r q) (hr : cur ≠ r) :
    ∃ i u, bef r q cur = some i ∧ Bfs.back q cur = i :: Bfs.back q u ∧ u ∈ verts r q ∧ (e i).1 + (e i).2 - cur = u ∧ 0 ≤ i ∧ i < n := by
  obtain ⟨t, hx⟩ := h
  induction t with
  | nil => simp [verts] at hc; exact absurd hc hr
  | cons t hu hs hi ih =>
    rename_i q i u s
    obtain ⟨he, hin, _⟩ := hx (i, u, s) List.mem_cons_self
    have hsr : s ≠ r := fun e => hs (by rw [e]; simp [verts])
    have mono : ∀ {y}, y ∈ verts r q → y ∈ verts r ((i, u, s) :: q) := fun h => by
      simp only [verts, List.map_cons, List.mem_cons] at h ⊢
      rcases h with h | h
      · exact Or.inl h
      · exact Or.inr (Or.inr h)
    by_cases hcs : cur = s
    · subst hcs
      refine ⟨i, u, by rw [bef_cons hsr, if_pos rfl], ?_, mono hu, ?_, hin.1, hin.2⟩
      · have hus : u ≠ cur := fun e => hs (e ▸ hu)
        simp only [Bfs.back, if_pos, if_neg hus]
      · rcases he with he | he <;> rw [he] <;> simp only <;> omega
    · have hc' : cur ∈ verts r q := by
        simp only [verts, List.map_cons, List.mem_cons] at hc ⊢
        rcases hc with h | h | h
        · exact Or.inl h
        · exact absurd h hcs
        · exact Or.inr h
      obtain ⟨j, v, h1, h2, h3, h4, h5⟩ := ih hc' (fun x hm => hx x (List.mem_cons_of_mem _ hm))
      have hvs : v ≠ s := fun e => hs (e ▸ h3)
      refine ⟨j, v, by rw [bef_cons hsr, if_neg hcs, h1], ?_, mono h3, h4, h5⟩
      simp only [Bfs.back, if_neg hcs, if_neg hvs]
      exact h2
theorem back_root {e : Int → Int × Int} {use : Int → Bool} {r : Int} {n : Nat} {q : Q} (h : Bfs.Ok e use r n q) : Bfs.back q r = [] := by
  rw [Bfs.back_eq r h.tr (by simp [verts]), Tree.W_self]
theorem back_len {e : Int → Int × Int} {use : Int → Bool} {r : Int} {n : Nat} {q : Q} (h : Bfs.Ok e use r n q) {cur : Int} (hc : cur ∈ verts r q) : (Bfs.back q cur).length ≤ q.length := by
  rw [Bfs.back_eq r h.tr hc]; exact Tree.W_len q cur r
theorem trail_cons (e : Int → Int × Int) (a : Int) (l : List Int) : trail e a l = a :: (trail e a l).tail := by cases l <;> rfl
theorem trail_len (e : Int → Int × Int) : ∀ (l : List Int) (a : Int), (trail e a l).length = l.length + 1
  | [], a => rfl
  | i :: l, a => by simp [trail, trail_len e l]
def BackInv (e : Int → Int × Int) (r dst : Int) (R : Q) (cur : Int) (st lst : List Int) : Prop := cur ∈ verts r R ∧ lst ++ Bfs.back R cur = Bfs.back R dst ∧ st ++ (trail e cur (Bfs.back R cur)).tail = trail e dst (Bfs.back R dst)
theorem BackInv.start {e : Int → Int × Int} {r dst : Int} {R : Q} (h : dst ∈ verts r R) : BackInv e r dst R dst [dst] [] := ⟨h, rfl, by rw [List.singleton_append, ← trail_cons]⟩
theorem BackInv.next {e : Int → Int × Int} {r dst : Int} {R : Q} {cur i u : Int} {st lst : List Int} (h : BackInv e r dst R cur st lst) (hb : Bfs.back R cur = i :: Bfs.back R u) (hu : u ∈ verts r R) (he : (e i).1 + (e i).2 - cur = u) : BackInv e r dst R u (st ++ [u]) (lst ++ [i]) := by
  obtain ⟨h1, h2, h3⟩ := h
  refine ⟨hu, by rw [← h2, hb]; simp, ?_⟩
  rw [← h3, hb]
  simp only [trail, he, List.tail_cons]
  rw [List.append_assoc, List.singleton_append, ← trail_cons]
theorem BackInv.len {e : Int → Int × Int} {r dst : Int} {R : Q} {cur : Int} {st lst : List Int} (h : BackInv e r dst R cur st lst) {n : Nat} {use : Int → Bool} (ok : Bfs.Ok e use r n R) (hd : dst ∈ verts r R) : lst.length ≤ R.length ∧ st.length ≤ R.length + 1 := by
  obtain ⟨h1, h2, h3⟩ := h
  have a := congrArg List.length h2
  have b := congrArg List.length h3
  have c := back_len ok hd
  rw [List.length_append] at a b
  rw [trail_len] at b
  omega
/-- A way was found: the stations and the legs, from r on. -/
def PathYes (e : Int → Int × Int) (r dst : Int) (R : Q) (w : World) (en : Ending) (w' : World) : Prop := ∃ v1 v2, en = .returned (.tuple #[v1, v2, .bool true]) ∧ Kd.R (Kd.int .i64) 3 w' w.heap.size (fun b => some b ≠ v2.ownBlock) v1 (trail e dst (Bfs.back R dst)).reverse ∧ Kd.R (Kd.int .i64) 3 w' w.heap.size (fun b => some b ≠ v1.ownBlock) v2 (Bfs.back R dst).reverse ∧ Below w.heap.size w w'
def PathPost (e : Int → Int × Int) (r dst : Int) (R : Q) (w : World) (en : Ending) (w' : World) : Prop := if dst ∈ verts r R then PathYes e r dst R w en w' else en = .returned (.tuple #[.slice none 0 0, .slice none 0 0, .bool false]) ∧ Below w.heap.size w w'
def OutInv (ls : L) (use : Int → Bool) (r : Int) (R : Q) (k : Nat) (q : Q) : Prop := Bfs.Ok (ends ls) use r ls.length q ∧ k ≤ q.length + 1 ∧ ∃ f, Bfs.run (ends ls) use r ls.length f k q = R ∧ 8 < f + k
def InInv (ls : L) (use : Int → Bool) (r : Int) (a : Int) (q : Q) (i : Nat) (p : Q) : Prop := Bfs.Ok (ends ls) use r ls.length p ∧ Bfs.Ext q p ∧ Bfs.scan (ends ls) use r a (ls.length - i) i p = Bfs.scan (ends ls) use r a ls.length 0 q
theorem InInv.next {ls : L} {use : Int → Bool} {r a : Int} {q p : Q} {i : Nat} (h : InInv ls use r a q i p) (hi : i < ls.length) (ha : a ∈ verts r q) : InInv ls use r a q (i + 1) (Bfs.look (ends ls) use r a p i) := by
  obtain ⟨h1, h2, h3⟩ := h
  refine ⟨h1.look (ends ls) use r (h2.verts r ha) (by omega) (by omega), h2.trans (Bfs.look_ext (ends ls) use r a p i), ?_⟩
  rw [← h3, show ls.length - i = (ls.length - (i + 1)) + 1 by omega]
  rfl
theorem InInv.skip {ls : L} {use : Int → Bool} {r a : Int} {q p : Q} {i : Nat} (h : InInv ls use r a q i p) (hi : i < ls.length) (hs : ((ends ls i).1 ≠ a ∧ (ends ls i).2 ≠ a) ∨ use i = false) : InInv ls use r a q (i + 1) p := by
  obtain ⟨h1, h2, h3⟩ := h
  refine ⟨h1, h2, ?_⟩
  rw [← h3, show ls.length - i = (ls.length - (i + 1)) + 1 by omega]
  have e : Bfs.look (ends ls) use r a p i = p := by unfold Bfs.look; rw [if_pos hs]
  show _ = Bfs.scan (ends ls) use r a _ ((i : Int) + 1) (Bfs.look (ends ls) use r a p i)
  rw [e]
  rfl
theorem OutInv.next {ls : L} {use : Int → Bool} {r a : Int} {q p R : Q} {k : Nat} (h : OutInv ls use r R k q) (hp : InInv ls use r a q ls.length p) (hk : k < (Bfs.queue r q).length) (ha : a = (Bfs.queue r q).getD k 0) (h7 : q.length ≤ 7) : OutInv ls use r R (k + 1) p := by
  obtain ⟨h1, h2, f, h3, h4⟩ := h
  obtain ⟨p1, ⟨t, ht⟩, p3⟩ := hp
  have hql := Bfs.queue_len r q
  rw [Nat.sub_self] at p3
  obtain ⟨f, rfl⟩ : ∃ m, f = m + 1 := ⟨f - 1, by omega⟩
  refine ⟨p1, by rw [ht, List.length_append]; omega, f, ?_, by omega⟩
  rw [Bfs.run, if_pos hk, ← ha] at h3
  have p3' : p = Bfs.scan (ends ls) use r a ls.length 0 q := p3
  rw [p3']
  exact h3
theorem OutInv.stop {ls : L} {use : Int → Bool} {r : Int} {q R : Q} {k : Nat} (h : OutInv ls use r R k q) (hk : ¬ k < (Bfs.queue r q).length) : R = q := by
  obtain ⟨h1, h2, f, h3, h4⟩ := h
  cases f with
  | zero => exact h3.symm
  | succ f => rw [Bfs.run, if_neg hk] at h3; exact h3.symm
end Go.Proofs.YtiooiefjcbooeaaDoor.Net

/- The walk of the search for a way (over the function (*loop.example/g00933/impl.network).loop$1). -/
namespace Go.Proofs.YtiooiefjcbooeaaDoor.Net
open Go Go.Maps Go.WideElems Go.ChangeShapes Go.RowKit Go.Proofs.YtiooiefjcbooeaaDoorW.PrintWords Go.Proofs.YtiooiefjcbooeaaDoorW.PrintLast Go.Proofs.YtiooiefjcbooeaaDoorW.PrintMore Go.Proofs.YtiooiefjcbooeaaDoor.A Go.Proofs.YtiooiefjcbooeaaDoor.Plain
open Go.Proofs.YtiooiefjcbooeaaDoor.Tree (verts legs W)
open Go.Proofs.YtiooiefjcbooeaaDoor.Grow (Q)
set_option linter.unusedVariables false
set_option linter.unusedSimpArgs false
set_option maxHeartbeats 4000000 in
set_option maxRecDepth 100000 in
theorem pathTree (A : Option Addr) (c : Nat) (ls : L) (p0 : Addr) (use : Int → Bool) (r dst : Int) (w : World) (hr0 : Kd.C k56 w A ls.length ls) (hc : ls.length ≤ c) (hn : ls.length ≤ 12) (hg : ∀ x ∈ ls, Good x) (hr : 0 ≤ r ∧ r < 8) (hd : 0 ≤ dst ∧ dst < 8)
    (HU : ∀ (i : Nat) (W : World), i < ls.length → Below w.heap.size w W → Calls Tryd.prog 107 #[.int .i64 (i : Int), .pointer (some p0)] W fun e W' => e = .returned (.bool (use i)) ∧ W' = W) (R : Q) (hR : Bfs.run (ends ls) use r ls.length 9 0 [] = R) :
    Calls Tryd.prog 93 #[.slice A ls.length c, .func (Fn.func 107) #[] #[.pointer (some p0)], .int .i64 r, .int .i64 dst] w (PathPost (ends ls) r dst R w) := by
  have HR := Aside0.mk hr0
  have HG := Aside0.mk hg
  have HU' := Aside0.mk HU
  have HB := Aside0.mk (Below.refl w.heap.size w)
  obtain ⟨w1, hrun, hmap, hbel, hsz⟩ := MapAt.new w r hr.1 (by omega)
  have hmk := run_makeMap (P := Tryd.prog) 105 w
  have HM := Aside0.mk hmap
  have HB1 := Aside0.mk hbel
  have HI := Aside0.mk (show OutInv ls use r R 0 [] from ⟨Bfs.Ok.nil _ _ _ _, by simp, 9, hR, by omega⟩)
  clear hr0 hg HU hmap hbel hR
  go_enter Tryd.func93, Tryd.ntmps93
  go_wp2
  have HO := Aside0.mk (R_lits [r] w1 w.heap.size (fun b => b ≠ w.heap.size) (by omega) (by omega) (by simp))
  replace HM := Aside0.mk (HM.out.below (below_alloc (Below.refl w1.heap.size w1) (Obj.cells #[Value.int IntKind.i64 r] 3)))
  replace HB1 := Aside0.mk (below_alloc HB1.out (Obj.cells #[Value.int IntKind.i64 r] 3))
  rw [show ([r].map (Value.int .i64)).toArray = #[Value.int IntKind.i64 r] from rfl] at HO
  clear hmk hrun hsz HB
  go_loopw [12, 13] (fun v12 v13 w' => ∃ (k : Nat) (q : Q), v13 = .int .i64 k ∧ Aside0 (OutInv ls use r R k q) ∧ Aside0 (Kd.R (Kd.int .i64) 3 w' w.heap.size (fun b => b ≠ w.heap.size) v12 (Bfs.queue r q)) ∧ Aside0 (MapAt w' w.heap.size (q.length + 1) (bef r q)) ∧ Aside0 (Below w.heap.size w w')) (fun _ v13 _ => 9 - (intOf v13).toNat)
  case atStart => exact ⟨0, [], rfl, HI, HO, HM, HB1⟩
  case round =>
    obtain ⟨k, q, rfl, HI2, HO2, HM2, HB⟩ := hrel
    clear HI HO HM HB1
    obtain ⟨qA, qC, eq_⟩ := Kd.R_slice HO2.out
    subst eq_
    have HQL := Aside0.mk (Bfs.queue_len r q)
    have HQ7 := Aside0.mk (HI2.out.1.len (ends ls) use r hr (Good.range HG.out))
    by_cases hk : k < (Bfs.queue r q).length
    · have hkI : (k : Int) < ((Bfs.queue r q).length : Int) := by omega
      have HK := Aside0.mk hk
      obtain ⟨a, hqa⟩ : ∃ a, a = (Bfs.queue r q).getD k 0 := ⟨_, rfl⟩
      have HQA := Aside0.mk hqa
      have HAV : Aside0 (a ∈ verts r q) := ⟨by
        rw [hqa, ← Bfs.mem_queue, List.getD_eq_getElem?_getD, List.getElem?_eq_getElem hk]
        exact List.getElem_mem hk⟩
      have HA8 : Aside0 (0 ≤ a ∧ a < 8) := ⟨okRange HI2.out.1 hr (Good.range HG.out) a HAV.out⟩
      have HIn := Aside0.mk (show InInv ls use r a q 0 q from ⟨HI2.out.1, Bfs.Ext.refl q, rfl⟩)
      clear hk hqa
      go_wp2
      go_loopw [12, 38] (fun v12 v38 w' => ∃ (i : Nat) (p : Q), v38 = .int .i64 i ∧ i ≤ ls.length ∧ Aside0 (InInv ls use r a q i p) ∧ Aside0 (Kd.R (Kd.int .i64) 3 w' w.heap.size (fun b => b ≠ w.heap.size) v12 (Bfs.queue r p)) ∧ Aside0 (MapAt w' w.heap.size (p.length + 1) (bef r p)) ∧ Aside0 (Below w.heap.size w w')) (fun _ v38 _ => ls.length - (intOf v38).toNat)
      case atStart => exact ⟨0, q, rfl, Nat.zero_le _, HIn, HO2, HM2, HB⟩
      case round =>
        obtain ⟨i, p, rfl, hi, HJ, HO, HM, HB2⟩ := hrel
        clear HIn HO2 HM2 HB
        have HB := HB2
        clear HB2
        obtain ⟨qA2, qC2, eq_⟩ := Kd.R_slice HO.out
        subst eq_
        by_cases hlt : i < ls.length
        · obtain ⟨_, e2, h0, h1, h2, h3, h4⟩ := at_T56 HR.out (i : Int) (by omega) (by omega)
          cases e2
          have HX : Aside0 (Good (leg ls (i : Int))) := ⟨leg_good HG.out i hlt⟩
          have HE := Aside0.mk (show ends ls i = ((leg ls i).f0, (leg ls i).f1) from rfl)
          rw [Int.toNat_natCast, show rd_T56 ls (i : Int) = leg ls i from rfl] at h0 h1 h2 h3 h4
          have qk : ∃ ad, qA2 = some ad ∧ wr.cell? (ad.add k) = some (.int .i64 a) := by
            obtain ⟨t, ht⟩ := HJ.out.2.1.queue r
            obtain ⟨ad, h1, h2⟩ := Kd.at_int (Kd.R_reads' HO.out).2.2 (k : Int) (by omega) (by rw [ht, List.length_append]; have := HK.out; omega)
            refine ⟨ad, h1, ?_⟩
            rw [Int.toNat_natCast] at h2
            rw [h2]
            show some (Value.int .i64 ((Bfs.queue r p).getD (k : Int).toNat 0)) = _
            rw [Int.toNat_natCast, HQA.out, ← HJ.out.2.1.queue_getD r HK.out]
          obtain ⟨qad, eqa, qk⟩ := qk
          subst eqa
          have hkI2 : (k : Int) < ((Bfs.queue r p).length : Int) := by
            obtain ⟨t, ht⟩ := HJ.out.2.1.queue r
            rw [ht, List.length_append]; have := HK.out; omega
          have hkI0 : (0 : Int) ≤ (k : Int) := by omega
          generalize leg ls (i : Int) = x at *
          replace h0 := Sine.keepc h0 HB.out
          replace h1 := Sine.keepc h1 HB.out
          replace h2 := Sine.keepc h2 HB.out
          replace h3 := Sine.keepc h3 HB.out
          replace h4 := Sine.keepc h4 HB.out
          go_wp2
          have B1 := below_alloc (Below.refl wr.heap.size wr) (Obj.cells #[Value.int IntKind.i64 x.f0, Value.int IntKind.i64 x.f1, Value.int IntKind.i64 x.f2, Value.int IntKind.i64 x.f3, Value.int IntKind.i64 x.f4] 56)
          replace HB := Aside0.mk (below_step HB.out B1)
          replace HM := Aside0.mk (HM.out.below B1)
          replace HO := Aside0.mk (Kd.R_alloc HO.out (Obj.cells #[Value.int IntKind.i64 x.f0, Value.int IntKind.i64 x.f1, Value.int IntKind.i64 x.f2, Value.int IntKind.i64 x.f3, Value.int IntKind.i64 x.f4] 56))
          replace qk := Sine.keepc qk B1
          clear B1 h0 h1 h2 h3 h4
          have h0 : (wr.alloc (Obj.cells #[Value.int IntKind.i64 x.f0, Value.int IntKind.i64 x.f1, Value.int IntKind.i64 x.f2, Value.int IntKind.i64 x.f3, Value.int IntKind.i64 x.f4] 56)).cell? ⟨wr.heap.size, 0, none⟩ = some (.int .i64 x.f0) := by go_simp
          have h1 : (wr.alloc (Obj.cells #[Value.int IntKind.i64 x.f0, Value.int IntKind.i64 x.f1, Value.int IntKind.i64 x.f2, Value.int IntKind.i64 x.f3, Value.int IntKind.i64 x.f4] 56)).cell? ⟨wr.heap.size, 1, none⟩ = some (.int .i64 x.f1) := by go_simp
          generalize wr.alloc (Obj.cells #[Value.int IntKind.i64 x.f0, Value.int IntKind.i64 x.f1, Value.int IntKind.i64 x.f2, Value.int IntKind.i64 x.f3, Value.int IntKind.i64 x.f4] 56) = W1 at *
          generalize wr.heap.size = X at *
          have w0 : wrap64 (x.f0 + x.f1) = x.f0 + x.f1 := by have := HX.out; have a1 := this.1; have a2 := this.2.1; unfold wrap64; omega
          have w2 : wrap64 (x.f0 + x.f1 - a) = x.f0 + x.f1 - a := by have := HX.out; have a1 := this.1; have a2 := this.2.1; have a3 := HA8.out; unfold wrap64; omega
          have na8 := HA8.out
          have nx0 := HX.out.1
          have nx1 := HX.out.2.1
          by_cases c1 : x.f0 = a
          · have v0 : wrap64 (a + x.f1) = a + x.f1 := by rw [← c1]; exact w0
            have v1 : wrap64 (a + x.f1 - a) = x.f1 := by unfold wrap64; omega
            have v2 : a + x.f1 - a = x.f1 := by omega
            go_quiet (fail)
            go_wp2
            have BD := pw_below_drewN (Below.refl W1.heap.size W1) nq
            replace HB := Aside0.mk (below_step HB.out BD)
            replace HM := Aside0.mk (HM.out.below BD)
            replace HO := Aside0.mk (Kd.R_drewN HO.out nq)
            replace h0 := Sine.keepc h0 BD
            replace h1 := Sine.keepc h1 BD
            replace qk := Sine.keepc qk BD
            clear BD
            generalize W1.drewN nq = W2 at *
            cases hu : use (i : Int)
            · have HUi := fun W hb => HU'.out i W hlt hb
              rw [hu] at HUi
              replace HUi := Aside0.mk HUi
              go_quiet (first | (go_at_call 107; refine (HUi.out _ (by (repeat (first | exact HB.out | exact Below.refl _ _ | apply below_alloc | apply pw_below_drewN | apply below_drew1)); done)).mono ?_; rintro e w' ⟨rfl, rfl⟩; exact ⟨rfl, _, rfl⟩))
              go_wp2
              exact ⟨⟨i + 1, p, by go_num, by omega, ⟨HJ.out.skip hlt (Or.inr hu)⟩, ⟨Kd.R_drewN HO.out _⟩, ⟨HM.out.below (pw_below_drewN (Below.refl _ _) _)⟩, ⟨pw_below_drewN HB.out _⟩⟩, by simp [intOf]; omega⟩
            · have HUi := fun W hb => HU'.out i W hlt hb
              rw [hu] at HUi
              replace HUi := Aside0.mk HUi
              go_quiet (first | (go_at_call 107; refine (HUi.out _ (by (repeat (first | exact HB.out | exact Below.refl _ _ | apply below_alloc | apply pw_below_drewN | apply below_drew1)); done)).mono ?_; rintro e w' ⟨rfl, rfl⟩; exact ⟨rfl, _, rfl⟩))
              have BD := pw_below_drewN (Below.refl W2.heap.size W2) nq
              replace HB := Aside0.mk (below_step HB.out BD)
              replace HM := Aside0.mk (HM.out.below BD)
              replace HO := Aside0.mk (Kd.R_drewN HO.out nq)
              replace h0 := Sine.keepc h0 BD
              replace h1 := Sine.keepc h1 BD
              replace qk := Sine.keepc qk BD
              clear BD
              generalize W2.drewN nq = W3 at *
              have hlk := (HM.out.look x.f1 (by omega) (by omega)).1
              have hmem := bef_some (r := r) (q := p) x.f1
              have HSTEP := Aside0.mk (HJ.out.next hlt HAV.out)
              have hot : Bfs.other (ends ls) i a = x.f1 := by unfold Bfs.other; rw [HE.out]; simp only; omega
              have hnsk : ¬ (((ends ls i).1 ≠ a ∧ (ends ls i).2 ≠ a) ∨ use i = false) := by
                rw [HE.out, hu]
                rintro (⟨d1, d2⟩ | d1)
                · first | exact d1 c1 | exact d2 c2
                · cases d1
              by_cases hin : x.f1 ∈ verts r p
              · rw [decide_eq_true hin] at hmem
                have hlook : Bfs.look (ends ls) use r a p i = p := by unfold Bfs.look; rw [if_neg hnsk, hot, if_pos hin]
                rw [hmem] at hlk
                rw [hlook] at HSTEP
                clear hmem hot hnsk hlook hin
                go_wp2
                exact ⟨⟨i + 1, p, by go_num, by omega, HSTEP, HO, HM, HB⟩, by simp [intOf]; omega⟩
              · rw [decide_eq_false hin] at hmem
                have hlook : Bfs.look (ends ls) use r a p i = ((i : Int), a, x.f1) :: p := by unfold Bfs.look; rw [if_neg hnsk, hot, if_neg hin]
                rw [hmem] at hlk
                rw [hlook] at HSTEP
                have HP7 := Aside0.mk (HJ.out.1.len (ends ls) use r hr (Good.range HG.out))
                obtain ⟨W4, hst, hm4, hg4⟩ := HM.out.store (by have := HP7.out; omega) x.f1 (i : Int) (by omega) (by omega) (by omega) (by omega)
                have HM4 := Aside0.mk hm4
                have HG4 := Aside0.mk hg4
                have HNE := Aside0.mk (show x.f1 ≠ r from fun e => hin (by rw [e]; simp [verts]))
                have HBM : Aside0 (bef r (((i : Int), a, x.f1) :: p) = fun y => if y = x.f1 then some (i : Int) else bef r p y) := ⟨by funext y; exact bef_cons HNE.out y⟩
                have HQQ : Aside0 (Bfs.queue r (((i : Int), a, x.f1) :: p) = Bfs.queue r p ++ [x.f1]) := ⟨by simp [Bfs.queue]⟩
                have HMB : Aside0 (w.heap.size < W3.heap.size) := ⟨HM.out.lt⟩
                have HO4 : Aside0 (Kd.R (Kd.int .i64) 3 W4 w.heap.size (fun b => b ≠ w.heap.size) (.slice (some qad) (Bfs.queue r p).length qC2) (Bfs.queue r p)) := ⟨R_blocks HO.out hg4.size (fun b hb hl => hg4.block b hl (fun e => by injection e with e; exact hb e))⟩
                have HB4 : Aside0 (Below w.heap.size w W4) := ⟨HB.out.grown hg4 (by have := HMB.out; omega) (fun b e => by injection e with e; omega)⟩
                clear hmem hot hnsk hlook hin hm4 hg4
                go_wp2_with ((with_reducible refine gate_builtin (b := .append) (xs := #[.tmp 86, .tmp 88]) rfl ?_); at_builtin; refine Kd.R_append (Kd.int .i64) (w0 := w) w.heap.size rfl (.tmp 86) (.tmp 88) 38 3 (.int .i64 0) 8 rfl Tryd.underlying38 info3 rfl (by decide) (by omega) (.slice (some qad) (Bfs.queue r p).length qC2) (Bfs.queue r p) x.f1 [.int .i64 x.f1] (fun b => b ≠ w.heap.size) (fun _ => False) rfl rfl ?aP (fun _ hk => hk.elim) ?aF ?aO ?aB ?aS ?aL ?_; (case aP => exact rfl); (case aF => intro b hb; have := HM4.out.lt; omega); (case aO => exact HO4.out); (case aB => exact HB4.out); (case aS => have := HM4.out.lt; omega); (case aL => rw [Bfs.queue_len]; have := HP7.out; omega); intro v1 w1' ho hb hg hat; rw [← HQQ.out] at ho; have HO5 := Aside0.mk ho; have HB5 := Aside0.mk hb; have HM5 : Aside0 (MapAt w1' w.heap.size (p.length + 1 + 1) (bef r (((i : Int), a, x.f1) :: p))) := ⟨by rw [HBM.out]; exact HM4.out.kept hg (fun e => HO4.out.1 _ e.symm rfl)⟩; clear ho hb hg hat)
                exact ⟨⟨i + 1, ((i : Int), a, x.f1) :: p, by go_num, by omega, HSTEP, HO5, HM5, HB5⟩, by simp [intOf]; omega⟩
          · by_cases c2 : x.f1 = a
            · have v0 : wrap64 (x.f0 + a) = x.f0 + a := by rw [← c2]; exact w0
              have v1 : wrap64 x.f0 = x.f0 := by unfold wrap64; omega
              go_quiet (fail)
              go_wp2
              have BD := pw_below_drewN (Below.refl W1.heap.size W1) nq
              replace HB := Aside0.mk (below_step HB.out BD)
              replace HM := Aside0.mk (HM.out.below BD)
              replace HO := Aside0.mk (Kd.R_drewN HO.out nq)
              replace h0 := Sine.keepc h0 BD
              replace h1 := Sine.keepc h1 BD
              replace qk := Sine.keepc qk BD
              clear BD
              generalize W1.drewN nq = W2 at *
              cases hu : use (i : Int)
              · have HUi := fun W hb => HU'.out i W hlt hb
                rw [hu] at HUi
                replace HUi := Aside0.mk HUi
                go_quiet (first | (go_at_call 107; refine (HUi.out _ (by (repeat (first | exact HB.out | exact Below.refl _ _ | apply below_alloc | apply pw_below_drewN | apply below_drew1)); done)).mono ?_; rintro e w' ⟨rfl, rfl⟩; exact ⟨rfl, _, rfl⟩))
                go_wp2
                exact ⟨⟨i + 1, p, by go_num, by omega, ⟨HJ.out.skip hlt (Or.inr hu)⟩, ⟨Kd.R_drewN HO.out _⟩, ⟨HM.out.below (pw_below_drewN (Below.refl _ _) _)⟩, ⟨pw_below_drewN HB.out _⟩⟩, by simp [intOf]; omega⟩
              · have HUi := fun W hb => HU'.out i W hlt hb
                rw [hu] at HUi
                replace HUi := Aside0.mk HUi
                go_quiet (first | (go_at_call 107; refine (HUi.out _ (by (repeat (first | exact HB.out | exact Below.refl _ _ | apply below_alloc | apply pw_below_drewN | apply below_drew1)); done)).mono ?_; rintro e w' ⟨rfl, rfl⟩; exact ⟨rfl, _, rfl⟩))
                have BD := pw_below_drewN (Below.refl W2.heap.size W2) nq
                replace HB := Aside0.mk (below_step HB.out BD)
                replace HM := Aside0.mk (HM.out.below BD)
                replace HO := Aside0.mk (Kd.R_drewN HO.out nq)
                replace h0 := Sine.keepc h0 BD
                replace h1 := Sine.keepc h1 BD
                replace qk := Sine.keepc qk BD
                clear BD
                generalize W2.drewN nq = W3 at *
                have hlk := (HM.out.look x.f0 (by omega) (by omega)).1
                have hmem := bef_some (r := r) (q := p) x.f0
                have HSTEP := Aside0.mk (HJ.out.next hlt HAV.out)
                have hot : Bfs.other (ends ls) i a = x.f0 := by unfold Bfs.other; rw [HE.out]; simp only; omega
                have hnsk : ¬ (((ends ls i).1 ≠ a ∧ (ends ls i).2 ≠ a) ∨ use i = false) := by
                  rw [HE.out, hu]
                  rintro (⟨d1, d2⟩ | d1)
                  · first | exact d1 c1 | exact d2 c2
                  · cases d1
                by_cases hin : x.f0 ∈ verts r p
                · rw [decide_eq_true hin] at hmem
                  have hlook : Bfs.look (ends ls) use r a p i = p := by unfold Bfs.look; rw [if_neg hnsk, hot, if_pos hin]
                  rw [hmem] at hlk
                  rw [hlook] at HSTEP
                  clear hmem hot hnsk hlook hin
                  go_wp2
                  exact ⟨⟨i + 1, p, by go_num, by omega, HSTEP, HO, HM, HB⟩, by simp [intOf]; omega⟩
                · rw [decide_eq_false hin] at hmem
                  have hlook : Bfs.look (ends ls) use r a p i = ((i : Int), a, x.f0) :: p := by unfold Bfs.look; rw [if_neg hnsk, hot, if_neg hin]
                  rw [hmem] at hlk
                  rw [hlook] at HSTEP
                  have HP7 := Aside0.mk (HJ.out.1.len (ends ls) use r hr (Good.range HG.out))
                  obtain ⟨W4, hst, hm4, hg4⟩ := HM.out.store (by have := HP7.out; omega) x.f0 (i : Int) (by omega) (by omega) (by omega) (by omega)
                  have HM4 := Aside0.mk hm4
                  have HG4 := Aside0.mk hg4
                  have HNE := Aside0.mk (show x.f0 ≠ r from fun e => hin (by rw [e]; simp [verts]))
                  have HBM : Aside0 (bef r (((i : Int), a, x.f0) :: p) = fun y => if y = x.f0 then some (i : Int) else bef r p y) := ⟨by funext y; exact bef_cons HNE.out y⟩
                  have HQQ : Aside0 (Bfs.queue r (((i : Int), a, x.f0) :: p) = Bfs.queue r p ++ [x.f0]) := ⟨by simp [Bfs.queue]⟩
                  have HMB : Aside0 (w.heap.size < W3.heap.size) := ⟨HM.out.lt⟩
                  have HO4 : Aside0 (Kd.R (Kd.int .i64) 3 W4 w.heap.size (fun b => b ≠ w.heap.size) (.slice (some qad) (Bfs.queue r p).length qC2) (Bfs.queue r p)) := ⟨R_blocks HO.out hg4.size (fun b hb hl => hg4.block b hl (fun e => by injection e with e; exact hb e))⟩
                  have HB4 : Aside0 (Below w.heap.size w W4) := ⟨HB.out.grown hg4 (by have := HMB.out; omega) (fun b e => by injection e with e; omega)⟩
                  clear hmem hot hnsk hlook hin hm4 hg4
                  go_wp2_with ((with_reducible refine gate_builtin (b := .append) (xs := #[.tmp 86, .tmp 88]) rfl ?_); at_builtin; refine Kd.R_append (Kd.int .i64) (w0 := w) w.heap.size rfl (.tmp 86) (.tmp 88) 38 3 (.int .i64 0) 8 rfl Tryd.underlying38 info3 rfl (by decide) (by omega) (.slice (some qad) (Bfs.queue r p).length qC2) (Bfs.queue r p) x.f0 [.int .i64 x.f0] (fun b => b ≠ w.heap.size) (fun _ => False) rfl rfl ?aP (fun _ hk => hk.elim) ?aF ?aO ?aB ?aS ?aL ?_; (case aP => exact rfl); (case aF => intro b hb; have := HM4.out.lt; omega); (case aO => exact HO4.out); (case aB => exact HB4.out); (case aS => have := HM4.out.lt; omega); (case aL => rw [Bfs.queue_len]; have := HP7.out; omega); intro v1 w1' ho hb hg hat; rw [← HQQ.out] at ho; have HO5 := Aside0.mk ho; have HB5 := Aside0.mk hb; have HM5 : Aside0 (MapAt w1' w.heap.size (p.length + 1 + 1) (bef r (((i : Int), a, x.f0) :: p))) := ⟨by rw [HBM.out]; exact HM4.out.kept hg (fun e => HO4.out.1 _ e.symm rfl)⟩; clear ho hb hg hat)
                  exact ⟨⟨i + 1, ((i : Int), a, x.f0) :: p, by go_num, by omega, HSTEP, HO5, HM5, HB5⟩, by simp [intOf]; omega⟩
            · go_quiet (fail)
              go_wp2
              go_quiet (fail)
              go_wp2
              exact ⟨⟨i + 1, p, by go_num, by omega, ⟨HJ.out.skip hlt (Or.inl (by rw [HE.out]; exact ⟨c1, c2⟩))⟩, ⟨Kd.R_drewN HO.out _⟩, ⟨HM.out.below (pw_below_drewN (Below.refl _ _) _)⟩, ⟨pw_below_drewN HB.out _⟩⟩, by simp [intOf]; omega⟩
        · obtain rfl : i = ls.length := by omega
          have HN := Aside0.mk (HI2.out.next HJ.out HK.out HQA.out HQ7.out)
          have ek : wrap64 ((k : Int) + 1) = (k : Int) + 1 := by have := HK.out; have := HQL.out; have := HQ7.out; unfold wrap64; omega
          go_wp2
          go_roundw
          case rel => exact ⟨k + 1, p, by go_num, HN, HO, HM, HB⟩
          case measure =>
            try simp only [ek]
            clear ek
            have h1 := HK.out
            have h2 := HQL.out
            have h3 := HQ7.out
            simp [intOf]; omega
    · have hkI : ¬ (k : Int) < ((Bfs.queue r q).length : Int) := by omega
      have hRq := HI2.out.stop hk
      subst hRq
      have hlk := (HM2.out.look dst (by omega) (by omega)).1
      have hmem := bef_some (r := r) (q := R) dst
      by_cases hin : dst ∈ verts r R
      · rw [decide_eq_true hin] at hmem
        rw [hmem] at hlk
        clear hmem
        go_wp2
        have HOk := Aside0.mk HI2.out.1
        have HD7 := Aside0.mk (back_len HI2.out.1 hin)
        have HIN := Aside0.mk hin
        clear hlk hin HO2
        have HV1 : Aside0 (Kd.R (Kd.int .i64) 3 ((wr.alloc (Obj.cells #[Value.int IntKind.i64 dst] 3)).alloc (Obj.cells #[] 3)) w.heap.size (fun b => b ≠ w.heap.size ∧ some b ≠ (Value.slice (some ⟨wr.heap.size + 1, 0, none⟩) 0 0).ownBlock) (.slice (some ⟨wr.heap.size, 0, none⟩) 1 1) [dst]) := ⟨Kd.R_alloc (R_lits [dst] wr w.heap.size (fun b => b ≠ w.heap.size ∧ some b ≠ (Value.slice (some ⟨wr.heap.size + 1, 0, none⟩) 0 0).ownBlock) (by have := HM2.out.lt; omega) ⟨by have := HM2.out.lt; omega, by simp [Value.ownBlock]⟩ (by simp)) _⟩
        have HV2 : Aside0 (Kd.R (Kd.int .i64) 3 ((wr.alloc (Obj.cells #[Value.int IntKind.i64 dst] 3)).alloc (Obj.cells #[] 3)) w.heap.size (fun b => b ≠ w.heap.size ∧ some b ≠ (Value.slice (some ⟨wr.heap.size, 0, none⟩) 1 1).ownBlock) (.slice (some ⟨wr.heap.size + 1, 0, none⟩) 0 0) []) := ⟨by
          have h := R_lits [] (wr.alloc (Obj.cells #[Value.int IntKind.i64 dst] 3)) w.heap.size (fun b => b ≠ w.heap.size ∧ some b ≠ (Value.slice (some ⟨wr.heap.size, 0, none⟩) 1 1).ownBlock) (by have := HM2.out.lt; simp; omega) ⟨by have := HM2.out.lt; simp; omega, by simp [Value.ownBlock]⟩ (by simp)
          simpa using h⟩
        have HM3 := Aside0.mk ((HM2.out.below (below_alloc (Below.refl wr.heap.size wr) (Obj.cells #[Value.int IntKind.i64 dst] 3))).below (below_alloc (Below.refl _ _) (Obj.cells #[] 3)))
        have HB3 := Aside0.mk (below_alloc (below_alloc HB.out (Obj.cells #[Value.int IntKind.i64 dst] 3)) (Obj.cells #[] 3))
        clear HM2 HB
        go_loopg [21, 22, 23] (Bfs.back R dst).length (fun kq v21 v22 v23 w' => ∃ (cur : Int) (st lst : List Int), v23 = .int .i64 cur ∧ Aside0 (BackInv (ends ls) r dst R cur st lst ∧ (Bfs.back R cur).length = kq) ∧ Aside0 (Kd.R (Kd.int .i64) 3 w' w.heap.size (fun b => b ≠ w.heap.size ∧ some b ≠ v22.ownBlock) v21 st) ∧ Aside0 (Kd.R (Kd.int .i64) 3 w' w.heap.size (fun b => b ≠ w.heap.size ∧ some b ≠ v21.ownBlock) v22 lst) ∧ Aside0 (MapAt w' w.heap.size (R.length + 1) (bef r R)) ∧ Aside0 (Below w.heap.size w w'))
        case atStart => exact ⟨dst, [dst], [], rfl, ⟨BackInv.start HIN.out, rfl⟩, HV1, HV2, HM3, HB3⟩
        case round =>
          obtain ⟨cur, st, lst, rfl, HBI, HO1, HO2, HM, HB⟩ := hrel
          clear HV1 HV2 HM3 HB3
          obtain ⟨sA, sC, es_⟩ := Kd.R_slice HO1.out
          obtain ⟨lA, lC, el_⟩ := Kd.R_slice HO2.out
          subst es_
          subst el_
          have HLN := Aside0.mk (HBI.out.1.len HOk.out HIN.out)
          have HR7 := Aside0.mk (HOk.out.len (ends ls) use r hr (Good.range HG.out))
          have HC8 := Aside0.mk (okRange HOk.out hr (Good.range HG.out) cur HBI.out.1.1)
          by_cases hcr : cur = r
          · subst hcr
            have HFIN : Aside0 (lst = Bfs.back R dst ∧ st = trail (ends ls) dst (Bfs.back R dst)) := ⟨by
              obtain ⟨⟨_, f2, f3⟩, _⟩ := HBI.out
              rw [back_root HOk.out] at f2 f3
              exact ⟨by simpa using f2, by simpa [trail] using f3⟩⟩
            obtain ⟨K1, hK1⟩ := rev_ev st (by have := HLN.out; have := HR7.out; omega)
            obtain ⟨K2, hK2⟩ := rev_ev lst (by have := HLN.out; have := HR7.out; omega)
            have HK1 := Aside0.mk (hK1 K1 (Nat.le_refl _))
            have HK2 := Aside0.mk (hK2 K2 (Nat.le_refl _))
            have HA1 : Aside0 (Kd.R (Kd.int .i64) 3 wr w.heap.size (fun b => some b = (Value.slice sA st.length sC).ownBlock ∧ some b ≠ (Value.slice lA lst.length lC).ownBlock) (.slice sA st.length sC) st) := ⟨R_own_ok HO1.out (fun b hb _ => ⟨hb.symm, (HO1.out.1 b hb).2⟩)⟩
            clear hK1 hK2
            go_wp2_with (first
              | (go_at_call 113; (with_reducible refine (slices_Reverse_int_int.calls K1 _ _ _ _ w _ HB.out HA1.out HK1.out).mono ?_); rintro e w' ⟨rfl, hq1, hq2, hq3⟩; have HP1 := Aside0.mk hq1; have HP2 : Aside0 (Kd.R (Kd.int .i64) 3 w' w.heap.size (fun b => b ≠ w.heap.size ∧ some b ≠ (Value.slice sA st.length sC).ownBlock) (.slice lA lst.length lC) lst) := ⟨R_blocks HO2.out hq3.1 (fun b hb hl => hq3.2 b hl (fun hs => hb.2 hs.1))⟩; have HB6 := Aside0.mk hq2; have HA2 : Aside0 (Kd.R (Kd.int .i64) 3 w' w.heap.size (fun b => some b = (Value.slice lA lst.length lC).ownBlock ∧ some b ≠ (Value.slice sA st.length sC).ownBlock) (.slice lA lst.length lC) lst) := ⟨R_own_ok HP2.out (fun b hb _ => ⟨hb.symm, (HP2.out.1 b hb).2⟩)⟩; clear hq1 hq2 hq3)
              | (go_at_call 113; (with_reducible refine (slices_Reverse_int_int.calls K2 _ _ _ _ w _ HB6.out HA2.out HK2.out).mono ?_); rintro e w' ⟨rfl, hq1, hq2, hq3⟩; have HP3 := Aside0.mk hq1; have HB7 := Aside0.mk hq2; have HK3 := Aside0.mk hq3; clear hq1 hq2 hq3))
            have HF1 : Aside0 (Kd.R (Kd.int .i64) 3 w' w.heap.size (fun b => some b ≠ (Value.slice lA lst.length lC).ownBlock) (.slice sA st.length sC) st.reverse) := ⟨R_blocks (R_own_ok HP1.out (ok' := fun b => some b ≠ (Value.slice lA lst.length lC).ownBlock) (fun b hb _ => (HO1.out.1 b hb).2)) HK3.out.1 (fun b hb hl => HK3.out.2 b hl (fun hs => hb hs.1))⟩
            have HF2 : Aside0 (Kd.R (Kd.int .i64) 3 w' w.heap.size (fun b => some b ≠ (Value.slice sA st.length sC).ownBlock) (.slice lA lst.length lC) lst.reverse) := ⟨R_own_ok HP3.out (fun b hb _ => (HP2.out.1 b hb).2)⟩
            exact bodyPost_ret (v := .tuple #[.slice sA st.length sC, .slice lA lst.length lC, .bool true]) (by simp [results, Tryd.results93, go_sem]) rfl (by unfold PathPost; rw [if_pos HIN.out]; exact ⟨_, _, rfl, by rw [← HFIN.out.2]; exact HF1.out, by rw [← HFIN.out.1]; exact HF2.out, HB7.out⟩)
          · obtain ⟨i, u, hb1, hb2, hb3, hb4, hb5, hb6⟩ := back_step HOk.out HBI.out.1.1 hcr
            have hlk := (HM.out.look cur HC8.out.1 (by have := HC8.out.2; omega)).2
            rw [hb1] at hlk
            have hlk2 : (some i).getD 0 = i := rfl
            obtain ⟨ii, rfl⟩ := Int.eq_ofNat_of_zero_le hb5
            obtain ⟨_, e2, h0, h1, h2, h3, h4⟩ := at_T56 HR.out (ii : Int) (by omega) (by omega)
            cases e2
            rw [Int.toNat_natCast, show rd_T56 ls (ii : Int) = leg ls ii from rfl] at h0 h1
            have H0 := Aside0.mk h0
            have H1 := Aside0.mk h1
            have hgx := leg_good HG.out ii (by omega)
            have hu8 := okRange HOk.out hr (Good.range HG.out) u hb3
            have hE : (leg ls ii).f0 + (leg ls ii).f1 - cur = u := hb4
            have HNX : Aside0 (BackInv (ends ls) r dst R u (st ++ [u]) (lst ++ [(ii : Int)])) := ⟨HBI.out.1.next hb2 hb3 hb4⟩
            have HKQ : Aside0 ((Bfs.back R u).length + 1 = gk) := ⟨by have := HBI.out.2; rw [hb2] at this; simpa using this⟩
            have v0 : wrap64 ((leg ls ii).f0 + (leg ls ii).f1) = (leg ls ii).f0 + (leg ls ii).f1 := by have a1 := hgx.1; have a2 := hgx.2.1; unfold wrap64; omega
            have v1 : wrap64 ((leg ls ii).f0 + (leg ls ii).f1 - cur) = u := by rw [hE]; unfold wrap64; omega
            have HMI := Aside0.mk (show 0 ≤ (ii : Int) ∧ (ii : Int) < ls.length from ⟨hb5, hb6⟩)
            generalize leg ls (ii : Int) = x at *
            clear hb1 hb2 hb3 hb4 hgx hu8 hE h0 h1 h2 h3 h4
            obtain ⟨g1, eg1⟩ : ∃ g1, gk = g1 + 1 := ⟨(Bfs.back R u).length, HKQ.out.symm⟩
            subst eg1
            go_wp2_with ((with_reducible refine gate_builtin (b := .append) (xs := #[.tmp 109, .tmp 111]) rfl ?_); at_builtin; refine Kd.R_append (Kd.int .i64) (w0 := w) w.heap.size rfl (.tmp 109) (.tmp 111) 38 3 (.int .i64 0) 8 rfl Tryd.underlying38 info3 rfl (by decide) (by omega) (.slice lA lst.length lC) lst (ii : Int) [.int .i64 (ii : Int)] (fun b => b ≠ w.heap.size ∧ some b ≠ (Value.slice sA st.length sC).ownBlock) (fun _ => False) rfl rfl ?aP (fun _ hk => hk.elim) ?aF ?aO ?aB ?aS ?aL ?_; (case aP => exact rfl); (case aF => intro b hb; exact ⟨by have := HM.out.lt; omega, Kd.fresh' (Kd.R_lt HO1.out) b hb⟩); (case aO => exact HO2.out); (case aB => exact HB.out); (case aS => have := HM.out.lt; omega); (case aL => have := HLN.out; have := HR7.out; omega)
                         intro v1_ w1_ ho hb hg hat
                         have HP1 := Aside0.mk (Kd.R_after (ok := fun b => b ≠ w.heap.size) HO1.out hg hat)
                         have HP2 := Aside0.mk ho
                         have HB6 := Aside0.mk hb
                         have HM6 := Aside0.mk (HM.out.kept hg (fun e => (HO2.out.1 _ e.symm).1 rfl))
                         clear ho hb hg hat)
            have h0 := Sine.keepc H0.out HB6.out
            have h1 := Sine.keepc H1.out HB6.out
            have hm0 := HMI.out.1
            have hm1 := HMI.out.2
            go_quiet (fail)
            go_wp2_with ((with_reducible refine gate_builtin (b := .append) (xs := #[.tmp 126, .tmp 128]) rfl ?_); at_builtin; refine Kd.R_append (Kd.int .i64) (w0 := w) w.heap.size rfl (.tmp 126) (.tmp 128) 38 3 (.int .i64 0) 8 rfl Tryd.underlying38 info3 rfl (by decide) (by omega) (.slice sA st.length sC) st u [.int .i64 u] (fun b => b ≠ w.heap.size ∧ some b ≠ v1_.ownBlock) (fun _ => False) rfl rfl ?aP (fun _ hk => hk.elim) ?aF ?aO ?aB ?aS ?aL ?_; (case aP => exact rfl); (case aF => intro b hb; simp only [World.heap_drewN] at hb; exact ⟨by have := HM6.out.lt; omega, Kd.fresh' (Kd.R_lt HP2.out) b hb⟩); (case aO => exact Kd.R_drewN HP1.out _); (case aB => exact pw_below_drewN HB6.out _); (case aS => simp only [World.heap_drewN]; have := HM6.out.lt; omega); (case aL => have := HLN.out; have := HR7.out; omega)
                         intro v2_ w2_ ho hb hg hat
                         have HQ2 := Aside0.mk (Kd.R_after (ok := fun b => b ≠ w.heap.size) (Kd.R_drewN HP2.out _) hg hat)
                         have HQ1 := Aside0.mk ho
                         have HB8 := Aside0.mk hb
                         have HM8 := Aside0.mk ((HM6.out.below (pw_below_drewN (Below.refl _ _) _)).kept hg (fun e => (HP1.out.1 _ e.symm).1 rfl))
                         clear ho hb hg hat)
            go_roundg g1
            case measure => omega
            case rel => exact ⟨u, st ++ [u], lst ++ [(ii : Int)], by first | rfl | simp, ⟨HNX.out, by have := HKQ.out; omega⟩, HQ1, HQ2, HM8, HB8⟩
      · rw [decide_eq_false hin] at hmem
        rw [hmem] at hlk
        clear hmem
        go_wp2
        exact bodyPost_ret (v := .tuple #[.slice none 0 0, .slice none 0 0, .bool false]) (by simp [results, Tryd.results93, go_sem]) rfl (by unfold PathPost; rw [if_neg hin]; exact ⟨rfl, HB.out⟩)
end Go.Proofs.YtiooiefjcbooeaaDoor.Net

/- The misclosure of a loop is the error of its closing leg, in plain. -/
namespace Go.Proofs.YtiooiefjcbooeaaDoor.Net
open Go.RowKit Go.Proofs.YtiooiefjcbooeaaDoorW.PrintWords Go.Proofs.YtiooiefjcbooeaaDoorW.PrintLast Go.Proofs.YtiooiefjcbooeaaDoorW.PrintMore Go.Proofs.YtiooiefjcbooeaaDoor.A Go.Proofs.YtiooiefjcbooeaaDoor.Plain
open Go.Proofs.YtiooiefjcbooeaaDoor.Tree (verts legs W)
open Go.Proofs.YtiooiefjcbooeaaDoor.Grow (Q sweep grow)
set_option linter.unusedVariables false
set_option linter.unusedSimpArgs false
theorem mis_loop (ls : L) (hg : ∀ x ∈ ls, Good x) (all : List Int) (ha : ∀ i ∈ all, 0 ≤ i ∧ i < (ls.length : Int)) (hl : all.length ≤ 100) : ∀ (d j : Nat) (at_ s0 s1 s2 : Int), j + d = all.length →
    (-(8 + 14 * (j : Int)) ≤ at_ ∧ at_ ≤ 8 + 14 * (j : Int)) → (-(500 * (j : Int)) ≤ s0 ∧ s0 ≤ 500 * (j : Int)) → (-(500 * (j : Int)) ≤ s1 ∧ s1 ≤ 500 * (j : Int)) → (-(500 * (j : Int)) ≤ s2 ∧ s2 ≤ 500 * (j : Int)) →
    Ev (fun k => spec_l8Misclosure.l0 k ls all at_ (j : Int) s0 s1 s2) (s0 + Sum.ws (ends ls) (sh0 ls) at_ (all.drop j), s1 + Sum.ws (ends ls) (sh1 ls) at_ (all.drop j), s2 + Sum.ws (ends ls) (sh2 ls) at_ (all.drop j)) := by
  intro d
  induction d with
  | zero =>
    intro j at_ s0 s1 s2 hj _ _ _ _
    rw [List.drop_eq_nil_of_le (by omega)]
    simp only [Sum.ws, Int.add_zero]
    refine Ev.step (f := fun _ => some (s0, s1, s2)) (fun k => ?_) (Ev.now _)
    simp only [spec_l8Misclosure.l0]
    rw [if_neg (by omega)]
  | succ d ih =>
    intro j at_ s0 s1 s2 hj hat h0 h1 h2
    have hlt : j < all.length := by omega
    have er := rd_at all j hlt
    have hin := ha _ (List.getElem_mem hlt)
    rw [List.drop_eq_getElem_cons hlt]
    have e : wrap64 ((j : Int) + 1) = ((j + 1 : Nat) : Int) := by rw [w64 (by omega) (by omega)]; omega
    have bj : (j : Int) < (all.length : Int) := Int.ofNat_lt.mpr hlt
    have bj0 : (0 : Int) ≤ (j : Int) := Int.natCast_nonneg j
    obtain ⟨i, hi⟩ := Int.eq_ofNat_of_zero_le hin.1
    rw [hi] at hin er ⊢
    have hgi := leg_good hg i (Int.ofNat_lt.mp hin.2)
    have hsb := shift_bound _ hgi
    have hse := shift_eq _ hgi
    have hrd : rd_T56 ls (i : Int) = leg ls i := rfl
    simp only [Sum.ws, show ends ls i = ((leg ls i).f0, (leg ls i).f1) from rfl, show sh0 ls i = (shift (leg ls i)).f0 from rfl, show sh1 ls i = (shift (leg ls i)).f1 from rfl, show sh2 ls i = (shift (leg ls i)).f2 from rfl]
    obtain ⟨⟨a0, a8⟩, ⟨b0, b8⟩, _⟩ := hgi
    generalize leg ls (i : Int) = x at *
    have ho : wrap64 ((wrap64 (x.f0 + x.f1)) - at_) = x.f0 + x.f1 - at_ := by rw [w64 (x := x.f0 + x.f1) (by omega) (by omega), w64 (by omega) (by omega)]
    generalize shift x = s at *
    have ex := plus_exact (a := ⟨s0, s1, s2⟩) (b := s) ⟨by simp only; omega, by simp only; omega, by simp only; omega⟩ ⟨by omega, by omega, by omega⟩
    by_cases c : x.f0 = at_
    · simp only [if_pos c]
      have h := ih (j + 1) (x.f0 + x.f1 - at_) (s0 + s.f0) (s1 + s.f1) (s2 + s.f2) (by omega) (by omega) (by omega) (by omega) (by omega)
      rw [Int.add_assoc, Int.add_assoc, Int.add_assoc] at h
      refine Ev.step (fun k => ?_) h
      simp only [spec_l8Misclosure.l0]
      rw [if_pos bj, if_pos bj0, er, if_pos hin.1, if_pos hin.2, hrd, if_pos c, hse, Option.bind_some]
      have hp : spec_l4Plus.f s0 s1 s2 s.f0 s.f1 s.f2 1 = some (s0 + s.f0, s1 + s.f1, s2 + s.f2) := by
        have := ex.1
        unfold plus at this
        injection this with p0 p1 p2
        unfold spec_l4Plus.f
        simp only at p0 p1 p2
        rw [p0, p1, p2]
      rw [hp, Option.bind_some, ho, e]
    · simp only [if_neg c]
      have h := ih (j + 1) (x.f0 + x.f1 - at_) (s0 + - s.f0) (s1 + - s.f1) (s2 + - s.f2) (by omega) (by omega) (by omega) (by omega) (by omega)
      rw [Int.add_assoc, Int.add_assoc, Int.add_assoc] at h
      refine Ev.step (fun k => ?_) h
      simp only [spec_l8Misclosure.l0]
      rw [if_pos bj, if_pos bj0, er, if_pos hin.1, if_pos hin.2, hrd, if_neg c, hse, Option.bind_some]
      have hp : spec_l4Plus.f s0 s1 s2 s.f0 s.f1 s.f2 (-1) = some (s0 + - s.f0, s1 + - s.f1, s2 + - s.f2) := by
        have := ex.2
        unfold plus at this
        injection this with p0 p1 p2
        unfold spec_l4Plus.f
        simp only at p0 p1 p2
        rw [p0, p1, p2]
        rfl
      rw [hp, Option.bind_some, ho, e]
theorem loopL_range {ls : L} (hg : ∀ x ∈ ls, Good x) {i : Int} (hi : i ∈ closeL ls) : ∀ j ∈ loopL ls i, 0 ≤ j ∧ j < (ls.length : Int) := by
  obtain ⟨h0, h1, h2, h3, _⟩ := mem_closeL hg hi
  intro j hj
  simp only [loopL, List.mem_append, List.mem_singleton] at hj
  rcases hj with hj | rfl
  · have := (Tree.walk_W (RR_ok hg).1.tr h3 h2).legs_mem (RR_ok hg).1.tr j hj
    have := (RR_ok hg).1.legs_ends (ends ls) this
    exact ⟨this.2.2.2.1, this.2.2.2.2⟩
  · exact ⟨h0, h1⟩
theorem loopL_len {ls : L} (hg : ∀ x ∈ ls, Good x) (i : Int) : (loopL ls i).length ≤ 8 := by
  have := Tree.W_len (RR ls) (ends ls i).2 (ends ls i).1
  have hl := RR_len hg
  simp only [loopL, List.length_append, List.length_singleton]
  omega
theorem ends_ne {ls : L} (hg : ∀ x ∈ ls, Good x) : ∀ i : Int, 0 ≤ i → i < ls.length → (ends ls i).1 ≠ (ends ls i).2 := by
  intro i h0 h1
  obtain ⟨k, rfl⟩ := Int.eq_ofNat_of_zero_le h0
  exact (leg_good hg k (Int.ofNat_lt.mp h1)).2.2.1
theorem RR_idx {ls : L} (hg : ∀ x ∈ ls, Good x) : ∀ x ∈ RR ls, 0 ≤ x.1 ∧ x.1 < (ls.length : Int) := fun x hx => ((RR_ok hg).1.ends x hx).2
/-- The error of a leg, without wraps. -/
theorem err_exact {ls : L} (hg : ∀ x ∈ ls, Good x) (i : Nat) (hi : i < ls.length) : errM (Xq ls (RR ls)) (leg ls i) =
    ⟨sh0 ls i - Sum.pl (ends ls) (sh0 ls) (RR ls) (ends ls i).2 + Sum.pl (ends ls) (sh0 ls) (RR ls) (ends ls i).1, sh1 ls i - Sum.pl (ends ls) (sh1 ls) (RR ls) (ends ls i).2 + Sum.pl (ends ls) (sh1 ls) (RR ls) (ends ls i).1, sh2 ls i - Sum.pl (ends ls) (sh2 ls) (RR ls) (ends ls i).2 + Sum.pl (ends ls) (sh2 ls) (RR ls) (ends ls i).1⟩ := by
  have hgi := leg_good hg i hi
  have hl := RR_len hg
  have hsb := sh_bound hg i (by omega) (by omega)
  have hp := fun x => plq_pl hg (q := RR ls) (by omega) (RR_idx hg) x
  have b0 := fun x => pl_bound (sh0 ls) (fun i a b => (sh_bound hg i a b).1) (RR_idx hg) x
  have b1 := fun x => pl_bound (sh1 ls) (fun i a b => (sh_bound hg i a b).2.1) (RR_idx hg) x
  have b2 := fun x => pl_bound (sh2 ls) (fun i a b => (sh_bound hg i a b).2.2) (RR_idx hg) x
  have e1 : Xq ls (RR ls) (leg ls i).f1.toNat = ⟨Sum.pl (ends ls) (sh0 ls) (RR ls) (ends ls i).2, Sum.pl (ends ls) (sh1 ls) (RR ls) (ends ls i).2, Sum.pl (ends ls) (sh2 ls) (RR ls) (ends ls i).2⟩ := by
    unfold Xq; rw [Int.toNat_of_nonneg hgi.2.1.1]; exact hp _
  have e0 : Xq ls (RR ls) (leg ls i).f0.toNat = ⟨Sum.pl (ends ls) (sh0 ls) (RR ls) (ends ls i).1, Sum.pl (ends ls) (sh1 ls) (RR ls) (ends ls i).1, Sum.pl (ends ls) (sh2 ls) (RR ls) (ends ls i).1⟩ := by
    unfold Xq; rw [Int.toNat_of_nonneg hgi.1.1]; exact hp _
  unfold errM
  rw [e1, e0]
  have c1 := b0 (ends ls i).1
  have c2 := b0 (ends ls i).2
  have c3 := b1 (ends ls i).1
  have c4 := b1 (ends ls i).2
  have c5 := b2 (ends ls i).1
  have c6 := b2 (ends ls i).2
  have es : shift (leg ls i) = ⟨sh0 ls i, sh1 ls i, sh2 ls i⟩ := rfl
  rw [es]
  clear e1 e0 es hp b0 b1 b2
  generalize sh0 ls i = s0 at *
  generalize sh1 ls i = s1 at *
  generalize sh2 ls i = s2 at *
  generalize Sum.pl (ends ls) (sh0 ls) (RR ls) (ends ls i).1 = p1 at *
  generalize Sum.pl (ends ls) (sh0 ls) (RR ls) (ends ls i).2 = p2 at *
  generalize Sum.pl (ends ls) (sh1 ls) (RR ls) (ends ls i).1 = p3 at *
  generalize Sum.pl (ends ls) (sh1 ls) (RR ls) (ends ls i).2 = p4 at *
  generalize Sum.pl (ends ls) (sh2 ls) (RR ls) (ends ls i).1 = p5 at *
  generalize Sum.pl (ends ls) (sh2 ls) (RR ls) (ends ls i).2 = p6 at *
  have x1 := (plus_exact (a := ⟨s0, s1, s2⟩) (b := ⟨p2, p4, p6⟩) ⟨by simp only; omega, by simp only; omega, by simp only; omega⟩ ⟨by simp only; omega, by simp only; omega, by simp only; omega⟩).2
  rw [x1]
  exact (plus_exact (a := ⟨s0 - p2, s1 - p4, s2 - p6⟩) (b := ⟨p1, p3, p5⟩) ⟨by simp only; omega, by simp only; omega, by simp only; omega⟩ ⟨by simp only; omega, by simp only; omega, by simp only; omega⟩).1
theorem l8Mis_ev {ls : L} (hn : ls.length ≤ 12) (hg : ∀ x ∈ ls, Good x) {i : Int} (hi : i ∈ closeL ls) : Ev (fun k => spec_l8Misclosure.f k ls i) ((errM (Xq ls (RR ls)) (leg ls i)).f0, (errM (Xq ls (RR ls)) (leg ls i)).f1, (errM (Xq ls (RR ls)) (leg ls i)).f2) := by
  obtain ⟨h0, h1, h2, h3, _⟩ := mem_closeL hg hi
  have hr := loopL_range hg hi
  have hl := loopL_len hg i
  obtain ⟨k, rfl⟩ := Int.eq_ofNat_of_zero_le h0
  have hgk := leg_good hg k (Int.ofNat_lt.mp h1)
  rw [err_exact hg k (Int.ofNat_lt.mp h1)]
  refine Ev.bind (loop_ev hn hg hi) (Ev.pos h0 (Ev.pos h1 ?_))
  have h := mis_loop ls hg (loopL ls k) hr (by omega) (loopL ls k).length 0 (ends ls k).2 0 0 0 (by omega) (by have := hgk.2.1; show -(8 + 14 * ((0 : Nat) : Int)) ≤ (leg ls k).f1 ∧ (leg ls k).f1 ≤ 8 + 14 * ((0 : Nat) : Int); omega) (by omega) (by omega) (by omega)
  rw [List.drop_zero, Int.zero_add, Int.zero_add, Int.zero_add] at h
  unfold loopL at h
  rw [Sum.loop_sum (ends ls) (sh0 ls) (RR_ok hg).1 (ends_ne hg) h2 h3, Sum.loop_sum (ends ls) (sh1 ls) (RR_ok hg).1 (ends_ne hg) h2 h3, Sum.loop_sum (ends ls) (sh2 ls) (RR_ok hg).1 (ends_ne hg) h2 h3] at h
  exact h
end Go.Proofs.YtiooiefjcbooeaaDoor.Net

/- The loop of a closing leg, walked: its stations and its legs. -/
namespace Go.Proofs.YtiooiefjcbooeaaDoor.Net
open Go Go.RowKit Go.Proofs.YtiooiefjcbooeaaDoorW.PrintWords Go.Proofs.YtiooiefjcbooeaaDoorW.PrintLast Go.Proofs.YtiooiefjcbooeaaDoorW.PrintMore Go.Proofs.YtiooiefjcbooeaaDoor.A Go.Proofs.YtiooiefjcbooeaaDoor.Plain
open Go.Proofs.YtiooiefjcbooeaaDoor.Tree (verts legs W)
open Go.Proofs.YtiooiefjcbooeaaDoor.Grow (Q)
set_option linter.unusedVariables false
set_option linter.unusedSimpArgs false
theorem loopUse {n T g : Nat} {P : Nat → Bool} {X : Nat → S34} {B : Nat → Bool} {cl : Value} (i : Nat) (p : Addr) (w : World) (hp : w.cell? p = some (.pointer (some ⟨g, 0, none⟩))) (hS : St n T g P X B cl w) (hi : i < n) :
    Calls Tryd.prog 107 #[.int .i64 (i : Int), .pointer (some p)] w fun e w' => e = .returned (.bool (B i)) ∧ w' = w := by
  have tc := hS.tc
  have tb := hS.tb i hi
  have k0 : (0 : Int) ≤ (i : Int) := by omega
  have k1 : (i : Int) < (n : Int) := by omega
  clear hS
  go_enter Tryd.func107, Tryd.ntmps107
  go_wp2
  go_ret
  exact ⟨rfl, rfl⟩
/-- Turning a way round. -/
theorem trail_snoc (e : Int → Int × Int) : ∀ (l : List Int) (a : Int) (i : Int), ∃ b, trail e a (l ++ [i]) = trail e a l ++ [(e i).1 + (e i).2 - b] ∧ (trail e a l).getLast? = some b
  | [], a, i => ⟨a, rfl, rfl⟩
  | j :: l, a, i => by
    obtain ⟨b, h1, h2⟩ := trail_snoc e l ((e j).1 + (e j).2 - a) i
    refine ⟨b, by simp only [List.cons_append, trail, h1], ?_⟩
    simp only [trail]
    rw [trail_cons e _ l] at h2 ⊢
    simpa using h2
theorem trail_rev {e : Int → Int × Int} {q : Q} (hx : ∀ x ∈ q, e x.1 = (x.2.1, x.2.2) ∨ e x.1 = (x.2.2, x.2.1)) {a : Int} {o : Option Int} {l : List Int} {b : Int} (h : Tree.Walk q a o l b) : trail e b l.reverse = (trail e a l).reverse := by
  induction h with
  | nil => rfl
  | cons hj ho hw ih =>
    rename_i a o i c l b
    have he : (e i).1 + (e i).2 - a = c ∧ (e i).1 + (e i).2 - c = a := by
      rcases hj with hj | hj
      · rcases hx _ hj with he | he <;> rw [he] <;> simp only <;> omega
      · rcases hx _ hj with he | he <;> rw [he] <;> simp only <;> omega
    simp only [List.reverse_cons, trail, he.1]
    obtain ⟨d, h1, h2⟩ := trail_snoc e l.reverse b i
    rw [h1, ih]
    rw [ih, List.getLast?_reverse, trail_cons e c l] at h2
    obtain rfl : c = d := by simpa using h2
    rw [he.2]
/-- The stations of the loop of a closing leg. -/
def loopS (ls : L) (i : Int) : List Int := trail (ends ls) (ends ls i).2 (W (RR ls) (ends ls i).2 (ends ls i).1)
theorem path_of {ls : L} (hg : ∀ x ∈ ls, Good x) {i : Int} (hi : i ∈ closeL ls) :
    (ends ls i).1 ∈ verts (ends ls i).2 (Bfs.run (ends ls) (fun j => decide (j ∈ legs (RR ls))) (ends ls i).2 ls.length 9 0 []) ∧
      (Bfs.back (Bfs.run (ends ls) (fun j => decide (j ∈ legs (RR ls))) (ends ls i).2 ls.length 9 0 []) (ends ls i).1).reverse = W (RR ls) (ends ls i).2 (ends ls i).1 ∧
      (trail (ends ls) (ends ls i).1 (Bfs.back (Bfs.run (ends ls) (fun j => decide (j ∈ legs (RR ls))) (ends ls i).2 ls.length 9 0 []) (ends ls i).1)).reverse = loopS ls i := by
  obtain ⟨h0, h1, h2, h3, _⟩ := mem_closeL hg hi
  obtain ⟨f1, f2⟩ := Way.found (ends ls) (RR_ok hg).1 (Good.range hg) h3 h2
  refine ⟨f1, by rw [f2, ← Way.W_rev], ?_⟩
  rw [f2]
  unfold loopS
  rw [Way.W_rev (RR ls) (ends ls i).1 (ends ls i).2]
  exact (trail_rev (fun x hx => (RR_ends hg x hx).1) (Tree.walk_W (RR_ok hg).1.tr h2 h3)).symm
set_option maxHeartbeats 2000000 in
set_option maxRecDepth 100000 in
theorem netLoop (A : Option Addr) (c : Nat) (ls : L) (i : Int) (T g : Nat) (cl : Value) (w : World) (hS : St ls.length T g (Pq (RR ls)) (Xq ls (RR ls)) (Bq (RR ls)) cl w) (hr0 : Kd.C k56 w A ls.length ls) (hc : ls.length ≤ c) (hn : ls.length ≤ 12) (hg : ∀ x ∈ ls, Good x) (hi : i ∈ closeL ls) :
    Calls Tryd.prog 85 #[.pointer (some ⟨g, 0, none⟩), .slice A ls.length c, .int .i64 i] w fun e w' => ∃ v1 v2, e = .returned (.tuple #[v1, v2]) ∧ Kd.R (Kd.int .i64) 3 w' w.heap.size (fun _ => True) v1 (loopS ls i) ∧ Kd.R (Kd.int .i64) 3 w' w.heap.size (fun _ => True) v2 (loopL ls i) ∧ Below w.heap.size w w' := by
  have HP := Aside0.mk (path_of hg hi)
  obtain ⟨i0, i1, _⟩ := mem_closeL hg hi
  have HLN := Aside0.mk (loopL_len hg i)
  obtain ⟨k, rfl⟩ := Int.eq_ofNat_of_zero_le i0
  have hgk := leg_good hg k (Int.ofNat_lt.mp i1)
  obtain ⟨w_1, e2, h0, h1, _⟩ := at_T56 hr0 (k : Int) i0 i1
  cases e2
  rw [Int.toNat_natCast, show rd_T56 ls (k : Int) = leg ls k from rfl] at h0 h1
  have HE := Aside0.mk (show ends ls k = ((leg ls k).f0, (leg ls k).f1) from rfl)
  have HR := Aside0.mk hr0
  have HG := Aside0.mk hg
  have HS := Aside0.mk hS
  have hl0 := hgk.1
  have hl1 := hgk.2.1
  clear hr0 hg hS hgk
  generalize leg ls (k : Int) = x at *
  go_enter Tryd.func85, Tryd.ntmps85
  go_wp2
  have HB := Aside0.mk (below_alloc (Below.refl w.heap.size w) (Obj.cells #[Value.pointer (some { block := g, off := 0 })] 64))
  replace h0 := Sine.keepc h0 HB.out
  replace h1 := Sine.keepc h1 HB.out
  replace HS := Aside0.mk (HS.out.keep HB.out)
  have hp0 : (w.alloc (Obj.cells #[Value.pointer (some { block := g, off := 0 })] 64)).cell? ⟨w.heap.size, 0, none⟩ = some (.pointer (some ⟨g, 0, none⟩)) := by go_simp
  have HP0 := Aside0.mk hp0
  have HPP : Aside0 (x.f0 ∈ verts x.f1 (Bfs.run (ends ls) (fun j => decide (j ∈ legs (RR ls))) x.f1 ls.length 9 0 []) ∧
      (Bfs.back (Bfs.run (ends ls) (fun j => decide (j ∈ legs (RR ls))) x.f1 ls.length 9 0 []) x.f0).reverse = W (RR ls) x.f1 x.f0 ∧
      (trail (ends ls) x.f0 (Bfs.back (Bfs.run (ends ls) (fun j => decide (j ∈ legs (RR ls))) x.f1 ls.length 9 0 []) x.f0)).reverse = loopS ls k) := ⟨by have := HP.out; rw [HE.out] at this; exact this⟩
  have HLL : Aside0 (loopL ls k = W (RR ls) x.f1 x.f0 ++ [(k : Int)]) := ⟨by unfold loopL; rw [HE.out]⟩
  clear hp0 HP
  generalize w.alloc (Obj.cells #[Value.pointer (some { block := g, off := 0 })] 64) = W1 at *
  go_region_held3 (fun w' => w'.cell? (w_1.add (k * 5)) = some (.int .i64 x.f0) ∧ w'.cell? { block := (w_1.add (k * 5)).block, off := (w_1.add (k * 5)).off + 1 } = some (.int .i64 x.f1))
    (exact ⟨Sine.keepc (w := W1) h0 (by (repeat (first | exact Below.refl _ _ | apply pw_below_drewN | apply below_drew1 | exact HB.out | refine below_step ?_ (by assumption))); done), Sine.keepc (w := W1) h1 (by (repeat (first | exact Below.refl _ _ | apply pw_below_drewN | apply below_drew1 | exact HB.out | refine below_step ?_ (by assumption))); done)⟩)
    (first | (go_at_call 93; (with_reducible refine (pathTree _ c ls ⟨w.heap.size, 0, none⟩ (fun j => decide (j ∈ legs (RR ls))) x.f1 x.f0 _ ?s1 hc hn HG.out hl1 hl0 ?s2 _ rfl).mono ?_); (case s1 => exact Kd.C_below HR.out (by (repeat (first | exact HB.out | exact Below.refl _ _ | apply below_alloc | apply pw_below_drewN | apply below_drew1)); done)); (case s2 => intro j W hj hb; exact loopUse j ⟨w.heap.size, 0, none⟩ W (Sine.keepc (w := W1) HP0.out (below_step (by (repeat (first | exact Below.refl _ _ | apply pw_below_drewN | apply below_drew1 | exact HB.out | refine below_step ?_ (by assumption))); done) hb)) (HS.out.keep (below_step (by (repeat (first | exact Below.refl _ _ | apply pw_below_drewN | apply below_drew1 | exact HB.out | refine below_step ?_ (by assumption))); done) hb)) hj); rintro e w' hpost; unfold PathPost at hpost; rw [if_pos HPP.out.1] at hpost; obtain ⟨v1, v2, rfl, hv1, hv2, hw1⟩ := hpost))
  rw [HPP.out.2.1] at hv2
  rw [HPP.out.2.2] at hv1
  have hsz : w.heap.size ≤ W1.drew.heap.size := below_size (show Below w.heap.size w W1.drew from by (repeat (first | exact HB.out | exact Below.refl _ _ | apply below_alloc | apply pw_below_drewN | apply below_drew1)); done)
  have HV1 := Aside0.mk (Kd.R_lower hv1 hsz)
  have HV2 := Aside0.mk (Kd.R_lower hv2 hsz)
  replace HB := Aside0.mk (below_step (show Below w.heap.size w W1.drew from by (repeat (first | exact HB.out | exact Below.refl _ _ | apply below_alloc | apply pw_below_drewN | apply below_drew1)); done) hw1)
  clear hv1 hv2 hw1 hsz
  obtain ⟨lA, lC, el⟩ := Kd.R_slice HV2.out
  subst el
  have HLW := Aside0.mk (show (W (RR ls) x.f1 x.f0).length ≤ 7 from by have := HLN.out; rw [HLL.out] at this; simp at this; omega)
  go_wp2_with ((with_reducible refine gate_builtin (b := .append) (xs := #[.tmp 29, .tmp 31]) rfl ?_); at_builtin; refine Kd.R_append (Kd.int .i64) (w0 := w) w.heap.size rfl (.tmp 29) (.tmp 31) 38 3 (.int .i64 0) 8 rfl Tryd.underlying38 info3 rfl (by decide) (by omega) (.slice lA (W (RR ls) x.f1 x.f0).length lC) (W (RR ls) x.f1 x.f0) (k : Int) [.int .i64 (k : Int)] (fun b => some b ≠ v1.ownBlock) (fun _ => False) rfl rfl ?aP (fun _ hk => hk.elim) ?aF ?aO ?aB ?aS ?aL ?_; (case aP => exact rfl); (case aF => intro b hb; exact Kd.fresh' (Kd.R_lt HV1.out) b hb); (case aO => exact HV2.out); (case aB => exact HB.out); (case aS => exact below_size HB.out); (case aL => have := HLW.out; omega)
               intro v2_ w2_ ho hb hg hat
               have HP1 := Aside0.mk (Kd.R_after (ok := fun _ => True) (Kd.R_mono HV1.out (fun k hk => ⟨trivial, hk⟩)) hg hat)
               have HP2 := Aside0.mk ho
               have HB6 := Aside0.mk hb)
  go_ret2
  exact ⟨v1, v2_, rfl, Kd.R_mono HP1.out (fun _ _ => trivial), by rw [HLL.out]; exact Kd.R_mono HP2.out (fun _ _ => trivial), HB6.out⟩
end Go.Proofs.YtiooiefjcbooeaaDoor.Net

/- The length of the loop of a closing leg: walked, and the reference's. -/
namespace Go.Proofs.YtiooiefjcbooeaaDoor.Net
open Go Go.RowKit Go.Proofs.YtiooiefjcbooeaaDoorW.PrintWords Go.Proofs.YtiooiefjcbooeaaDoorW.PrintLast Go.Proofs.YtiooiefjcbooeaaDoorW.PrintMore Go.Proofs.YtiooiefjcbooeaaDoor.A Go.Proofs.YtiooiefjcbooeaaDoor.Plain
open Go.Proofs.YtiooiefjcbooeaaDoor.Tree (verts legs W)
open Go.Proofs.YtiooiefjcbooeaaDoor.Grow (Q)
set_option linter.unusedVariables false
set_option linter.unusedSimpArgs false
def lenS (ls : L) : List Int → Int
  | [] => 0
  | i :: l => (leg ls i).f2 + lenS ls l
def loopLen (ls : L) (i : Int) : Int := lenS ls (loopL ls i)
/-- The sum so far. -/
def LenInv (ls : L) (all : List Int) (j : Nat) (s : Int) : Prop := s + lenS ls (all.drop j) = lenS ls all ∧ 0 ≤ s ∧ s ≤ 500 * (j : Int)
theorem LenInv.next {ls : L} {all : List Int} {j : Nat} {s : Int} (hg : ∀ x ∈ ls, Good x) (ha : ∀ i ∈ all, 0 ≤ i ∧ i < (ls.length : Int)) (hj : j < all.length) (h : LenInv ls all j s) : LenInv ls all (j + 1) (s + (leg ls all[j]).f2) := by
  obtain ⟨h1, h2, h3⟩ := h
  have hin := ha _ (List.getElem_mem hj)
  rw [List.drop_eq_getElem_cons hj] at h1
  obtain ⟨m, hm⟩ := Int.eq_ofNat_of_zero_le hin.1
  rw [hm] at hin h1 ⊢
  have hgi := leg_good hg m (Int.ofNat_lt.mp hin.2)
  have := hgi.2.2.2.1
  have e : lenS ls ((m : Int) :: all.drop (j + 1)) = (leg ls m).f2 + lenS ls (all.drop (j + 1)) := rfl
  rw [e] at h1
  exact ⟨by omega, by omega, by omega⟩
theorem LenInv.end_ {ls : L} {all : List Int} {j : Nat} {s : Int} (hj : ¬ j < all.length) (h : LenInv ls all j s) : s = lenS ls all := by
  have := h.1
  rw [List.drop_eq_nil_of_le (by omega)] at this
  have e : lenS ls [] = 0 := rfl
  rw [e] at this
  rw [← this]; omega
theorem len_loop (ls : L) (hg : ∀ x ∈ ls, Good x) (all : List Int) (ha : ∀ i ∈ all, 0 ≤ i ∧ i < (ls.length : Int)) (hl : all.length ≤ 100) : ∀ (d j : Nat) (s : Int), j + d = all.length → LenInv ls all j s →
    Ev (fun k => spec_l8Length.l0 k ls s all (j : Int)) (lenS ls all) := by
  intro d
  induction d with
  | zero =>
    intro j s hj hs
    rw [← hs.end_ (by omega)]
    refine Ev.step (f := fun _ => some s) (fun k => ?_) (Ev.now _)
    simp only [spec_l8Length.l0]
    rw [if_neg (by omega)]
  | succ d ih =>
    intro j s hj hs
    have hlt : j < all.length := by omega
    have h := ih (j + 1) _ (by omega) (hs.next hg ha hlt)
    have hb := (hs.next hg ha hlt).2
    refine Ev.step (fun k => ?_) h
    have hin := ha _ (List.getElem_mem hlt)
    simp only [spec_l8Length.l0]
    rw [if_pos (by omega), if_pos (by omega), rd_at all j hlt, if_pos hin.1, if_pos hin.2, show rd_T56 ls all[j] = leg ls all[j] from rfl, w64 (x := s + _) (by omega) (by omega), w64 (by omega) (by omega)]
    rfl
theorem length_ev {ls : L} (hn : ls.length ≤ 12) (hg : ∀ x ∈ ls, Good x) {i : Int} (hi : i ∈ closeL ls) : Ev (fun k => spec_l8Length.f k ls i) (loopLen ls i) := by
  unfold spec_l8Length.f
  refine Ev.bind (loop_ev hn hg hi) ?_
  have hle := loopL_len hg i
  exact len_loop ls hg _ (loopL_range hg hi) (by omega) _ 0 0 (Nat.zero_add _) ⟨by rw [List.drop_zero]; omega, by omega, by omega⟩
set_option maxHeartbeats 2000000 in
set_option maxRecDepth 100000 in
theorem netLen (A : Option Addr) (c : Nat) (ls : L) (i : Int) (T g : Nat) (cl : Value) (w : World) (hS : St ls.length T g (Pq (RR ls)) (Xq ls (RR ls)) (Bq (RR ls)) cl w) (hr0 : Kd.C k56 w A ls.length ls) (hc : ls.length ≤ c) (hn : ls.length ≤ 12) (hg : ∀ x ∈ ls, Good x) (hi : i ∈ closeL ls) :
    Calls Tryd.prog 74 #[.pointer (some ⟨g, 0, none⟩), .slice A ls.length c, .int .i64 i] w fun e w' => e = .returned (.int .i64 (loopLen ls i)) ∧ Below w.heap.size w w' := by
  have HLN := Aside0.mk (loopL_len hg i)
  have HRG := Aside0.mk (loopL_range hg hi)
  have HR := Aside0.mk hr0
  have HG := Aside0.mk hg
  have HS := Aside0.mk hS
  have HB := Aside0.mk (Below.refl w.heap.size w)
  have HI := Aside0.mk hi
  clear hr0 hg hS hi
  have HE0 : Aside0 (loopLen ls i = lenS ls (loopL ls i)) := ⟨rfl⟩
  generalize loopLen ls i = tot at *
  go_enter Tryd.func74, Tryd.ntmps74
  go_wp2_with (go_at_call 85; have hq := netLoop A c ls i _ _ _ _ (HS.out.keep (by repeat (first | exact Below.refl _ _ | apply below_drew1))) (Kd.C_below HR.out (by (repeat (first | exact HB.out | exact Below.refl _ _ | apply below_alloc | apply pw_below_drewN | apply below_drew1)); done)) hc hn HG.out HI.out; (with_reducible refine hq.mono ?_); clear hq; rintro e w' ⟨v1, v2, rfl, hv1, hv2, hw⟩; have HV2 := Aside0.mk (Kd.R_lower hv2 (below_size (show Below w.heap.size w _ from by (repeat (first | exact HB.out | exact Below.refl _ _ | apply below_alloc | apply pw_below_drewN | apply below_drew1)); done))); replace HB := Aside0.mk (below_step (show Below w.heap.size w _ from by (repeat (first | exact HB.out | exact Below.refl _ _ | apply below_alloc | apply pw_below_drewN | apply below_drew1)); done) hw); clear hw hv1 hv2; obtain ⟨vA, vC, ev⟩ := Kd.R_slice HV2.out; subst ev; generalize loopL ls i = all at *)
  go_loopw [9, 21] (fun v9 v21 w' => ∃ (j : Nat) (s : Int), j ≤ all.length ∧ v21 = .int .i64 j ∧ v9 = .int .i64 s ∧ Aside0 (LenInv ls all j s) ∧ Aside0 (Kd.R (Kd.int .i64) 3 w' w.heap.size (fun _ => True) (.slice vA all.length vC) all) ∧ Aside0 (Below w.heap.size w w')) (fun _ v21 _ => all.length - (intOf v21).toNat)
  case atStart => exact ⟨0, 0, Nat.zero_le _, rfl, rfl, ⟨by rw [List.drop_zero]; omega, by omega, by omega⟩, HV2, HB⟩
  case round =>
    obtain ⟨j, s, hj, rfl, rfl, HJ, HV, HB2⟩ := hrel
    clear HV2 HB
    have HB := HB2
    clear HB2
    by_cases hlt : j < all.length
    · have HN := Aside0.mk (HJ.out.next HG.out HRG.out hlt)
      obtain ⟨ad, e1, h1⟩ := Kd.at_int (Kd.R_reads' HV.out).2.2 (j : Int) (by omega) (by omega)
      subst e1
      have hin := HRG.out _ (List.getElem_mem hlt)
      rw [rd_at all j hlt, Int.toNat_natCast] at h1
      obtain ⟨m, hm⟩ := Int.eq_ofNat_of_zero_le hin.1
      rw [hm] at h1 hin HN
      obtain ⟨_, e2, _, _, h2, _, _⟩ := at_T56 HR.out (m : Int) hin.1 hin.2
      cases e2
      rw [Int.toNat_natCast, show rd_T56 ls (m : Int) = leg ls m from rfl] at h2
      replace h2 := Sine.keepc h2 HB.out
      have hb := HN.out.2
      generalize leg ls (m : Int) = x at *
      have hin1 := hin.2
      have ws : wrap64 (s + x.f2) = s + x.f2 := by have := HLN.out; unfold wrap64; omega
      clear hm hin
      have hl8 := HLN.out
      go_wp2
      exact ⟨⟨j + 1, s + x.f2, hlt, rfl, rfl, HN, HV, HB⟩, by simp [intOf]; omega⟩
    · have hs := HJ.out.end_ hlt
      go_wp2
      subst hs
      exact bodyPost_ret (v := .int .i64 (lenS ls all)) (by simp [results, Tryd.results74, go_sem]) rfl ⟨by rw [HE0.out], HB.out⟩
end Go.Proofs.YtiooiefjcbooeaaDoor.Net

/- The worst loop, in plain: the sizes of the misclosures, the lengths, the choice of the reference. -/
namespace Go.Proofs.YtiooiefjcbooeaaDoor.Net
open Go.RowKit Go.Proofs.YtiooiefjcbooeaaDoorW.PrintWords Go.Proofs.YtiooiefjcbooeaaDoorW.PrintLast Go.Proofs.YtiooiefjcbooeaaDoorW.PrintMore Go.Proofs.YtiooiefjcbooeaaDoor.A Go.Proofs.YtiooiefjcbooeaaDoor.Plain
set_option linter.unusedVariables false
set_option linter.unusedSimpArgs false
theorem err_bound {ls : L} (hg : ∀ x ∈ ls, Good x) (i : Nat) (hi : i < ls.length) : (-7500 ≤ (errM (Xq ls (RR ls)) (leg ls i)).f0 ∧ (errM (Xq ls (RR ls)) (leg ls i)).f0 ≤ 7500) ∧ (-7500 ≤ (errM (Xq ls (RR ls)) (leg ls i)).f1 ∧ (errM (Xq ls (RR ls)) (leg ls i)).f1 ≤ 7500) ∧ (-7500 ≤ (errM (Xq ls (RR ls)) (leg ls i)).f2 ∧ (errM (Xq ls (RR ls)) (leg ls i)).f2 ≤ 7500) := by
  have hl := RR_len hg
  have hsb := sh_bound hg i (by omega) (by omega)
  have b0 := fun x => pl_bound (sh0 ls) (fun i a b => (sh_bound hg i a b).1) (RR_idx hg) x
  have b1 := fun x => pl_bound (sh1 ls) (fun i a b => (sh_bound hg i a b).2.1) (RR_idx hg) x
  have b2 := fun x => pl_bound (sh2 ls) (fun i a b => (sh_bound hg i a b).2.2) (RR_idx hg) x
  rw [err_exact hg i hi]
  have c1 := b0 (ends ls i).1
  have c2 := b0 (ends ls i).2
  have c3 := b1 (ends ls i).1
  have c4 := b1 (ends ls i).2
  have c5 := b2 (ends ls i).1
  have c6 := b2 (ends ls i).2
  clear b0 b1 b2
  simp only
  omega
theorem sizeM_bound (a b c : Int) (ha : -100000 ≤ a ∧ a ≤ 100000) (hb : -100000 ≤ b ∧ b ≤ 100000) (hc : -100000 ≤ c ∧ c ≤ 100000) : 0 ≤ sizeM a b c ∧ sizeM a b c ≤ 200000 := by
  have qa := sq_le a 100000 ha.1 ha.2
  have qb := sq_le b 100000 hb.1 hb.2
  have qc := sq_le c 100000 hc.1 hc.2
  have h := rootM_is (a * a + b * b + c * c) (by omega) (by omega)
  unfold sizeM
  obtain ⟨h0, h1, _⟩ := h
  refine ⟨h0, ?_⟩
  rcases Int.lt_or_le 200000 (rootM (a * a + b * b + c * c)) with hh | hh
  · have := Int.mul_le_mul (show (200001 : Int) ≤ rootM (a * a + b * b + c * c) by omega) (show (200001 : Int) ≤ rootM (a * a + b * b + c * c) by omega) (by omega) h0
    omega
  · exact hh
theorem apart_ev (a b : S34) (h0 : -100000 ≤ (plus a b (-1)).f0 ∧ (plus a b (-1)).f0 ≤ 100000) (h1 : -100000 ≤ (plus a b (-1)).f1 ∧ (plus a b (-1)).f1 ≤ 100000) (h2 : -100000 ≤ (plus a b (-1)).f2 ∧ (plus a b (-1)).f2 ≤ 100000) :
    Ev (fun k => impl_apart.f k a.f0 a.f1 a.f2 b.f0 b.f1 b.f2) (sizeM (plus a b (-1)).f0 (plus a b (-1)).f1 (plus a b (-1)).f2) := by
  have qa := sq_le _ 100000 h0.1 h0.2
  have qb := sq_le _ 100000 h1.1 h1.2
  have qc := sq_le _ 100000 h2.1 h2.2
  unfold impl_apart.f
  refine Ev.bindc (show impl_Shift_plus.f a.f0 a.f1 a.f2 b.f0 b.f1 b.f2 (-1) = some ((plus a b (-1)).f0, (plus a b (-1)).f1, (plus a b (-1)).f2) from rfl) ?_
  generalize plus a b (-1) = d at *
  have e : wrap64 (wrap64 (wrap64 (d.f0 * d.f0) + wrap64 (d.f1 * d.f1)) + wrap64 (d.f2 * d.f2)) = d.f0 * d.f0 + d.f1 * d.f1 + d.f2 * d.f2 := by
    rw [w64 (x := d.f0 * d.f0) (by omega) (by omega), w64 (x := d.f1 * d.f1) (by omega) (by omega), w64 (x := d.f2 * d.f2) (by omega) (by omega), w64 (x := d.f0 * d.f0 + d.f1 * d.f1) (by omega) (by omega), w64 (by omega) (by omega)]
  have h := root_ev _ _ (by omega) (rootM_is (d.f0 * d.f0 + d.f1 * d.f1 + d.f2 * d.f2) (by omega) (by omega))
  rw [← e] at h
  refine Ev.bind h ?_
  rw [e]
  exact Ev.now _
theorem apart0_ev {m : S34} (h0 : -7500 ≤ m.f0 ∧ m.f0 ≤ 7500) (h1 : -7500 ≤ m.f1 ∧ m.f1 ≤ 7500) (h2 : -7500 ≤ m.f2 ∧ m.f2 ≤ 7500) : Ev (fun k => impl_apart.f k m.f0 m.f1 m.f2 0 0 0) (sizeM m.f0 m.f1 m.f2) := by
  have e : plus m ⟨0, 0, 0⟩ (-1) = m := by
    have := (plus_exact (a := m) (b := ⟨0, 0, 0⟩) ⟨by omega, by omega, by omega⟩ ⟨by simp only; omega, by simp only; omega, by simp only; omega⟩).2
    rw [this, Int.sub_zero, Int.sub_zero, Int.sub_zero]
  have h := apart_ev m ⟨0, 0, 0⟩ (by rw [e]; omega) (by rw [e]; omega) (by rw [e]; omega)
  rw [e] at h
  exact h
/-- The size of the misclosure of a closing leg's loop. -/
def sizeE (ls : L) (i : Int) : Int := sizeM (errM (Xq ls (RR ls)) (leg ls i)).f0 (errM (Xq ls (RR ls)) (leg ls i)).f1 (errM (Xq ls (RR ls)) (leg ls i)).f2
theorem sizeE_bound {ls : L} (hg : ∀ x ∈ ls, Good x) {i : Int} (hi : i ∈ closeL ls) : 0 ≤ sizeE ls i ∧ sizeE ls i ≤ 200000 := by
  obtain ⟨h0, h1, _⟩ := mem_closeL hg hi
  obtain ⟨k, rfl⟩ := Int.eq_ofNat_of_zero_le h0
  have hb := err_bound hg k (Int.ofNat_lt.mp h1)
  unfold sizeE
  exact sizeM_bound _ _ _ (by omega) (by omega) (by omega)
theorem lenS_bound {ls : L} (hg : ∀ x ∈ ls, Good x) : ∀ (all : List Int), (∀ i ∈ all, 0 ≤ i ∧ i < (ls.length : Int)) → 0 ≤ lenS ls all ∧ lenS ls all ≤ 500 * (all.length : Int)
  | [], _ => by simp [lenS]
  | i :: all, h => by
    have ih := lenS_bound hg all (fun x hx => h x (List.mem_cons_of_mem _ hx))
    have hi := h i List.mem_cons_self
    obtain ⟨k, rfl⟩ := Int.eq_ofNat_of_zero_le hi.1
    have := (leg_good hg k (Int.ofNat_lt.mp hi.2)).2.2.2.1
    simp only [lenS, List.length_cons]
    omega
theorem loopLen_bound {ls : L} (hg : ∀ x ∈ ls, Good x) {i : Int} (hi : i ∈ closeL ls) : 0 ≤ loopLen ls i ∧ loopLen ls i ≤ 4000 := by
  have h := lenS_bound hg _ (loopL_range hg hi)
  have hl := loopL_len hg i
  unfold loopLen
  omega
theorem l8Size_ev {ls : L} (hn : ls.length ≤ 12) (hg : ∀ x ∈ ls, Good x) {i : Int} (hi : i ∈ closeL ls) : Ev (fun k => spec_l8Size.f k ls i) (sizeE ls i) := by
  obtain ⟨h0, h1, _⟩ := mem_closeL hg hi
  obtain ⟨k, rfl⟩ := Int.eq_ofNat_of_zero_le h0
  have hb := err_bound hg k (Int.ofNat_lt.mp h1)
  unfold spec_l8Size.f
  refine Ev.bind (l8Mis_ev hn hg hi) ?_
  exact Ev.bind (sizeM_ev (errM (Xq ls (RR ls)) (leg ls k)).f0 (errM (Xq ls (RR ls)) (leg ls k)).f1 (errM (Xq ls (RR ls)) (leg ls k)).f2 (by omega) (by omega) (by omega)) (Ev.now _)
/-- The worst loop of the first ones. -/
def bst (ls : L) : Nat → Int
  | 0 => -1
  | j + 1 => if j = 0 then (closeL ls).getD 0 0 else if sizeE ls ((closeL ls).getD j 0) * loopLen ls (bst ls j) > sizeE ls (bst ls j) * loopLen ls ((closeL ls).getD j 0) then (closeL ls).getD j 0 else bst ls j
theorem bst_mem (ls : L) : ∀ j : Nat, 0 < j → j ≤ (closeL ls).length → bst ls j ∈ closeL ls
  | 0, h, _ => by omega
  | j + 1, _, h => by
    have hm : (closeL ls).getD j 0 ∈ closeL ls := by
      rw [List.getD_eq_getElem?_getD, List.getElem?_eq_getElem (by omega)]
      exact List.getElem_mem _
    unfold bst
    by_cases c : j = 0
    · subst c
      rw [if_pos rfl]
      exact hm
    · rw [if_neg c]
      have ih := bst_mem ls j (by omega) (by omega)
      split
      · exact hm
      · exact ih
theorem mul_small {a b : Int} (ha : 0 ≤ a ∧ a ≤ 200000) (hb : 0 ≤ b ∧ b ≤ 4000) : 0 ≤ a * b ∧ a * b ≤ 800000000 :=
  ⟨Int.mul_nonneg ha.1 hb.1, Int.mul_le_mul ha.2 hb.2 hb.1 (by omega)⟩
theorem rd_getD (l : List Int) (j : Nat) : rd l (j : Int) = l.getD j 0 := by unfold rd; rw [Int.toNat_natCast]
theorem worst_loop {ls : L} (hn : ls.length ≤ 12) (hg : ∀ x ∈ ls, Good x) : ∀ (d j : Nat), j + 1 + d = (closeL ls).length → Ev (fun k => spec_WorstLoop.l0 k ls (closeL ls) (bst ls (j + 1)) ((j + 1 : Nat) : Int)) (bst ls (closeL ls).length, true) := by
  intro d
  induction d with
  | zero =>
    intro j hj
    obtain e : j + 1 = (closeL ls).length := by omega
    rw [e]
    refine Ev.step (f := fun _ => some (bst ls (closeL ls).length, true)) (fun k => ?_) (Ev.now _)
    simp only [spec_WorstLoop.l0]
    rw [if_neg (by omega)]
  | succ d ih =>
    intro j hj
    have hcl := Nat.le_trans (closeL_len ls) hn
    have hm : (closeL ls).getD (j + 1) 0 ∈ closeL ls := by
      rw [List.getD_eq_getElem?_getD, List.getElem?_eq_getElem (by omega)]
      exact List.getElem_mem _
    have hb := bst_mem ls (j + 1) (by omega) (by omega)
    have e : wrap64 (((j + 1 : Nat) : Int) + 1) = ((j + 1 + 1 : Nat) : Int) := by rw [w64 (by omega) (by omega)]; omega
    have m1 := mul_small (sizeE_bound hg hm) (loopLen_bound hg hb)
    have m2 := mul_small (sizeE_bound hg hb) (loopLen_bound hg hm)
    have h := ih (j + 1) (by omega)
    have eb : bst ls (j + 1 + 1) = if sizeE ls ((closeL ls).getD (j + 1) 0) * loopLen ls (bst ls (j + 1)) > sizeE ls (bst ls (j + 1)) * loopLen ls ((closeL ls).getD (j + 1) 0) then (closeL ls).getD (j + 1) 0 else bst ls (j + 1) := by
      show (if j + 1 = 0 then _ else _) = _
      rw [if_neg (by omega)]
    rw [eb] at h
    refine Ev.step (f := fun k => (spec_l8Size.f k ls ((closeL ls).getD (j + 1) 0)).bind fun t905 => ((spec_l8Length.f k ls (bst ls (j + 1))).bind fun t906 => ((spec_l8Size.f k ls (bst ls (j + 1))).bind fun t907 => ((spec_l8Length.f k ls ((closeL ls).getD (j + 1) 0)).bind fun t909 => (if (wrap64 (t905 * t906)) > (wrap64 (t907 * t909)) then (spec_WorstLoop.l0 k ls (closeL ls) ((closeL ls).getD (j + 1) 0) ((j + 1 + 1 : Nat) : Int)) else (spec_WorstLoop.l0 k ls (closeL ls) (bst ls (j + 1)) ((j + 1 + 1 : Nat) : Int))))))) (fun k => ?_) ?_
    · simp only [spec_WorstLoop.l0]
      rw [if_pos (by omega), if_pos (by omega), rd_getD, e]
    · refine Ev.bind (l8Size_ev hn hg hm) (Ev.bind (length_ev hn hg hb) (Ev.bind (l8Size_ev hn hg hb) (Ev.bind (length_ev hn hg hm) ?_)))
      rw [w64 (x := sizeE ls ((closeL ls).getD (j + 1) 0) * loopLen ls (bst ls (j + 1))) (by omega) (by omega), w64 (x := sizeE ls (bst ls (j + 1)) * loopLen ls ((closeL ls).getD (j + 1) 0)) (by omega) (by omega)]
      by_cases c : sizeE ls ((closeL ls).getD (j + 1) 0) * loopLen ls (bst ls (j + 1)) > sizeE ls (bst ls (j + 1)) * loopLen ls ((closeL ls).getD (j + 1) 0)
      · rw [if_pos c] at h
        exact Ev.pos c h
      · rw [if_neg c] at h
        exact Ev.neg c h
def worstM (ls : L) : Int × Bool := if legsB ls = true ∧ 0 < (closeL ls).length then (bst ls (closeL ls).length, true) else (0, false)
theorem specWorst_ev (ls : L) (hb : ls.length ≤ 140737488351232) : Ev (fun k => spec_WorstLoop.f k ls) (worstM ls) := by
  unfold worstM
  refine Ev.bind (l4Legs_ev ls hb) ?_
  by_cases h : legsB ls = true
  · have hv := legsB_iff.mp h
    refine Ev.pos h (Ev.bind (closing_ev ls hv.2 hv.1) ?_)
    by_cases c : 0 < (closeL ls).length
    · rw [if_pos ⟨h, c⟩]
      have hl := worst_loop hv.2 hv.1 ((closeL ls).length - 1) 0 (by omega)
      refine Ev.step (f := fun k => (spec_l6Closing.f k ls).bind fun t900 => (if 0 < (t900.length : Int) then (spec_WorstLoop.l0 k ls t900 (rd t900 0) 1) else (none))) (fun k => ?_) ?_
      · simp only [spec_WorstLoop.j0]
        rw [if_neg (by rw [beq_iff_eq]; omega)]
      · exact Ev.bind (closing_ev ls hv.2 hv.1) (Ev.pos (by omega) hl)
    · rw [if_neg (fun hh => c hh.2)]
      refine Ev.step (f := fun _ => some (0, false)) (fun k => ?_) (Ev.now _)
      simp only [spec_WorstLoop.j0]
      rw [if_pos (by rw [beq_iff_eq]; omega)]
  · rw [if_neg (fun hh => h hh.1)]
    refine Ev.neg h (Ev.step (f := fun _ => some (0, false)) (fun k => ?_) (Ev.now _))
    simp only [spec_WorstLoop.j0]
    rw [if_pos trivial]
end Go.Proofs.YtiooiefjcbooeaaDoor.Net

namespace Go.Proofs.YtiooiefjcbooeaaDoor.A
open Go.RowKit Go.Proofs.YtiooiefjcbooeaaDoorW.PrintWords Go.Proofs.YtiooiefjcbooeaaDoorW.PrintLast Go.Proofs.YtiooiefjcbooeaaDoorW.PrintMore
open Go.Proofs.YtiooiefjcbooeaaDoor.Net Go.Proofs.YtiooiefjcbooeaaDoor.Plain
attribute [local go_sem] max2_int min2_int max_two min_two   -- for this text's walks alone
set_option linter.unusedVariables false
set_option linter.unusedSimpArgs false
def impl_WorstLoop.f (l0 : List (S56)) : Option (Int × Bool) := if l0.length ≤ 140737488351232 then some (worstM l0) else none
def emM (ls : L) (j : Nat) : Int := if j = 0 then 0 else sizeE ls (bst ls j)
def lmM (ls : L) (j : Nat) : Int := if j = 0 then 1 else loopLen ls (bst ls j)
set_option maxHeartbeats 4000000 in
set_option maxRecDepth 100000 in
theorem impl_WorstLoop.calls (A0 : Option Addr) (c : Nat) (ls : List (S56)) (r1 : Int) (r2 : Bool) (w : World) (hr0 : Kd.C k56 w A0 ls.length ls) (hc : ls.length ≤ c) (h : impl_WorstLoop.f ls = some (r1, r2)) (hL : Sine.Laid w) :
    Calls Tryd.prog 48 #[.slice A0 ls.length c] w fun e w' => e = .returned (.tuple #[.int .i64 r1, .bool r2]) ∧ Below w.heap.size w w' := by
  unfold impl_WorstLoop.f at h
  by_cases hb : ls.length ≤ 140737488351232
  · rw [if_pos hb] at h
    obtain ⟨K, hK⟩ := areLegs_ev ls hb
    have HA := Aside0.mk (hK K (Nat.le_refl _))
    have HR := Aside0.mk hr0
    have HL := Aside0.mk hL
    have HB := Aside0.mk (Below.refl w.heap.size w)
    clear hK hr0 hL
    unfold worstM at h
    cases hv : legsB ls
    · rw [if_neg (by rw [hv]; simp)] at h
      simp only [Option.some.injEq, Prod.mk.injEq] at h
      obtain ⟨rfl, rfl⟩ := h
      rw [hv] at HA
      clear hv
      go_enter Tryd.func48, Tryd.ntmps48
      go_wp2_with (go_at_call 52; (with_reducible refine (impl_areLegs.calls K _ _ ls false _ ?s1 ?s2 HA.out).mono ?_); (case s1 => exact Kd.C_below HR.out (by (repeat (first | exact HB.out | exact Below.refl _ _ | apply below_alloc | apply pw_below_drewN | apply below_drew1)); done)); (case s2 => exact hc); rintro e w' ⟨rfl, hw⟩; replace HB := Aside0.mk (below_step (show Below w.heap.size w _ from by (repeat (first | exact HB.out | exact Below.refl _ _ | apply below_alloc | apply pw_below_drewN | apply below_drew1)); done) hw); clear hw)
      exact bodyPost_ret (v := .tuple #[.int .i64 0, .bool false]) (by simp [results, Tryd.results48, go_sem]) rfl ⟨rfl, by repeat (first | exact HB.out | apply below_drew1)⟩
    · rw [hv] at HA
      have hv' := legsB_iff.mp hv
      have HG := Aside0.mk hv'.1
      have hn := hv'.2
      have HCL := Aside0.mk (Nat.le_trans (closeL_len ls) hn)
      have HMem : Aside0 (∀ j : Nat, (hj : j < (closeL ls).length) → (closeL ls)[j] ∈ closeL ls) := ⟨fun j hj => List.getElem_mem hj⟩
      have HRS : Aside0 ((r1, r2) = if 0 < (closeL ls).length then (bst ls (closeL ls).length, true) else (0, false)) := ⟨by
        rw [Option.some.injEq] at h
        rw [← h]
        by_cases q : 0 < (closeL ls).length
        · rw [if_pos ⟨hv, q⟩, if_pos q]
        · rw [if_neg (fun hh => q hh.2), if_neg q]⟩
      clear hv hv' h
      go_enter Tryd.func48, Tryd.ntmps48
      go_wp2_with (first
        | (go_at_call 52; (with_reducible refine (impl_areLegs.calls K _ _ ls true _ ?s1 ?s2 HA.out).mono ?_); (case s1 => exact Kd.C_below HR.out (by (repeat (first | exact HB.out | exact Below.refl _ _ | apply below_alloc | apply pw_below_drewN | apply below_drew1)); done)); (case s2 => exact hc); rintro e w' ⟨rfl, hw⟩; replace HB := Aside0.mk (below_step (show Below w.heap.size w _ from by (repeat (first | exact HB.out | exact Below.refl _ _ | apply below_alloc | apply pw_below_drewN | apply below_drew1)); done) hw); clear hw)
        | ((go_at_call 53; (with_reducible refine (place _ c ls _ ?s1 ?s2 hc hn HG.out (RR ls) rfl).mono ?_); (case s1 => exact HL.out.keep (by (repeat (first | exact HB.out | exact Below.refl _ _ | apply below_alloc | apply pw_below_drewN | apply below_drew1)); done)); (case s2 => exact Kd.C_below HR.out (by (repeat (first | exact HB.out | exact Below.refl _ _ | apply below_alloc | apply pw_below_drewN | apply below_drew1)); done)); rintro e w' ⟨g, T, cl, rfl, hst, ho, hw⟩; have HO : Aside0 (Kd.R (Kd.int .i64) 3 w' w.heap.size (fun k => k ≠ g ∧ k ≠ T) cl (closeL ls)) := ⟨Kd.R_lower ho (below_size (show Below w.heap.size w _ from by (repeat (first | exact HB.out | exact Below.refl _ _ | apply below_alloc | apply pw_below_drewN | apply below_drew1)); done))⟩; replace HB := Aside0.mk (below_step (show Below w.heap.size w _ from by (repeat (first | exact HB.out | exact Below.refl _ _ | apply below_alloc | apply pw_below_drewN | apply below_drew1)); done) hw); have HS := Aside0.mk hst; clear hst ho hw; obtain ⟨cA, cC, ecl⟩ := Kd.R_slice HO.out; subst ecl); have cc := HS.out.cc))
      go_loopw [5, 6, 7, 22] (fun v5 v6 v7 v22 w' => ∃ (j : Nat), j ≤ (closeL ls).length ∧ v22 = .int .i64 j ∧ v5 = .int .i64 (bst ls j) ∧ v6 = .int .i64 (emM ls j) ∧ v7 = .int .i64 (lmM ls j) ∧ Aside0 (Kd.R (Kd.int .i64) 3 w' w.heap.size (fun k => k ≠ g ∧ k ≠ T) (.slice cA (closeL ls).length cC) (closeL ls)) ∧ Aside0 (St ls.length T g (Pq (RR ls)) (Xq ls (RR ls)) (Bq (RR ls)) (.slice cA (closeL ls).length cC) w') ∧ Aside0 (Below w.heap.size w w')) (fun _ _ _ v22 _ => (closeL ls).length - (intOf v22).toNat)
      case atStart => exact ⟨0, Nat.zero_le _, rfl, rfl, rfl, rfl, HO, HS, HB⟩
      case round =>
        obtain ⟨j, hj, rfl, rfl, rfl, rfl, HC, HS2, HB2⟩ := hrel
        clear HO HS HB cc
        have HO := HC
        have HS := HS2
        have HB := HB2
        clear HC HS2 HB2
        by_cases hlt : j < (closeL ls).length
        · obtain ⟨ad, e1, h1⟩ := Kd.at_int (Kd.R_reads' HO.out).2.2 (j : Int) (by omega) (by omega)
          subst e1
          rw [rd_at _ j hlt, Int.toNat_natCast] at h1
          have hm := HMem.out j hlt
          have hgd : (closeL ls).getD j 0 = (closeL ls)[j] := by rw [List.getD_eq_getElem?_getD, List.getElem?_eq_getElem hlt]; rfl
          have hstep : bst ls (j + 1) = if j = 0 then (closeL ls)[j] else if sizeE ls (closeL ls)[j] * loopLen ls (bst ls j) > sizeE ls (bst ls j) * loopLen ls (closeL ls)[j] then (closeL ls)[j] else bst ls j := by
            rw [← hgd]
            by_cases q : j = 0
            · subst q; rfl
            · show (if j = 0 then _ else _) = _
              rw [if_neg q, if_neg q]
          obtain ⟨i0, i1, _⟩ := mem_closeL HG.out hm
          obtain ⟨m, hmk⟩ := Int.eq_ofNat_of_zero_le i0
          rw [hmk] at h1 hm hstep i1
          clear hmk hgd i0
          have HX := Aside0.mk (leg_good HG.out m (Int.ofNat_lt.mp i1))
          have eb := err_bound HG.out m (Int.ofNat_lt.mp i1)
          obtain ⟨K2, hK2⟩ := apart0_ev eb.1 eb.2.1 eb.2.2
          have HAP := Aside0.mk (hK2 K2 (Nat.le_refl _))
          clear hK2 eb
          rw [show sizeM (errM (Xq ls (RR ls)) (leg ls m)).f0 (errM (Xq ls (RR ls)) (leg ls m)).f1 (errM (Xq ls (RR ls)) (leg ls m)).f2 = sizeE ls m from rfl] at HAP
          obtain ⟨_, e2, h20, h21, h22, h23, h24⟩ := at_T56 HR.out (m : Int) (by omega) i1
          cases e2
          rw [Int.toNat_natCast, show rd_T56 ls (m : Int) = leg ls m from rfl] at h20 h21 h22 h23 h24
          replace h20 := Sine.keepc h20 HB.out
          replace h21 := Sine.keepc h21 HB.out
          replace h22 := Sine.keepc h22 HB.out
          replace h23 := Sine.keepc h23 HB.out
          replace h24 := Sine.keepc h24 HB.out
          have hse := sizeE_bound HG.out hm
          have hll := loopLen_bound HG.out hm
          have HM := Aside0.mk hm
          generalize leg ls (m : Int) = x at *
          have hcl := HCL.out
          by_cases q : j = 0
          · rw [if_pos q] at hstep
            have ee : emM ls (j + 1) = sizeE ls (m : Int) := by show (if j + 1 = 0 then 0 else sizeE ls (bst ls (j + 1))) = _; rw [if_neg (by omega), hstep]
            have el : lmM ls (j + 1) = loopLen ls (m : Int) := by show (if j + 1 = 0 then 1 else loopLen ls (bst ls (j + 1))) = _; rw [if_neg (by omega), hstep]
            have e0 : bst ls j = -1 := by rw [q]; rfl
            have e1 : emM ls j = 0 := by rw [q]; rfl
            have e2 : lmM ls j = 1 := by rw [q]; rfl
            rw [e0, e1, e2]
            clear hm q
            go_wp2_with (first
              | (go_at_call 63; have hq := errorOf x _ (HL.out.keep (by (repeat (first | exact HB.out | exact Below.refl _ _ | apply below_alloc | apply pw_below_drewN | apply below_drew1)); done)) HS.out HX.out; (with_reducible refine hq.mono ?_); clear hq; rintro e w' ⟨rfl, hw⟩; have hbw := below_step (show Below wr.heap.size wr _ from by repeat (first | exact Below.refl _ _ | apply pw_below_drewN | apply below_drew1)) hw; replace HO := Aside0.mk (Kd.R_below HO.out hbw); replace HS := Aside0.mk (HS.out.keep hbw); replace HB := Aside0.mk (below_step HB.out hbw); clear hbw hw)
              | (go_at_call 83; have hq := impl_apart.calls K2 _ _ _ _ _ _ _ w' HAP.out; (with_reducible refine hq.mono ?_); clear hq; rintro e w3 ⟨rfl, hw⟩; replace HO := Aside0.mk (Kd.R_below HO.out hw); replace HS := Aside0.mk (HS.out.keep hw); replace HB := Aside0.mk (below_step HB.out hw); clear hw)
              | (go_at_call 74; have hq := netLen _ c ls (m : Int) _ _ _ _ HS.out (Kd.C_below HR.out (by (repeat (first | exact HB.out | exact Below.refl _ _ | apply below_alloc | apply pw_below_drewN | apply below_drew1)); done)) hc hn HG.out HM.out; (with_reducible refine hq.mono ?_); clear hq; rintro e w4 ⟨rfl, hw⟩; replace HO := Aside0.mk (Kd.R_below HO.out hw); replace HS := Aside0.mk (HS.out.keep hw); replace HB := Aside0.mk (below_step HB.out hw); clear hw))
            exact ⟨⟨j + 1, hlt, by go_num, by rw [hstep], by rw [ee], by rw [el], HO, HS, HB⟩, by simp [intOf]; omega⟩
          · rw [if_neg q] at hstep
            have hbm := bst_mem ls j (by omega) (by omega)
            have hse2 := sizeE_bound HG.out hbm
            have hll2 := loopLen_bound HG.out hbm
            have m1 := mul_small hse hll2
            have m2 := mul_small hse2 hll
            have hb0 : 0 ≤ bst ls j := (mem_closeL HG.out hbm).1
            have e1 : emM ls j = sizeE ls (bst ls j) := by unfold emM; rw [if_neg q]
            have e2 : lmM ls j = loopLen ls (bst ls j) := by unfold lmM; rw [if_neg q]
            rw [e1, e2]
            have ee : emM ls (j + 1) = sizeE ls (bst ls (j + 1)) := by unfold emM; rw [if_neg (by omega)]
            have el : lmM ls (j + 1) = loopLen ls (bst ls (j + 1)) := by unfold lmM; rw [if_neg (by omega)]
            have hw1 : wrap64 (sizeE ls (m : Int) * loopLen ls (bst ls j)) = sizeE ls (m : Int) * loopLen ls (bst ls j) := by unfold wrap64; omega
            have hw2 : wrap64 (sizeE ls (bst ls j) * loopLen ls (m : Int)) = sizeE ls (bst ls j) * loopLen ls (m : Int) := by unfold wrap64; omega
            have hbn : ¬ bst ls j < 0 := by omega
            clear hm q e1 e2 m1 m2 hse2 hll2 hbm
            by_cases cc : sizeE ls (m : Int) * loopLen ls (bst ls j) > sizeE ls (bst ls j) * loopLen ls (m : Int)
            · rw [if_pos cc] at hstep
              rw [hstep] at ee el
              go_wp2_with (first
                | (go_at_call 63; have hq := errorOf x _ (HL.out.keep (by (repeat (first | exact HB.out | exact Below.refl _ _ | apply below_alloc | apply pw_below_drewN | apply below_drew1)); done)) HS.out HX.out; (with_reducible refine hq.mono ?_); clear hq; rintro e w' ⟨rfl, hw⟩; have hbw := below_step (show Below wr.heap.size wr _ from by repeat (first | exact Below.refl _ _ | apply pw_below_drewN | apply below_drew1)) hw; replace HO := Aside0.mk (Kd.R_below HO.out hbw); replace HS := Aside0.mk (HS.out.keep hbw); replace HB := Aside0.mk (below_step HB.out hbw); clear hbw hw)
                | (go_at_call 83; have hq := impl_apart.calls K2 _ _ _ _ _ _ _ w' HAP.out; (with_reducible refine hq.mono ?_); clear hq; rintro e w3 ⟨rfl, hw⟩; replace HO := Aside0.mk (Kd.R_below HO.out hw); replace HS := Aside0.mk (HS.out.keep hw); replace HB := Aside0.mk (below_step HB.out hw); clear hw)
                | (go_at_call 74; have hq := netLen _ c ls (m : Int) _ _ _ _ HS.out (Kd.C_below HR.out (by (repeat (first | exact HB.out | exact Below.refl _ _ | apply below_alloc | apply pw_below_drewN | apply below_drew1)); done)) hc hn HG.out HM.out; (with_reducible refine hq.mono ?_); clear hq; rintro e w4 ⟨rfl, hw⟩; replace HO := Aside0.mk (Kd.R_below HO.out hw); replace HS := Aside0.mk (HS.out.keep hw); replace HB := Aside0.mk (below_step HB.out hw); clear hw))
              exact ⟨⟨j + 1, hlt, by go_num, by rw [hstep], by rw [ee], by rw [el], HO, HS, HB⟩, by simp [intOf]; omega⟩
            · rw [if_neg cc] at hstep
              rw [hstep] at ee el
              go_wp2_with (first
                | (go_at_call 63; have hq := errorOf x _ (HL.out.keep (by (repeat (first | exact HB.out | exact Below.refl _ _ | apply below_alloc | apply pw_below_drewN | apply below_drew1)); done)) HS.out HX.out; (with_reducible refine hq.mono ?_); clear hq; rintro e w' ⟨rfl, hw⟩; have hbw := below_step (show Below wr.heap.size wr _ from by repeat (first | exact Below.refl _ _ | apply pw_below_drewN | apply below_drew1)) hw; replace HO := Aside0.mk (Kd.R_below HO.out hbw); replace HS := Aside0.mk (HS.out.keep hbw); replace HB := Aside0.mk (below_step HB.out hbw); clear hbw hw)
                | (go_at_call 83; have hq := impl_apart.calls K2 _ _ _ _ _ _ _ w' HAP.out; (with_reducible refine hq.mono ?_); clear hq; rintro e w3 ⟨rfl, hw⟩; replace HO := Aside0.mk (Kd.R_below HO.out hw); replace HS := Aside0.mk (HS.out.keep hw); replace HB := Aside0.mk (below_step HB.out hw); clear hw)
                | (go_at_call 74; have hq := netLen _ c ls (m : Int) _ _ _ _ HS.out (Kd.C_below HR.out (by (repeat (first | exact HB.out | exact Below.refl _ _ | apply below_alloc | apply pw_below_drewN | apply below_drew1)); done)) hc hn HG.out HM.out; (with_reducible refine hq.mono ?_); clear hq; rintro e w4 ⟨rfl, hw⟩; replace HO := Aside0.mk (Kd.R_below HO.out hw); replace HS := Aside0.mk (HS.out.keep hw); replace HB := Aside0.mk (below_step HB.out hw); clear hw))
              exact ⟨⟨j + 1, hlt, by go_num, by rw [hstep], by rw [ee], by rw [el], HO, HS, HB⟩, by simp [intOf]; omega⟩
        · obtain rfl : j = (closeL ls).length := by omega
          have hcl := HCL.out
          by_cases q : 0 < (closeL ls).length
          · have hb0 : 0 ≤ bst ls (closeL ls).length := (mem_closeL HG.out (bst_mem ls _ q (Nat.le_refl _))).1
            have hrs := HRS.out
            rw [if_pos q] at hrs
            clear HRS
            generalize bst ls (closeL ls).length = bb at *
            obtain ⟨h1_, rfl⟩ := Prod.mk.inj hrs
            subst h1_
            clear hrs
            have hbn : ¬ r1 < 0 := by omega
            go_wp2
            go_ret2
            exact ⟨rfl, HB.out⟩
          · have e0 : bst ls (closeL ls).length = -1 := by rw [show (closeL ls).length = 0 by omega]; rfl
            have hrs := HRS.out
            rw [if_neg q] at hrs
            obtain ⟨rfl, rfl⟩ := Prod.mk.inj hrs
            clear HRS hrs
            rw [e0]
            go_wp2
            go_ret2
            exact ⟨rfl, HB.out⟩
  · rw [if_neg hb] at h
    cases h
end Go.Proofs.YtiooiefjcbooeaaDoor.A
