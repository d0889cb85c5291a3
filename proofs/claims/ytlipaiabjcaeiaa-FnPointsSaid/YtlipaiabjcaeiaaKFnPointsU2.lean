/- The program's AddPoint, in the form of the printed functions. -/
import Derived.Test.YtlipaiabjcaeiaaKFnPointsU1
set_option linter.unusedSimpArgs false
set_option linter.unusedVariables false
namespace Go.Proofs.Ytlipaiabjcaeiaa.Dec
open Go Go.RowKit Go.Sort YtlipaiabjcaeiaaW.PrintWords YtlipaiabjcaeiaaW.PrintLast YtlipaiabjcaeiaaW.PrintMore A Plain
def CloneP (base : Nat) (ls : List DP) (v : Value) (w : World) : Prop := (ls = [] ∧ v = .slice none 0 0) ∨ ∃ g cap, v = .slice (some ⟨g, 0, none⟩) ls.length cap ∧ RowP w base g cap ls
theorem reps_flat : ∀ (ls : List DP) (cs : List Value) (w : World) (base : Nat) (ok : Nat → Prop), Reps (Kd.M k56 w base ok) 2 ls cs → cs = flat ls
 | [], cs, w, base, ok, h => List.eq_nil_of_length_eq_zero (by rw [h.1]; rfl)
 | x :: r, cs, w, base, ok, ⟨h1, h2⟩ => by
  have e0 := k56_openM (h2 0 x rfl)
  rw [Nat.zero_mul, List.drop_zero] at e0
  have er := reps_flat r (cs.drop 2) w base ok ⟨by rw [List.length_drop, h1, List.length_cons]; omega, fun j p hj => by
   have := h2 (j + 1) p (by simpa using hj)
   rw [List.drop_drop, show 2 + j * 2 = (j + 1) * 2 by omega]
   exact this⟩
  rw [← List.take_append_drop 2 cs, e0, er]
  rfl
theorem RowP.below {w w' : World} {base g cap : Nat} {ls : List DP} (h : RowP w base g cap ls) (hb : Below w.heap.size w w') : RowP w' base g cap ls := by
 obtain ⟨⟨cur, h1, h2⟩, h3, h4, h5, h6⟩ := h
 have hg := (Array.getElem?_eq_some_iff.1 h1).1
 have h1' : w'.heap[g]? = some (.cells cur 56 (0, 0)) := (hb.block g hg).trans h1
 exact ⟨⟨cur, h1', h2⟩, h3, h4, h5, fun j u hj => by rw [row_cell h1', ← row_cell h1]; exact h6 j u hj⟩
theorem CloneP.of_row {w : World} {base g cap : Nat} {ls : List DP} (h : RowP w base g cap ls) : CloneP base ls (.slice (some ⟨g, 0, none⟩) ls.length cap) w := Or.inr ⟨g, cap, rfl, h⟩
theorem CloneP.row {w : World} {base : Nat} {ls : List DP} {v : Value} (h : CloneP base ls v w) (hn : 0 < ls.length) : ∃ g cap, v = .slice (some ⟨g, 0, none⟩) ls.length cap ∧ RowP w base g cap ls := by
 rcases h with ⟨rfl, _⟩ | h
 · cases hn
 · exact h
theorem CloneP.below {w w' : World} {base : Nat} {ls : List DP} {v : Value} (h : CloneP base ls v w) (hb : Below w.heap.size w w') : CloneP base ls v w' := by
 rcases h with h | ⟨g, cap, h1, h2⟩
 · exact Or.inl h
 · exact Or.inr ⟨g, cap, h1, h2.below hb⟩
theorem RowP.read {w : World} {base g cap : Nat} {ls : List DP} (h : RowP w base g cap ls) : Kd.C k56 w (some ⟨g, 0, none⟩) ls.length ls := (Kd.R_reads' (h.kd (fun _ => True) trivial)).2.2
theorem RowP.lower {w : World} {base base' g cap : Nat} {ls : List DP} (h : RowP w base g cap ls) (hb : base' ≤ base) : RowP w base' g cap ls := ⟨h.block, Nat.le_trans hb h.le, h.len, h.max, h.cells⟩
theorem CloneP.of_kd {base : Nat} {ls : List DP} {v : Value} {w : World} {ok : Nat → Prop} (h : Kd.R k56 56 w base ok v ls) : CloneP base ls v w := by
 obtain ⟨_, cs, ho, hr⟩ := h
 obtain rfl : cs = flat ls := reps_flat ls cs w base _ hr
 obtain ⟨h0, ⟨h1, h2⟩ | ⟨g', cap', cur, h1, h2, h3, h4, h5, h6, h7⟩⟩ := ho
 · exact Or.inl ⟨List.eq_nil_of_length_eq_zero h2, h1⟩
 ·
  subst h1
  exact Or.inr ⟨g', cap', rfl, RowP.of_own ⟨h0, Or.inr ⟨g', cap', cur, rfl, h2, h3, h4, h5, h6, h7⟩⟩⟩
theorem eqNil0 (c : Nat) (w : World) : (binOp .eql 24 (.slice none 0 c) (.slice none 0 0)).run Try.prog w = .ok (.bool true) w := by
 have h : ∀ d : Nat, (Op.equalIn (d + 1) 24 (.slice none 0 c) (.slice none 0 0)).run Try.prog w = .ok true w := fun d => by simp [Op.equalIn, run_underlying Try.underlying24]
 simp [binOp, Op.equal, Op.maxDepth, h]
attribute [local go_sem] eqNil0
theorem cloneNil (c : Nat) (w : World) : Calls Try.prog 79 #[.slice none 0 c] w fun e w' => e = .returned (.slice none 0 0) ∧ w' = w := by
 go_enter Try.func79, Try.ntmps79
 go_wp2
 exact bodyPost_ret (v := .slice none 0 0) (by simp [results, Try.results79, go_sem]) rfl ⟨rfl, rfl⟩
theorem cloneAny (A0 : Option Addr) (c : Nat) (ls : List DP) (w : World) (hr0 : Kd.C k56 w A0 ls.length ls) (hn : ls.length ≤ 12) :
  Calls Try.prog 79 #[.slice A0 ls.length c] w fun e w' => ∃ v, e = .returned v ∧ CloneP w.heap.size ls v w' ∧ Below w.heap.size w w' := by
 cases A0 with
 | none =>
  have e : ls = [] := by
   cases ls with
   | nil => rfl
   | cons x r =>
    obtain ⟨ad, h, _⟩ := at_T56 hr0 0 (by omega) (by simp)
    cases h
  subst e
  exact (cloneNil c w).mono fun e w' ⟨h1, h2⟩ => ⟨_, h1, Or.inl ⟨rfl, rfl⟩, by rw [h2]; exact Below.refl _ _⟩
 | some la => exact (cloneP la c ls w hr0 hn).mono fun e w' ⟨v, h1, h2, h3⟩ => ⟨v, h1, CloneP.of_kd h2, h3⟩
theorem searchV (base : Nat) (l : List DP) (p : DP) (v : Value) (w : World) (hv : CloneP base l v w) (hn : l.length ≤ 8) (hd : ∀ t, t < l.length → 0 ≤ dayAt l t ∧ dayAt l t ≤ 999) (hm : ∀ s t, s ≤ t → t < l.length → dayAt l s ≤ dayAt l t) (hp : 0 ≤ p.f0 ∧ p.f0 ≤ 999) :
  Calls Try.prog 80 #[v, .agg #[.int .i64 p.f0, .int .i64 p.f1], .func (.func 81) #[] #[]] w fun e w' =>
   e = .returned (.tuple #[.int .i64 (lowB l p.f0 : Nat), .bool (decide (lowB l p.f0 < l.length) && decide (dayAt l (lowB l p.f0) = p.f0))]) ∧ Below w.heap.size w w' := by
 rcases hv with ⟨rfl, rfl⟩ | ⟨g, cap, rfl, h⟩
 · exact searchP none 0 [] p w (Kd.R_reads' (Kd.R_nil k56 56 w 0 (fun _ => True))).2.2 hn hd hm hp
 · exact searchP _ cap l p w h.read hn hd hm hp
theorem insertP (base g vb cap i : Nat) (ls : List DP) (p : DP) (w : World) (hr : RowP w base g cap ls) (hv : PtAt w vb p) (hne : vb ≠ g) (hn : ls.length ≤ 8) (hi : i ≤ ls.length) (hb : base ≤ w.heap.size) :
  Calls Try.prog 82 #[.slice (some ⟨g, 0, none⟩) ls.length cap, .int .i64 (i : Int), .slice (some ⟨vb, 0, none⟩) 1 1] w (InsPost base w (insL ls i p)) := by
 rcases Nat.lt_or_eq_of_le hi with hlt | rfl
 ·
  by_cases hc : ls.length + 1 ≤ cap
  · exact insShift base g vb cap i ls p w hr hv hne hn hlt hc
  · exact insGrow base g vb cap i ls p w hr hv hne hn hlt (by omega) hb
 · exact insEnd base g vb cap ls p w hr hv hn hb
theorem insertV (base i : Nat) (ls : List DP) (p : DP) (v : Value) (w : World) (hv : CloneP base ls v w) (hn : ls.length ≤ 8) (hi : i ≤ ls.length) (hb : base ≤ w.heap.size) :
  Calls Try.prog 82 #[v, .int .i64 (i : Int), .slice (some ⟨w.heap.size, 0, none⟩) 1 1] (w.alloc (.cells #[.int .i64 p.f0, .int .i64 p.f1] 56)) (InsPost base (w.alloc (.cells #[.int .i64 p.f0, .int .i64 p.f1] 56)) (insL ls i p)) := by
 have hbl : Below w.heap.size w (w.alloc (.cells #[.int .i64 p.f0, .int .i64 p.f1] 56)) := (Below.refl _ _).alloc (Nat.le_refl _) _
 have hpt : PtAt (w.alloc (.cells #[.int .i64 p.f0, .int .i64 p.f1] 56)) w.heap.size p := World.alloc_heap_new w _
 have hb2 : base ≤ (w.alloc (.cells #[.int .i64 p.f0, .int .i64 p.f1] 56)).heap.size := Nat.le_trans hb hbl.size
 rcases hv with ⟨rfl, rfl⟩ | ⟨g, cap, rfl, h⟩
 ·
  obtain rfl : i = 0 := by simpa using hi
  exact insNil base w.heap.size p _ hpt hb2
 ·
  obtain ⟨cur, h1, _⟩ := h.block
  have hg := (Array.getElem?_eq_some_iff.1 h1).1
  exact insertP base g w.heap.size cap i ls p _ (h.below hbl) hpt (by omega) hn hi hb2
theorem lowB_le : ∀ (l : List DP) (d : Int), lowB l d ≤ l.length
 | [], _ => Nat.le_refl _
 | x :: r, d => by
  unfold lowB
  split
  · have := lowB_le r d; simp; omega
  · exact Nat.zero_le _
structure RowF (l : List DP) : Prop where
 few : l.length ≤ 8
 day : ∀ t, t < l.length → 0 ≤ dayAt l t ∧ dayAt l t ≤ 999
 up : ∀ s t, s ≤ t → t < l.length → dayAt l s ≤ dayAt l t
def addT (l : List DP) (p : DP) : List DP := if lowB l p.f0 < l.length ∧ dayAt l (lowB l p.f0) = p.f0 then l.set (lowB l p.f0) p else insL l (lowB l p.f0) p
def rowOk (l : List DP) : Bool := rowB l && decide ((l.length : Int) ≤ 8)
theorem rowF {l : List DP} (h : rowOk l = true) : RowF l := by
 unfold rowOk rowB at h
 simp only [Bool.and_eq_true, decide_eq_true_eq, allFrom_iff] at h
 obtain ⟨h1, h2⟩ := h
 have h3 : ∀ i, i < l.length → (0 ≤ dayAt l i ∧ dayAt l i ≤ 999) ∧ (i = 0 ∨ dayAt l (i - 1) < dayAt l i) := fun i hi => by
  have h := h1 i (by omega) (by omega)
  unfold okP at h
  simp only [Bool.and_eq_true, Bool.or_eq_true, decide_eq_true_eq, inR_iff] at h
  exact ⟨h.1, h.2.2⟩
 refine ⟨by omega, fun t ht => (h3 t ht).1, fun s t hst => ?_⟩
 induction t with
 | zero =>
  intro _
  obtain rfl : s = 0 := by omega
  exact Int.le_refl _
 | succ t ih =>
  intro ht
  rcases Nat.lt_or_eq_of_le hst with h | rfl
  ·
   have h4 := ih (by omega) (by omega)
   have h5 := (h3 (t + 1) ht).2
   rw [show t + 1 - 1 = t by omega] at h5
   omega
  · exact Int.le_refl _
def addM (l : List DP) (p : DP) : List DP × Bool := if rowOk l = true then (if inR p.f0 0 999 = true then (if okL (addT l p) = true then (addT l p, true) else ([], false)) else ([], false)) else ([], false)
end Go.Proofs.Ytlipaiabjcaeiaa.Dec
namespace Go.Proofs.Ytlipaiabjcaeiaa.A
open Go Go.RowKit YtlipaiabjcaeiaaW.PrintWords YtlipaiabjcaeiaaW.PrintLast YtlipaiabjcaeiaaW.PrintMore
open Net (Sine.Laid)
open Dec Plain
def impl_AddPoint.f (l0 : List DP) (a b : Int) : Option (List DP × Bool) := if l0.length ≤ 140737488351232 then some (addM l0 ⟨a, b⟩) else none
set_option maxHeartbeats 4000000 in
set_option maxRecDepth 100000 in
theorem impl_AddPoint.calls (A0 : Option Addr) (c0 : Nat) (ls : List DP) (a1_0 : Int) (a1_1 : Int) (r1 : List DP) (r2 : Bool) (w : World) (hr0 : Kd.C k56 w A0 ls.length ls) (hc0 : ls.length ≤ c0) (h : impl_AddPoint.f ls a1_0 a1_1 = some (r1, r2)) (hL : Sine.Laid w) :
  Calls Try.prog 39 #[.slice A0 ls.length c0, .agg #[.int .i64 a1_0, .int .i64 a1_1]] w fun e w' => ∃ v0_ : Value, e = .returned (.tuple #[v0_, .bool r2]) ∧ Kd.R k56 56 w' w.heap.size (fun _ => True) v0_ r1 ∧ Below w.heap.size w w' := by
 unfold impl_AddPoint.f at h
 by_cases hb : ls.length ≤ 140737488351232
 case neg => rw [if_neg hb] at h; cases h
 rw [if_pos hb] at h
 obtain ⟨KR, hKR⟩ := isRow_ev ls hb
 have HROW := Aside0.mk (hKR KR (Nat.le_refl _))
 have HR := Aside0.mk hr0
 have HDY := Aside0.mk (isDay_eq a1_0)
 have HN := Aside0.mk hc0
 have HRET : ∀ W : World, Below w.heap.size w W → ∃ v0_ : Value, Ending.returned (.tuple #[.slice none 0 0, .bool false]) = .returned (.tuple #[v0_, .bool false]) ∧ Kd.R k56 56 W w.heap.size (fun _ => True) v0_ [] ∧ Below w.heap.size w W := fun W hW => ⟨_, rfl, Kd.R_nil _ _ _ _ _, hW⟩
 have HRT := Aside0.mk HRET
 unfold addM at h
 simp only [Option.some.injEq] at h
 have ROWCALL : ∀ W : World, Below w.heap.size w W → Calls Try.prog 62 #[.slice A0 ls.length c0] W fun e w' => e = .returned (.bool (rowOk ls)) ∧ Below W.heap.size W w' := fun W hW => impl_isRow.calls KR A0 c0 ls _ W (Kd.C_below HR.out hW) HN.out HROW.out
 have RC := Aside0.mk ROWCALL
 obtain ⟨wA, hwA⟩ : ∃ wA, wA = w.alloc (.cells #[.int .i64 a1_0, .int .i64 a1_1] 56) := ⟨_, rfl⟩
 have hBA : Below w.heap.size w wA := by rw [hwA]; exact (Below.refl _ _).alloc (Nat.le_refl _) _
 have hbx : PtAt wA w.heap.size ⟨a1_0, a1_1⟩ := by rw [hwA]; exact World.alloc_heap_new w _
 have HWA := Aside0.mk hwA.symm
 have HBA := Aside0.mk hBA
 have HPT : Aside0 (∀ W, Below wA.heap.size wA W → W.cell? ⟨w.heap.size, 0, none⟩ = some (.int .i64 a1_0) ∧ W.cell? ⟨w.heap.size, 1, none⟩ = some (.int .i64 a1_1)) := ⟨fun W hW => by
  have hlt := (Array.getElem?_eq_some_iff.1 (show wA.heap[w.heap.size]? = _ from hbx)).1
  exact ⟨(hW.cell (p := ⟨w.heap.size, 0, none⟩) hlt).trans (hbx.cells 0 _ rfl), (hW.cell (p := ⟨w.heap.size, 1, none⟩) hlt).trans (hbx.cells 1 _ rfl)⟩⟩
 clear hwA hBA hbx hr0 hc0 HRET ROWCALL hKR hL
 go_enter Try.func39, Try.ntmps39
 by_cases c1 : rowOk ls = true
 case neg =>
  rw [if_neg c1] at h
  have c1' : rowOk ls = false := by revert c1; cases rowOk ls <;> simp
  rw [c1'] at RC
  simp only [Prod.mk.injEq] at h
  obtain ⟨rfl, rfl⟩ := h
  clear c1 c1'
  go_wp2_with (rw [HWA.out]; go_at_call 62; (with_reducible refine (RC.out _ HBA.out).mono ?_); rintro e w1 ⟨rfl, hw⟩; have HB1 := Aside0.mk (below_step HBA.out hw); clear hw)
  exact bodyPost_ret (v := .tuple #[.slice none 0 0, .bool false]) qz77 rfl (HRT.out _ HB1.out)
 rw [if_pos c1] at h
 have HF := Aside0.mk (rowF c1)
 replace RC : Aside0 (∀ W : World, Below w.heap.size w W → Calls Try.prog 62 #[.slice A0 ls.length c0] W fun e w' => e = .returned (.bool true) ∧ Below W.heap.size W w') := ⟨by rw [← c1]; exact RC.out⟩
 by_cases c2 : inR a1_0 0 999 = true
 case neg =>
  rw [if_neg c2] at h
  have c2' : inR a1_0 0 999 = false := by revert c2; cases inR a1_0 0 999 <;> simp
  rw [c2'] at HDY
  simp only [Prod.mk.injEq] at h
  obtain ⟨rfl, rfl⟩ := h
  clear c1 c2 c2'
  go_wp2_with (first
   | (rw [HWA.out]; go_at_call 62; (with_reducible refine (RC.out _ HBA.out).mono ?_); rintro e w1 ⟨rfl, hw⟩; have HB1 := Aside0.mk (below_step HBA.out hw); obtain ⟨hx0, hx1⟩ := HPT.out _ hw; clear hw)
   | (go_at_call 50; (with_reducible refine (impl_isDay.calls _ _ _ HDY.out).mono ?_); rintro e w2 ⟨rfl, n2, rfl⟩))
  exact bodyPost_ret (v := .tuple #[.slice none 0 0, .bool false]) qz77 rfl (HRT.out _ (below_step HB1.out (below_drew _ _)))
 rw [if_pos c2] at h
 replace HDY : Aside0 (impl_isDay.f a1_0 = some true) := ⟨by rw [← c2]; exact HDY.out⟩
 have hd2 := inR_iff.1 c2
 have HD2 := Aside0.mk hd2
 clear c1 c2 hd2
 have HHB : Aside0 (∀ W, Below wA.heap.size wA W → Below w.heap.size w W) := ⟨fun W hW => HBA.out.trans (hW.mono HBA.out.size)⟩
 have HSC : Aside0 (∀ (B : Nat) (v : Value) (W : World), CloneP B ls v W → Calls Try.prog 80 #[v, .agg #[.int .i64 a1_0, .int .i64 a1_1], .func (.func 81) #[] #[]] W fun e w' => e = .returned (.tuple #[.int .i64 (lowB ls a1_0 : Nat), .bool (decide (lowB ls a1_0 < ls.length) && decide (dayAt ls (lowB ls a1_0) = a1_0))]) ∧ Below W.heap.size W w') := ⟨fun B v W hv => searchV B ls ⟨a1_0, a1_1⟩ v W hv HF.out.few HF.out.day HF.out.up HD2.out⟩
 by_cases hfound : lowB ls a1_0 < ls.length ∧ dayAt ls (lowB ls a1_0) = a1_0
 ·
  have HSR : Aside0 ((decide (lowB ls a1_0 < ls.length) && decide (dayAt ls (lowB ls a1_0) = a1_0)) = true) := ⟨by
   rw [← Bool.decide_and]; exact decide_eq_true hfound⟩
  have hI := hfound.1
  have hT : addT ls ⟨a1_0, a1_1⟩ = ls.set (lowB ls a1_0) ⟨a1_0, a1_1⟩ := by unfold addT; rw [if_pos hfound]
  rw [hT] at h
  rw [HSR.out] at HSC
  clear hfound hT
  generalize lowB ls a1_0 = I at *
  have HSE : Aside0 (∀ (B : Nat) (v : Value) (W : World), CloneP B ls v W → Calls Try.prog 80 #[v, .agg #[.int .i64 a1_0, .int .i64 a1_1], .func (.func 81) #[] #[]] W fun e w' => e = .returned (.tuple #[.int .i64 (I : Int), .bool true]) ∧ Below W.heap.size W w') := ⟨fun B v W hv => HSC.out B v W hv⟩
  have hL : (ls.set I ⟨a1_0, a1_1⟩).length = ls.length := List.length_set
  have HNE : Aside0 (0 < ls.length) := ⟨by omega⟩
  have i0 : (0 : Int) ≤ (I : Int) := by omega
  have i1 : (I : Int) < (ls.length : Int) := by omega
  obtain ⟨KA, hKA⟩ := arePoints_ev (ls.set I ⟨a1_0, a1_1⟩) (by rw [hL]; exact hb)
  have HARE := Aside0.mk (hKA KA (Nat.le_refl _))
  obtain ⟨L, hLd⟩ : ∃ L, L = ls.set I (⟨a1_0, a1_1⟩ : DP) := ⟨_, rfl⟩
  rw [← hLd] at h HARE hL
  have HEL : Aside0 (L = ls.set ((I : Int)).toNat (⟨a1_0, a1_1⟩ : DP)) := ⟨by rw [Int.toNat_natCast]; exact hLd⟩
  have HLL := Aside0.mk hL
  clear hKA hL HSC hI hLd
  have HARE2 : Aside0 (∀ (A : Option Addr) (c : Nat) (W : World), ls.length ≤ c → Kd.C k56 W A ls.length L → Calls Try.prog 22 #[.slice A ls.length c] W fun e w' => e = .returned (.bool (okL L)) ∧ Below W.heap.size W w') := ⟨fun A c W hc hC => by
   rw [← HLL.out] at hc hC ⊢
   exact impl_ArePoints.calls KA _ _ _ _ _ hC hc HARE.out⟩
  cases hk : okL L
  ·
   rw [hk] at HARE2
   rw [if_neg (by rw [hk]; decide)] at h
   simp only [Prod.mk.injEq] at h
   obtain ⟨rfl, rfl⟩ := h
   go_wp2_with (first
    | (rw [HWA.out]; go_at_call 62; (with_reducible refine (RC.out _ HBA.out).mono ?_); rintro e w1 ⟨rfl, hw⟩; have HB1 := Aside0.mk hw; clear hw; obtain ⟨hx0, hx1⟩ := HPT.out _ HB1.out)
    | (go_at_call 50; (with_reducible refine (impl_isDay.calls _ _ _ HDY.out).mono ?_); rintro e w2 ⟨rfl, n2, rfl⟩; clear hx0 hx1)
    | (go_at_call 79; (with_reducible refine (cloneAny A0 c0 ls _ (Kd.C_below HR.out (HHB.out _ (below_step HB1.out (below_drew _ _)))) (by have := HF.out.few; omega)).mono ?_); rintro e w3 ⟨v, rfl, hv, hw⟩; obtain ⟨g5, cap5, rfl, hv5⟩ := hv.row HNE.out; have HS3 := Aside0.mk (show wA.heap.size ≤ (w1.drewN n2).heap.size from HB1.out.size); have HS4 := Aside0.mk hw.size; have HB3 := Aside0.mk (below_step (below_step HB1.out (below_drew _ _)) hw); have HV3 := Aside0.mk hv5; clear hw hv hv5 HB1; obtain ⟨hx0, hx1⟩ := HPT.out _ HB3.out)
    | (go_at_call 80; (with_reducible refine (HSE.out _ (.slice (some ⟨g5, 0, none⟩) ls.length cap5) _ (CloneP.of_row HV3.out)).mono ?_); rintro e w4 ⟨rfl, hw⟩; have HB4 := Aside0.mk (below_step HB3.out hw); have HV4 := Aside0.mk (HV3.out.below hw); replace HS4 := Aside0.mk (Nat.le_trans HS4.out hw.size); clear hw hx0 hx1 HB3; obtain ⟨hx0, hx1⟩ := HPT.out _ HB4.out; have hg5 := HV4.out.le; have HX := Aside0.mk ((HV4.out.lower (Nat.le_trans HBA.out.size HS3.out)).kd (fun _ => True) trivial); obtain ⟨ce, hcl, hM, hcc, hfr⟩ := Kd.R_elem HX.out z56 (I : Int) i0 i1; obtain rfl := k56_openM hM; have HP := Kd.R_seg HX.out (I : Int) i0 i1 (seg := [.int .i64 a1_0, .int .i64 a1_1]) (j := 0) hcl hcc (show 2 ≤ 2 from by decide) (x' := (⟨a1_0, a1_1⟩ : DP)) (k56_mkM _ _ _ (⟨a1_0, a1_1⟩ : DP)) (fun _ hk => hk); have hc0 := hcc 0 _ rfl; have hc1 := hcc 1 _ rfl; have hf0 := hfr 0; have hf1 := hfr 1; (try simp only [show (k56).sz = 2 from rfl, Nat.mul_one, Nat.add_zero, Int.toNat_natCast] at hc0 hc1 hf0 hf1); clear hcl hcc hfr hM)
    | ((with_reducible refine gate_store (t := 56) (p := 30) rfl ?_); refine store_event (t := 56) (p := 30) (v := ?vo) (w1 := ((w4.setCell ⟨g5, (I : Int).toNat * 2, none⟩ (.int .i64 a1_0)).setCell ⟨g5, (I : Int).toNat * 2 + 1, none⟩ (.int .i64 a1_1))) ?hg ?ho ?hn ?hr ?_; (case ho => rfl); (case hg => rfl); (case hn => rfl); (case hr => first | (go_simp; done) | (go_simp; rfl)); intro w5 hw; have HKR := Aside0.mk (show Kd.R k56 56 w5 w.heap.size (fun _ => True) (.slice (some ⟨g5, 0, none⟩) ls.length cap5) L from by rw [hw, HEL.out]; exact HP.1); have HB5 := Aside0.mk (show Below w.heap.size w w5 from by rw [hw]; exact below_set (below_set (HHB.out _ HB4.out) (Nat.le_trans (Nat.le_trans HBA.out.size HS3.out) hg5)) (Nat.le_trans (Nat.le_trans HBA.out.size HS3.out) hg5)); clear hw HP hx0 hx1 hc0 hc1 hf0 hf1)
    | (go_at_call 22; (with_reducible refine (HARE2.out _ _ _ (Kd.R_reads' HKR.out).2.1 (by have := (Kd.R_reads' HKR.out).1; rw [this]; exact (Kd.R_reads' HKR.out).2.2)).mono ?_); rintro e w6 ⟨rfl, hw⟩; have HB6 := Aside0.mk (below_step HB5.out hw); replace HKR := Aside0.mk (Kd.R_below HKR.out hw); clear hw))
   exact bodyPost_ret (v := .tuple #[.slice none 0 0, .bool false]) qz77 rfl (HRT.out _ HB6.out)
  ·
   rw [hk] at HARE2
   rw [if_pos hk] at h
   simp only [Prod.mk.injEq] at h
   obtain ⟨rfl, rfl⟩ := h
   go_wp2_with (first
    | (rw [HWA.out]; go_at_call 62; (with_reducible refine (RC.out _ HBA.out).mono ?_); rintro e w1 ⟨rfl, hw⟩; have HB1 := Aside0.mk hw; clear hw; obtain ⟨hx0, hx1⟩ := HPT.out _ HB1.out)
    | (go_at_call 50; (with_reducible refine (impl_isDay.calls _ _ _ HDY.out).mono ?_); rintro e w2 ⟨rfl, n2, rfl⟩; clear hx0 hx1)
    | (go_at_call 79; (with_reducible refine (cloneAny A0 c0 ls _ (Kd.C_below HR.out (HHB.out _ (below_step HB1.out (below_drew _ _)))) (by have := HF.out.few; omega)).mono ?_); rintro e w3 ⟨v, rfl, hv, hw⟩; obtain ⟨g5, cap5, rfl, hv5⟩ := hv.row HNE.out; have HS3 := Aside0.mk (show wA.heap.size ≤ (w1.drewN n2).heap.size from HB1.out.size); have HS4 := Aside0.mk hw.size; have HB3 := Aside0.mk (below_step (below_step HB1.out (below_drew _ _)) hw); have HV3 := Aside0.mk hv5; clear hw hv hv5 HB1; obtain ⟨hx0, hx1⟩ := HPT.out _ HB3.out)
    | (go_at_call 80; (with_reducible refine (HSE.out _ (.slice (some ⟨g5, 0, none⟩) ls.length cap5) _ (CloneP.of_row HV3.out)).mono ?_); rintro e w4 ⟨rfl, hw⟩; have HB4 := Aside0.mk (below_step HB3.out hw); have HV4 := Aside0.mk (HV3.out.below hw); replace HS4 := Aside0.mk (Nat.le_trans HS4.out hw.size); clear hw hx0 hx1 HB3; obtain ⟨hx0, hx1⟩ := HPT.out _ HB4.out; have hg5 := HV4.out.le; have HX := Aside0.mk ((HV4.out.lower (Nat.le_trans HBA.out.size HS3.out)).kd (fun _ => True) trivial); obtain ⟨ce, hcl, hM, hcc, hfr⟩ := Kd.R_elem HX.out z56 (I : Int) i0 i1; obtain rfl := k56_openM hM; have HP := Kd.R_seg HX.out (I : Int) i0 i1 (seg := [.int .i64 a1_0, .int .i64 a1_1]) (j := 0) hcl hcc (show 2 ≤ 2 from by decide) (x' := (⟨a1_0, a1_1⟩ : DP)) (k56_mkM _ _ _ (⟨a1_0, a1_1⟩ : DP)) (fun _ hk => hk); have hc0 := hcc 0 _ rfl; have hc1 := hcc 1 _ rfl; have hf0 := hfr 0; have hf1 := hfr 1; (try simp only [show (k56).sz = 2 from rfl, Nat.mul_one, Nat.add_zero, Int.toNat_natCast] at hc0 hc1 hf0 hf1); clear hcl hcc hfr hM)
    | ((with_reducible refine gate_store (t := 56) (p := 30) rfl ?_); refine store_event (t := 56) (p := 30) (v := ?vo) (w1 := ((w4.setCell ⟨g5, (I : Int).toNat * 2, none⟩ (.int .i64 a1_0)).setCell ⟨g5, (I : Int).toNat * 2 + 1, none⟩ (.int .i64 a1_1))) ?hg ?ho ?hn ?hr ?_; (case ho => rfl); (case hg => rfl); (case hn => rfl); (case hr => first | (go_simp; done) | (go_simp; rfl)); intro w5 hw; have HKR := Aside0.mk (show Kd.R k56 56 w5 w.heap.size (fun _ => True) (.slice (some ⟨g5, 0, none⟩) ls.length cap5) L from by rw [hw, HEL.out]; exact HP.1); have HB5 := Aside0.mk (show Below w.heap.size w w5 from by rw [hw]; exact below_set (below_set (HHB.out _ HB4.out) (Nat.le_trans (Nat.le_trans HBA.out.size HS3.out) hg5)) (Nat.le_trans (Nat.le_trans HBA.out.size HS3.out) hg5)); clear hw HP hx0 hx1 hc0 hc1 hf0 hf1)
    | (go_at_call 22; (with_reducible refine (HARE2.out _ _ _ (Kd.R_reads' HKR.out).2.1 (by have := (Kd.R_reads' HKR.out).1; rw [this]; exact (Kd.R_reads' HKR.out).2.2)).mono ?_); rintro e w6 ⟨rfl, hw⟩; have HB6 := Aside0.mk (below_step HB5.out hw); replace HKR := Aside0.mk (Kd.R_below HKR.out hw); clear hw))
   exact bodyPost_ret (v := .tuple #[.slice (some ⟨g5, 0, none⟩) ls.length cap5, .bool true]) qz77 rfl ⟨_, rfl, HKR.out, HB6.out⟩
 ·
  have HSR : Aside0 ((decide (lowB ls a1_0 < ls.length) && decide (dayAt ls (lowB ls a1_0) = a1_0)) = false) := ⟨by
   rw [← Bool.decide_and]; exact decide_eq_false hfound⟩
  have HI : Aside0 (lowB ls a1_0 ≤ ls.length) := ⟨lowB_le _ _⟩
  have hT : addT ls ⟨a1_0, a1_1⟩ = insL ls (lowB ls a1_0) ⟨a1_0, a1_1⟩ := by unfold addT; rw [if_neg hfound]
  rw [hT] at h
  rw [HSR.out] at HSC
  clear hfound hT
  generalize lowB ls a1_0 = I at *
  have HSE : Aside0 (∀ (B : Nat) (v : Value) (W : World), CloneP B ls v W → Calls Try.prog 80 #[v, .agg #[.int .i64 a1_0, .int .i64 a1_1], .func (.func 81) #[] #[]] W fun e w' => e = .returned (.tuple #[.int .i64 (I : Int), .bool false]) ∧ Below W.heap.size W w') := ⟨fun B v W hv => HSC.out B v W hv⟩
  have hL : (insL ls I ⟨a1_0, a1_1⟩).length ≤ 9 := by rw [insL_len _ _ _ HI.out]; have := HF.out.few; omega
  obtain ⟨KA, hKA⟩ := arePoints_ev (insL ls I ⟨a1_0, a1_1⟩) (by omega)
  have HARE := Aside0.mk (hKA KA (Nat.le_refl _))
  have HIN : Aside0 (∀ (B : Nat) (v : Value) (W : World), CloneP B ls v W → B ≤ W.heap.size → Calls Try.prog 82 #[v, .int .i64 (I : Int), .slice (some ⟨W.heap.size, 0, none⟩) 1 1] (W.alloc (.cells #[.int .i64 a1_0, .int .i64 a1_1] 56)) (InsPost B (W.alloc (.cells #[.int .i64 a1_0, .int .i64 a1_1] 56)) (insL ls I ⟨a1_0, a1_1⟩))) := ⟨fun B v W hv hs => insertV B I ls ⟨a1_0, a1_1⟩ v W hv HF.out.few HI.out hs⟩
  clear hKA hL HSC
  generalize insL ls I ⟨a1_0, a1_1⟩ = L at *
  cases hk : okL L
  ·
   rw [hk] at HARE
   rw [if_neg (by rw [hk]; decide)] at h
   simp only [Prod.mk.injEq] at h
   obtain ⟨rfl, rfl⟩ := h
   go_wp2_with (first
    | (rw [HWA.out]; go_at_call 62; (with_reducible refine (RC.out _ HBA.out).mono ?_); rintro e w1 ⟨rfl, hw⟩; have HB1 := Aside0.mk hw; clear hw; obtain ⟨hx0, hx1⟩ := HPT.out _ HB1.out)
    | (go_at_call 50; (with_reducible refine (impl_isDay.calls _ _ _ HDY.out).mono ?_); rintro e w2 ⟨rfl, n2, rfl⟩; clear hx0 hx1)
    | (go_at_call 79; (with_reducible refine (cloneAny A0 c0 ls _ (Kd.C_below HR.out (HHB.out _ (below_step HB1.out (below_drew _ _)))) (by have := HF.out.few; omega)).mono ?_); rintro e w3 ⟨v, rfl, hv, hw⟩; have HS3 := Aside0.mk (show wA.heap.size ≤ (w1.drewN n2).heap.size from HB1.out.size); have HS4 := Aside0.mk hw.size; have HB3 := Aside0.mk (below_step (below_step HB1.out (below_drew _ _)) hw); have HV3 := Aside0.mk hv; clear hw hv HB1; obtain ⟨hx0, hx1⟩ := HPT.out _ HB3.out)
    | (go_at_call 80; (with_reducible refine (HSE.out _ _ _ HV3.out).mono ?_); rintro e w4 ⟨rfl, hw⟩; have HB4 := Aside0.mk (below_step HB3.out hw); have HV4 := Aside0.mk (HV3.out.below hw); replace HS4 := Aside0.mk (Nat.le_trans HS4.out hw.size); clear hw hx0 hx1 HB3; obtain ⟨hx0, hx1⟩ := HPT.out _ HB4.out)
    | (go_at_call 82; (with_reducible refine (HIN.out _ _ _ HV4.out HS4.out).mono ?_); rintro e w5 ⟨g5, cap5, rfl, hrow, hw⟩; have HB5 := Aside0.mk (HHB.out _ ((below_alloc HB4.out _).trans (hw.mono HS3.out))); have HRW := Aside0.mk (hrow.lower (Nat.le_trans HBA.out.size HS3.out)); clear hw hrow hx0 hx1)
    | (go_at_call 22; (with_reducible refine (impl_ArePoints.calls KA _ _ _ _ _ ?s1 ?s2 HARE.out).mono ?_); (case s1 => exact HRW.out.read); (case s2 => exact HRW.out.len); rintro e w6 ⟨rfl, hw⟩; have HB6 := Aside0.mk (below_step HB5.out hw); replace HRW := Aside0.mk (HRW.out.below hw); clear hw))
   exact bodyPost_ret (v := .tuple #[.slice none 0 0, .bool false]) qz77 rfl (HRT.out _ HB6.out)
  ·
   rw [hk] at HARE
   rw [if_pos hk] at h
   simp only [Prod.mk.injEq] at h
   obtain ⟨rfl, rfl⟩ := h
   go_wp2_with (first
    | (rw [HWA.out]; go_at_call 62; (with_reducible refine (RC.out _ HBA.out).mono ?_); rintro e w1 ⟨rfl, hw⟩; have HB1 := Aside0.mk hw; clear hw; obtain ⟨hx0, hx1⟩ := HPT.out _ HB1.out)
    | (go_at_call 50; (with_reducible refine (impl_isDay.calls _ _ _ HDY.out).mono ?_); rintro e w2 ⟨rfl, n2, rfl⟩; clear hx0 hx1)
    | (go_at_call 79; (with_reducible refine (cloneAny A0 c0 ls _ (Kd.C_below HR.out (HHB.out _ (below_step HB1.out (below_drew _ _)))) (by have := HF.out.few; omega)).mono ?_); rintro e w3 ⟨v, rfl, hv, hw⟩; have HS3 := Aside0.mk (show wA.heap.size ≤ (w1.drewN n2).heap.size from HB1.out.size); have HS4 := Aside0.mk hw.size; have HB3 := Aside0.mk (below_step (below_step HB1.out (below_drew _ _)) hw); have HV3 := Aside0.mk hv; clear hw hv HB1; obtain ⟨hx0, hx1⟩ := HPT.out _ HB3.out)
    | (go_at_call 80; (with_reducible refine (HSE.out _ _ _ HV3.out).mono ?_); rintro e w4 ⟨rfl, hw⟩; have HB4 := Aside0.mk (below_step HB3.out hw); have HV4 := Aside0.mk (HV3.out.below hw); replace HS4 := Aside0.mk (Nat.le_trans HS4.out hw.size); clear hw hx0 hx1 HB3; obtain ⟨hx0, hx1⟩ := HPT.out _ HB4.out)
    | (go_at_call 82; (with_reducible refine (HIN.out _ _ _ HV4.out HS4.out).mono ?_); rintro e w5 ⟨g5, cap5, rfl, hrow, hw⟩; have HB5 := Aside0.mk (HHB.out _ ((below_alloc HB4.out _).trans (hw.mono HS3.out))); have HRW := Aside0.mk (hrow.lower (Nat.le_trans HBA.out.size HS3.out)); clear hw hrow hx0 hx1)
    | (go_at_call 22; (with_reducible refine (impl_ArePoints.calls KA _ _ _ _ _ ?s1 ?s2 HARE.out).mono ?_); (case s1 => exact HRW.out.read); (case s2 => exact HRW.out.len); rintro e w6 ⟨rfl, hw⟩; have HB6 := Aside0.mk (below_step HB5.out hw); replace HRW := Aside0.mk (HRW.out.below hw); clear hw))
   exact bodyPost_ret (v := .tuple #[.slice (some ⟨g5, 0, none⟩) L.length cap5, .bool true]) qz77 rfl ⟨_, rfl, HRW.out.kd _ trivial, HB6.out⟩
end Go.Proofs.Ytlipaiabjcaeiaa.A
