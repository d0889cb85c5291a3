/- The legs without residuals, in plain: axis by axis, leg by leg. -/
import Derived.Test.YtmgkbhhnchnkcaaGreatDoorKFnResidualsU8
set_option maxHeartbeats 4000000
set_option maxRecDepth 100000
set_option linter.unusedSimpArgs false
set_option linter.unusedVariables false
namespace Go.Proofs.YtmgkbhhnchnkcaaGreatDoor
namespace Elim
open Go Go.RowKit YtmgkbhhnchnkcaaGreatDoorW.PrintWords Det
theorem piv_eq(M:Mx)(k:Nat):∀d p,piv M k d p=Det.pivot M k p d
  |0,p=>rfl
  | d +1,p=>by
    unfold piv Det.pivot;by_cases h:M p k=0
    · rw[if_pos h,if_neg (fun e=>e h)]
      exact piv_eq M k d (p+1)
    · rw[if_neg h,if_pos h]
theorem swp_if(M:Mx)(k p:Nat):Elim.swp M k p=if p=k then M else Det.swp M k p:=by
  by_cases h:p=k
  · rw[if_pos h,h]
    funext i
    unfold Elim.swp;by_cases c:i=k
    · rw[if_pos c,c]
    · rw[if_neg c,if_neg c]
  · rw[if_neg h];rfl
theorem w_id{x:Int}(h:ab x≤9223372036854775807):wrap64 x=x:=by
  rw[ab_le]at h;unfold wrap64;omega
theorem ab_sub(x y:Int):ab (x-y)≤ab x+ab y:=by unfold ab;omega
theorem mul_le_sq{B x y:Int}(hB:0≤B)(hx:ab x≤B)(hy:ab y≤B):ab (x*y)≤B*B:=by
  rw[ab_mul];exact Int.mul_le_mul hx hy (ab_nonneg y) hB
theorem val_eq{M:Mx}{k:Nat}{l B:Int}{i j:Nat}(hB:0≤B)(hBB:2*(B*B)≤9223372036854775807)(h1:ab (M i j)≤B)(h2:ab (M k k)≤B)(h3:ab (M i k)≤B)(h4:ab (M k j)≤B)(h5:ab ((M i j*M k k-M i k*M k j).tdiv l)≤9223372036854775807):
    val M k l i j=(M i j*M k k-M i k*M k j).tdiv l:=by
  have a:=mul_le_sq hB h1 h2;have b:=mul_le_sq hB h3 h4;have c:=ab_sub (M i j*M k k) (M i k*M k j);have hp:0≤B*B:=Int.mul_nonneg hB hB;unfold val;rw[w_id (x:=M i j*M k k) (by omega),w_id (x:=M i k*M k j) (by omega),w_id (x:=M i j*M k k-M i k*M k j) (by omega),w_id h5]
theorem det_exact {n s:Nat} {c X B D:Int} (hc:0≤c) (hB:(n*c+1)*X≤B) (hBB:2*(B*B)≤9223372036854775807) (h1:1≤B):
    ∀(d k:Nat) (sg l:Int) (M:Mx) (A:Nat→Nat→Int),k+d=n→Stage n D k M sg l A→(sg=1∨sg= -1)→Bnd n s c X A→det d k sg l M=D
  | 0,k,sg,l,M,A,hk,h,hs,hb=>by
    obtain rfl:k=n:=by omega
    have hl:ab l≤B:=by
      rw[h.last]
      cases k with
      |zero=>rw[P_zero];unfold ab;simp;omega
      |succ k=>rw[P_succ];exact Int.le_trans (R_bound hc hb (Nat.le_refl k) (by omega)) hB
    have hBsq:B≤B*B:=by
      have:=Int.mul_le_mul_of_nonneg_left h1 (show 0≤B by omega);omega
    have e:sg*l=D:=by rw[←h.det,h.last];rfl
    show wrap64 (sg*l)=D;rw[w_id,e];rcases hs with rfl|rfl
    · rw[Int.one_mul];omega
    · rw[Int.neg_mul,Int.one_mul];unfold ab at *;rw[Int.natAbs_neg];omega
  | d + 1,k,sg,l,M,A,hk,h,hs,hb=>by
    rw[det_succ,piv_eq]
    cases hp:Det.pivot M k k (d+1)with
    | none=>
      have h0:=Det.pivot_none hp
      have hz:F n A n (low n)=0:=F_no_pivot n A k (by omega) (h.lead k (Nat.le_refl k)) (fun i hi=>by
        by_cases c:i<k
        · exact R_above n A k i k c
        · rw[←h.ent i k (by omega) hi (Nat.le_refl k) (by omega)]
          exact h0 i (by omega) (by omega))
      show(0:Int)=D;rw[←h.det,hz,Int.mul_zero]
    | some p=>
      obtain⟨h2,h3,h4⟩:=Det.pivot_some hp;have hpn:p<n:=by omega
      have hst:=h.pivot h2 hpn;show det d (k+1) (if p=k then sg else wrap64 (-sg)) ((Elim.swp M k p) k k) (stp (Elim.swp M k p) k l)=D;rw[swp_if M k p]
      have hbA:Bnd n s c X (if p=k then A else Det.swp A k p):=by
        by_cases e:p=k
        · rw[if_pos e];exact hb
        · rw[if_neg e];exact hb.swp (by omega) hpn
      have hsg:(if p=k then sg else wrap64 (-sg))=if p=k then sg else -sg:=by
        by_cases e:p=k
        · rw[if_pos e,if_pos e]
        · rw[if_neg e,if_neg e]
          rcases hs with rfl|rfl
          · unfold wrap64;omega
          · unfold wrap64;omega
      have hs':(if p=k then sg else -sg)=1∨(if p=k then sg else -sg)= -1:=by
        by_cases e:p=k
        · rw[if_pos e];exact hs
        · rw[if_neg e];omega
      rw[hsg]
      have hkk:(if p=k then M else Det.swp M k p) k k≠0:=by
        by_cases e:p=k
        · rw[if_pos e,←e];rw[e]at h4;rw[e];exact h4
        · rw[if_neg e]
          unfold Det.swp;rw[if_pos rfl];exact h4
      generalize (if p=k then M else Det.swp M k p)=M' at *;generalize (if p=k then A else Det.swp A k p)=A' at *;generalize (if p=k then sg else -sg)=sg' at *;have hnx:=hst.next (by omega:k<n) hkk
      have hbd:∀i j,k≤i→i<n→k≤j→j<n→ab (M' i j)≤B:=fun i j hi hin hj hjn=>by
        rw[hst.ent i j hi hin hj hjn];exact Int.le_trans (R_bound hc hbA hi hin) hB
      have hsame:Same (k+1) n (stp M' k l) (stepM k M' l):=fun i j hi hin hj hjn=>by
        unfold stp stepM;rw[if_pos ⟨by omega,by omega⟩,if_pos ⟨by omega,by omega⟩];refine val_eq (B:=B) (by omega) hBB (hbd i j (by omega) hin (by omega) hjn) (hbd k k (Nat.le_refl k) (by omega) (Nat.le_refl k) (by omega)) (hbd i k (by omega) hin (Nat.le_refl k) (by omega)) (hbd k j (Nat.le_refl k) (by omega) (by omega) hjn) ?_;have e:=hnx.ent i j hi hin hj hjn;unfold stepM at e;rw[if_pos ⟨by omega,by omega⟩]at e;rw[e]
        have hBsq:B≤B*B:=by
          have:=Int.mul_le_mul_of_nonneg_left h1 (show 0≤B by omega);omega
        have:=Int.le_trans (R_bound hc hbA (k:=k+1) (i:=i) (j:=j) hi hin) hB;omega
      rw[det_same (n:=n) d (k+1) sg' (M' k k) _ _ (by omega) hsame];exact det_exact hc hB hBB h1 d (k+1) sg' (M' k k) _ A' (by omega) hnx hs' hbA
theorem det_F{n s:Nat}{c X B:Int}(hc:0≤c)(hB:(n*c+1)*X≤B)(hBB:2*(B*B)≤9223372036854775807)(h1:1≤B)(A:Nat→Nat→Int)(hb:Bnd n s c X A):det n 0 1 1 A=F n A n (low n):=
  det_exact hc hB hBB h1 n 0 1 1 A A (by omega) (stage_zero n A) (Or.inl rfl) hb
end Elim
namespace Det
def rs(N k:Nat)(B:Nat→Nat→Int)(i:Nat):Int:=sumTo N (fun j=>if k≤j then B i j else 0)
inductive Reach (N k:Nat) (B:Nat→Nat→Int):Nat→Prop
  |ground (i:Nat):0<rs N k B i→Reach N k B i
  |step (i j:Nat):k≤j→j<N→j≠i→B i j<0→Reach N k B j→Reach N k B i
structure Good(N k:Nat)(B:Nat→Nat→Int):Prop where
  sym:∀i j,k≤i→i<N→k≤j→j<N→B i j=B j i
  off:∀i j,k≤i→i<N→k≤j→j<N→i≠j→B i j≤0
  sum:∀i,k≤i→i<N→0≤rs N k B i
  reach:∀i,k≤i→i<N→Reach N k B i
theorem sumTo_le{n:Nat}{f g:Nat→Int}(h:∀j,j<n→f j≤g j):sumTo n f≤sumTo n g:=by
  induction n with
  |zero=>exact Int.le_refl _
  | succ n ih=>
    have h1:=ih (fun j hj=>h j (by omega));have h2:=h n (by omega);simp only[sumTo];omega
theorem rs_single{N k i j:Nat}{B:Nat→Nat→Int}(hj:k≤j)(hjN:j<N):rs N k B i=B i j+sumTo N (fun l=>if k≤l∧l≠j then B i l else 0):=by
  unfold rs
  rw[sumTo_single (j:=j) (g:=fun l=>if k≤l∧l≠j then B i l else 0) hjN (fun l _ hl=>by
    by_cases h:k≤l
    · rw[if_pos h,if_pos ⟨h,hl⟩]
    · rw[if_neg h,if_neg (fun h'=>h h'.1)]) (if_neg (fun h=>h.2 rfl)),if_pos hj]
theorem Good.diag {N k:Nat} {B:Nat→Nat→Int} (h:Good N k B) {i:Nat} (hi:k≤i) (hN:i<N):0≤B i i∧rs N k B i≤B i i∧∀j,k≤j→j<N→j≠i→ - B i j≤B i i:=by
  have h1:=rs_single (i:=i) (B:=B) hi hN;have h2:=h.sum i hi hN
  have h3:sumTo N (fun l=>if k≤l∧l≠i then B i l else 0)≤sumTo N (fun _=>0):=sumTo_le fun l hl=>by
    by_cases c:k≤l∧l≠i
    · rw[if_pos c]
      exact h.off i l hi hN c.1 hl (Ne.symm c.2)
    · rw[if_neg c]
      exact Int.le_refl _
  rw[sumTo_zero (fun _ _=>rfl)]at h3;refine⟨by omega,by omega,fun j hj hjN hne=>?_⟩
  have h4:sumTo N (fun l=>if k≤l∧l≠i then B i l else 0)≤sumTo N (fun l=>if l=j then B i j else 0):=sumTo_le fun l hl=>by
    by_cases c:l=j
    · subst c
      rw[if_pos rfl,if_pos ⟨hj,hne⟩];exact Int.le_refl _
    · rw[if_neg c]
      by_cases c':k≤l∧l≠i
      · rw[if_pos c']
        exact h.off i l hi hN c'.1 hl (Ne.symm c'.2)
      · rw[if_neg c']
        exact Int.le_refl _
  rw[sumTo_single (j:=j) (g:=fun _=>0) hjN (fun l _ hl=>if_neg hl) rfl,if_pos rfl,sumTo_zero (fun _ _=>rfl)]at h4;omega
theorem Good.pos{N k:Nat}{B:Nat→Nat→Int}(h:Good N k B)(hN:k<N):0<B k k:=by
  obtain⟨_,h2,h3⟩:=h.diag (Nat.le_refl k) hN
  cases h.reach k (Nat.le_refl k) hN with
  |ground _ hg=>omega
  | step _ j hj hjN hne hneg _=>
    have:=h3 j hj hjN hne;omega
theorem pos_of_mul{p x:Int}(hp:0<p)(h:0<p*x):0<x:=by
  rcases Int.lt_or_le 0 x with h'|h'
  · exact h'
  · have:=Int.mul_nonpos_of_nonneg_of_nonpos (Int.le_of_lt hp) h'
    omega
theorem neg_of_mul{p x:Int}(hp:0<p)(h:p*x<0):x<0:=by
  rcases Int.lt_or_le x 0 with h'|h'
  · exact h'
  · have:=Int.mul_nonneg (Int.le_of_lt hp) h'
    omega
theorem nonpos_of_mul{p x:Int}(hp:0<p)(h:p*x≤0):x≤0:=by
  rcases Int.lt_or_le 0 x with h'|h'
  · have:=Int.mul_pos hp h'
    omega
  · exact h'
theorem nonneg_of_mul{p x:Int}(hp:0<p)(h:0≤p*x):0≤x:=by
  rcases Int.lt_or_le x 0 with h'|h'
  · have:=Int.mul_neg_of_pos_of_neg hp h'
    omega
  · exact h'
theorem Good.next {N k:Nat} {B B':Nat→Nat→Int} (h:Good N k B) (hN:k<N) {p:Int} (hp:0<p)
    (hs:∀i j,k<i→i<N→k<j→j<N→p*B' i j=B i j*B k k-B i k*B k j):Good N (k+1) B':=by
  have hq:=h.pos hN;have off:=fun i (hi:k<i) (hiN:i<N)=>h.off i k (by omega) hiN (Nat.le_refl k) hN (by omega)
  have off':=fun j (hj:k<j) (hjN:j<N)=>h.off k j (Nat.le_refl k) hN (by omega) hjN (by omega)
  have hrs:∀i,k<i→i<N→p*rs N (k+1) B' i=rs N k B i*B k k-B i k*rs N k B k:=by
    intro i hi hiN
    have e1:p*rs N (k+1) B' i=sumTo N (fun j=>if k≤j∧j≠k then B i j*B k k-B i k*B k j else 0):=by
      unfold rs;rw[←sumTo_mul];refine sumTo_congr fun j hj=>?_
      by_cases c:k+1≤j
      · rw[if_pos c,if_pos ⟨by omega,by omega⟩]
        exact hs i j hi hiN (by omega) hj
      · rw[if_neg c,if_neg (by omega),Int.mul_zero]
    have e2:sumTo N (fun j=>if k≤j∧j≠k then B i j*B k k-B i k*B k j else 0)=B k k*sumTo N (fun l=>if k≤l∧l≠k then B i l else 0)+(- B i k)*sumTo N (fun l=>if k≤l∧l≠k then B k l else 0):=by
      rw[←sumTo_mul,←sumTo_mul,←sumTo_add];refine sumTo_congr fun j hj=>?_
      by_cases c:k≤j∧j≠k
      · rw[if_pos c,if_pos c,if_pos c]
        grind
      · rw[if_neg c,if_neg c,if_neg c]
        omega
    have r1:=rs_single (i:=i) (B:=B) (Nat.le_refl k) hN;have r2:=rs_single (i:=k) (B:=B) (Nat.le_refl k) hN;rw[e1,e2,r1,r2];generalize sumTo N (fun l=>if k≤l∧l≠k then B i l else 0)=x;generalize sumTo N (fun l=>if k≤l∧l≠k then B k l else 0)=y
    grind
  have hneg:∀i j,k<i→i<N→k<j→j<N→B i j<0→i≠j→B' i j<0:=by
    intro i j hi hiN hj hjN hb hne;refine neg_of_mul hp ?_;rw[hs i j hi hiN hj hjN];have m1:=Int.mul_neg_of_neg_of_pos hb hq;have m2:=Int.mul_nonneg_of_nonpos_of_nonpos (off i hi hiN) (off' j hj hjN);omega
  have hneg2:∀i j,k<i→i<N→k<j→j<N→B i k<0→B k j<0→i≠j→B' i j<0:=by
    intro i j hi hiN hj hjN hb hb' hne;refine neg_of_mul hp ?_;rw[hs i j hi hiN hj hjN];have m1:=Int.mul_nonpos_of_nonpos_of_nonneg (h.off i j (by omega) hiN (by omega) hjN hne) (Int.le_of_lt hq);have m2:=Int.mul_pos_of_neg_of_neg hb hb';omega
  have hgr:∀i,k<i→i<N→0<rs N k B i→0<rs N (k+1) B' i:=by
    intro i hi hiN hb;refine pos_of_mul hp ?_;rw[hrs i hi hiN];have m1:=Int.mul_pos hb hq;have m2:=Int.mul_nonpos_of_nonpos_of_nonneg (off i hi hiN) (h.sum k (Nat.le_refl k) hN);omega
  have hgr2:∀i,k<i→i<N→B i k<0→0<rs N k B k→0<rs N (k+1) B' i:=by
    intro i hi hiN hb hb';refine pos_of_mul hp ?_;rw[hrs i hi hiN];have m1:=Int.mul_nonneg (h.sum i (by omega) hiN) (Int.le_of_lt hq);have m2:=Int.mul_neg_of_neg_of_pos hb hb';omega
  refine⟨fun i j hi hiN hj hjN=>?_,fun i j hi hiN hj hjN hne=>?_,fun i hi hiN=>?_,fun i hi hiN=>?_⟩
  · have e1:=hs i j (by omega) hiN (by omega) hjN
    have e2:=hs j i (by omega) hjN (by omega) hiN;rw[h.sym j i (by omega) hjN (by omega) hiN,h.sym j k (by omega) hjN (Nat.le_refl k) hN,h.sym k i (Nat.le_refl k) hN (by omega) hiN]at e2;exact Int.eq_of_mul_eq_mul_left (by omega) (e1.trans (by rw[e2,Int.mul_comm (B k j)]))
  · refine nonpos_of_mul hp ?_
    rw[hs i j (by omega) hiN (by omega) hjN];have m1:=Int.mul_nonpos_of_nonpos_of_nonneg (h.off i j (by omega) hiN (by omega) hjN hne) (Int.le_of_lt hq);have m2:=Int.mul_nonneg_of_nonpos_of_nonpos (off i (by omega) hiN) (off' j (by omega) hjN);omega
  · refine nonneg_of_mul hp ?_
    rw[hrs i (by omega) hiN];have m1:=Int.mul_nonneg (h.sum i (by omega) hiN) (Int.le_of_lt hq);have m2:=Int.mul_nonpos_of_nonpos_of_nonneg (off i (by omega) hiN) (h.sum k (Nat.le_refl k) hN);omega
  ·
    have key:∀i,Reach N k B i→(i<N→k<i→Reach N (k+1) B' i)∧(i=k→0<rs N k B k∨∃j,k<j∧j<N∧B k j<0∧Reach N (k+1) B' j):=by
      intro i hr
      induction hr with
      | ground i hg=>
        refine⟨fun hiN hi=> .ground i (hgr i hi hiN hg),fun e=>?_⟩;subst e;exact .inl hg
      | step i j hj hjN hne hneg' hr ih=>
        refine⟨fun hiN hi=>?_,fun e=>?_⟩
        · by_cases ej:j=k
          · subst ej
            rcases ih.2 rfl with hg|⟨m,hm,hmN,hb,hrm⟩
            · exact .ground i (hgr2 i hi hiN hneg' hg)
            · by_cases em:m=i
              · subst em
                exact hrm
              · exact .step i m (by omega) hmN em (hneg2 i m hi hiN hm hmN hneg' hb (Ne.symm em)) hrm
          · exact .step i j (by omega) hjN hne (hneg i j hi hiN (by omega) hjN hneg' (Ne.symm hne)) (ih.1 hjN (by omega))
        · subst e
          exact .inr ⟨j,by omega,hjN,hneg',ih.1 hjN (by omega)⟩
    exact(key i (h.reach i (by omega) hiN)).1 hiN (by omega)
theorem lap_stages {N:Nat} {A:Nat→Nat→Int} (h:Good N 0 A):∀k,k≤N→(∀m,m≤k→0<P N A m)∧Good N k (R N A k)
  | 0,_=>by
    refine⟨fun m hm=>?_,?_⟩
    · obtain rfl:m=0:=by omega
      rw[P_zero];omega
    · have e:∀i j,j<N→R N A 0 i j=A i j:=fun i j hj=>R_zero N A i j hj
      have er:∀i,rs N 0 (R N A 0) i=rs N 0 A i:=fun i=>sumTo_congr fun j hj=>by rw[if_pos (Nat.zero_le j),if_pos (Nat.zero_le j),e i j hj]
      refine⟨fun i j hi hiN hj hjN=>?_,fun i j hi hiN hj hjN hne=>?_,fun i hi hiN=>?_,fun i hi hiN=>?_⟩
      · rw[e i j hjN,e j i hiN]
        exact h.sym i j hi hiN hj hjN
      · rw[e i j hjN]
        exact h.off i j hi hiN hj hjN hne
      · rw[er]
        exact h.sum i hi hiN
      · have key:∀i,Reach N 0 A i→Reach N 0 (R N A 0) i:=by
          intro i hr
          induction hr with
          |ground i hg=>exact .ground i (by rw[er];exact hg)
          |step i j hj hjN hne hb _ ih=>exact .step i j hj hjN hne (by rw[e i j hjN];exact hb) ih
        exact key i (h.reach i hi hiN)
  | k + 1,hk=>by
    obtain⟨hp,hg⟩:=lap_stages h k (by omega)
    have hq:0<P N A (k+1):=by
      rw[P_succ];exact hg.pos (by omega)
    have hp':∀m,m≤k+1→0<P N A m:=fun m hm=>by
      by_cases e:m=k+1
      · rw[e]
        exact hq
      · exact hp m (by omega)
    exact⟨hp',hg.next (by omega) (hp k (Nat.le_refl k)) (fun i j hi hiN hj hjN=>R_step N A k j hj hjN (fun m hm=>Int.ne_of_gt (hp' m hm)) i)⟩
theorem lap_diag{N:Nat}{A:Nat→Nat→Int}(h:Good N 0 A):∀k,k≤N→∀i,k≤i→i<N→R N A k i i≤P N A k*A i i
  |0,_,i,_,hiN=>by rw[R_zero N A i i hiN,P_zero,Int.one_mul];exact Int.le_refl _
  | k +1,hk,i,hi,hiN=>by
    obtain⟨hp,hg⟩:=lap_stages h k (by omega);obtain⟨hp',_⟩:=lap_stages h (k+1) hk;have hs:=R_step N A k i (by omega) hiN (fun m hm=>Int.ne_of_gt (hp' m hm)) i;have ih:=lap_diag h k (by omega) i (by omega) hiN;have hq:0<R N A k k k:=hg.pos (by omega);rw[hg.sym k i (Nat.le_refl k) (by omega) (by omega) hiN]at hs
    have sq:0≤R N A k i k*R N A k i k:=by
      rcases Int.le_total 0 (R N A k i k)with c|c
      · exact Int.mul_nonneg c c
      · exact Int.mul_nonneg_of_nonpos_of_nonpos c c
    have m1:R N A k i i*R N A k k k≤P N A k*A i i*R N A k k k:=Int.mul_le_mul_of_nonneg_right ih (Int.le_of_lt hq);have hpk:=hp k (Nat.le_refl k);rw[P_succ];refine Int.le_of_mul_le_mul_left (a:=P N A k) ?_ hpk
    have e1:P N A k*(R N A k k k*A i i)=P N A k*A i i*R N A k k k:=by
      rw[Int.mul_assoc,Int.mul_comm (A i i)]
    omega
def diagProd(A:Nat→Nat→Int):Nat→Int
  |0=>1
  |k+1=>diagProd A k*A k k
theorem lap_det_le{N:Nat}{A:Nat→Nat→Int}(h:Good N 0 A):∀k,k≤N→P N A k≤diagProd A k
  |0,_=>by rw[P_zero];exact Int.le_refl _
  | k+1,hk=>by
    have h1:=lap_diag h k (by omega) k (Nat.le_refl k) (by omega);have h2:=lap_det_le h k (by omega);have h3:=(h.diag (Nat.zero_le k) (by omega)).1;rw[P_succ,diagProd];exact Int.le_trans h1 (Int.mul_le_mul_of_nonneg_right h2 h3)
end Det
namespace Net
open Det
theorem tot_nil(f:Int→Int):tot f []=0:=rfl
theorem tot_cons(f:Int→Int)(x:Int)(l:List Int):tot f (x::l)=f x+tot f l:=by unfold tot;simp
theorem tot_le{f g:Int→Int}{l:List Int}(h:∀k∈l,f k≤g k):tot f l≤tot g l:=by
  induction l with
  |nil=>exact Int.le_refl _
  | cons x l ih=>
    rw[tot_cons,tot_cons];have h1:=h x (List.mem_cons_self ..);have h2:=ih (fun k hk=>h k (List.mem_cons_of_mem _ hk));omega
theorem tot_congr{f g:Int→Int}{l:List Int}(h:∀k∈l,f k=g k):tot f l=tot g l:=by
  induction l with
  |nil=>rfl
  |cons x l ih=>rw[tot_cons,tot_cons,h x (List.mem_cons_self ..),ih (fun k hk=>h k (List.mem_cons_of_mem _ hk))]
theorem tot_add(f g:Int→Int)(l:List Int):tot (fun k=>f k+g k) l=tot f l+tot g l:=by
  induction l with
  |nil=>rfl
  |cons x l ih=>rw[tot_cons,tot_cons,tot_cons,ih];omega
theorem tot_mul(c:Int)(f:Int→Int)(l:List Int):tot (fun k=>c*f k) l=c*tot f l:=by
  induction l with
  |nil=>rw[tot_nil,tot_nil,Int.mul_zero]
  |cons x l ih=>rw[tot_cons,tot_cons,ih,Int.mul_add]
theorem tot_const(c:Int)(l:List Int):tot (fun _=>c) l=c*l.length:=by
  induction l with
  |nil=>rw[tot_nil];simp
  |cons x l ih=>rw[tot_cons,ih,List.length_cons,Int.natCast_add,Int.mul_add];omega
theorem tot_nonneg{f:Int→Int}{l:List Int}(h:∀k∈l,0≤f k):0≤tot f l:=by
  have:=tot_le (f:=fun _=>0) h;rw[tot_const]at this;omega
theorem ab_tot(f:Int→Int)(l:List Int):ab (tot f l)≤tot (fun k=>ab (f k)) l:=by
  induction l with
  |nil=>rw[tot_nil,tot_nil];unfold ab;omega
  |cons x l ih=>rw[tot_cons,tot_cons];unfold ab at *;omega
theorem tot_pos{f:Int→Int}{l:List Int}(h:∀k∈l,0≤f k){k:Int}(hk:k∈l)(hp:0<f k):0<tot f l:=by
  induction l with
  |nil=>cases hk
  | cons x l ih=>
    rw[tot_cons];have h1:=h x (List.mem_cons_self ..);have h2:=tot_nonneg (fun k hk=>h k (List.mem_cons_of_mem _ hk));rcases List.mem_cons.mp hk with rfl|hk
    · omega
    · have:=ih (fun k hk=>h k (List.mem_cons_of_mem _ hk)) hk
      omega
theorem sumTo_tot(n:Nat)(F:Int→Nat→Int)(l:List Int):sumTo n (fun j=>tot (fun k=>F k j) l)=tot (fun k=>sumTo n (F k)) l:=by
  induction l with
  |nil=>exact sumTo_zero (fun _ _=>rfl)
  | cons x l ih=>
    rw[tot_cons,←ih,←sumTo_add];exact sumTo_congr (fun j _=>tot_cons _ _ _)
theorem sumTo_ind(n:Nat)(c:Int)(hc:c<(n:Int))(p:Prop)[Decidable p](v:Int):sumTo n (fun j=>if p∧(j:Int)=c then v else 0)=if p∧0≤c then v else 0:=by
  by_cases hp:p∧0≤c
  · obtain⟨m,rfl⟩:=Int.eq_ofNat_of_zero_le hp.2
    rw[if_pos hp,sumTo_single (j:=m) (g:=fun _=>0) (by omega) (fun l _ hl=>if_neg (fun e=>hl (by omega))) rfl,if_pos ⟨hp.1,rfl⟩,sumTo_zero (fun _ _=>rfl),Int.add_zero]
  · rw[if_neg hp]
    exact sumTo_zero (fun j _=>if_neg (fun e=>hp ⟨e.1,by omega⟩))
def dg(a b:Int)(i:Nat):Int:=(if(i:Int)=a then 1 else 0)+(if(i:Int)=b then 1 else 0)
theorem dg_nonneg(a b:Int)(i:Nat):0≤dg a b i:=by unfold dg;split<;>split<;>omega
theorem lapD_eq(a b:Int)(i j:Nat):lapD a b i j=(if(i:Int)=a∧(j:Int)=a then 1 else 0)+(if(i:Int)=b∧(j:Int)=b then 1 else 0)-(if(i:Int)=a∧(j:Int)=b then 1 else 0)-(if(i:Int)=b∧(j:Int)=a then 1 else 0):=rfl
theorem lapD_sym(a b:Int)(i j:Nat):lapD a b i j=lapD a b j i:=by
  rw[lapD_eq,lapD_eq];by_cases c1:(i:Int)=a<;>by_cases c2:(i:Int)=b<;>by_cases c3:(j:Int)=a<;>by_cases c4:(j:Int)=b<;>simp only[c1,c2,c3,c4,and_self,and_true,true_and,and_false,false_and,if_true,if_false]<;>omega
theorem lapD_off(a b:Int){i j:Nat}(h:i≠j):lapD a b i j≤0:=by
  rw[lapD_eq,if_neg (fun e=>h (by omega)),if_neg (fun e=>h (by omega))];split<;>split<;>omega
theorem sum_add3(n:Nat)(f g h k:Nat→Int):sumTo n (fun j=>f j+g j-h j-k j)=sumTo n f+sumTo n g-sumTo n h-sumTo n k:=by
  have e:(fun j=>f j+g j-h j-k j)=fun j=>(f j+g j)+(-(h j)+ -(k j)):=by funext j;omega
  rw[e,sumTo_add,sumTo_add,sumTo_add,sumTo_neg,sumTo_neg];omega
theorem lapD_sum(n:Nat)(a b:Int)(ha:a<(n:Int))(hb:b<(n:Int))(i:Nat):sumTo n (fun j=>lapD a b i j)=(if(i:Int)=a∧b<0 then 1 else 0)+(if(i:Int)=b∧a<0 then 1 else 0):=by
  have e:sumTo n (fun j=>lapD a b i j)=_:=sum_add3 n (fun j=>if(i:Int)=a∧(j:Int)=a then 1 else 0) (fun j=>if(i:Int)=b∧(j:Int)=b then 1 else 0) (fun j=>if(i:Int)=a∧(j:Int)=b then 1 else 0) (fun j=>if(i:Int)=b∧(j:Int)=a then 1 else 0);rw[e,sumTo_ind n a ha,sumTo_ind n b hb,sumTo_ind n b hb,sumTo_ind n a ha];by_cases c1:(i:Int)=a<;>by_cases c2:(i:Int)=b<;>by_cases c3:0≤a<;>by_cases c4:0≤b<;>simp[c1,c2,c3,c4]<;>omega
theorem lapD_ab(n:Nat)(a b:Int)(ha:a<(n:Int))(hb:b<(n:Int))(i:Nat):sumTo n (fun j=>ab (lapD a b i j))≤2*dg a b i:=by
  have h:∀j,j<n→ab (lapD a b i j)≤((if(i:Int)=a∧(j:Int)=a then 1 else 0)+(if(i:Int)=b∧(j:Int)=b then 1 else 0))+((if(i:Int)=a∧(j:Int)=b then 1 else 0)+(if(i:Int)=b∧(j:Int)=a then 1 else 0)):=fun j _=>by
    rw[lapD_eq];unfold ab;split<;>split<;>split<;>split<;>omega
  refine Int.le_trans (Det.sumTo_le h) ?_;rw[sumTo_add,sumTo_add,sumTo_add,sumTo_ind n a ha,sumTo_ind n b hb,sumTo_ind n b hb,sumTo_ind n a ha];unfold dg;split<;>split<;>split<;>split<;>(try split)<;>(try split)<;>omega
theorem rgtD_ab(a b v:Int)(i:Nat):ab (rgtD a b v i)≤ab v*dg a b i:=by
  unfold rgtD dg;by_cases c1:(i:Int)=a<;>by_cases c2:(i:Int)=b
  · rw[if_pos c1,if_pos c2,if_pos c1,if_pos c2,Int.sub_self]
    have:=ab_nonneg v;unfold ab at *;omega
  · rw[if_pos c1,if_neg c2,if_pos c1,if_neg c2];unfold ab;omega
  · rw[if_neg c1,if_pos c2,if_neg c1,if_pos c2];unfold ab;omega
  · rw[if_neg c1,if_neg c2,if_neg c1,if_neg c2];unfold ab;omega
end Net
namespace Net
open Go.RowKit YtmgkbhhnchnkcaaGreatDoorW.PrintWords Plain Det
def prodN(d:Nat→Nat):Nat→Nat
  |0=>1
  |k+1=>prodN d k*max (d k) 1
def sumN(d:Nat→Nat):Nat→Nat
  |0=>0
  |k+1=>sumN d k+d k
theorem prodN_cube(d:Nat→Nat):∀n,prodN d n*prodN d n*prodN d n≤3 ^ sumN d n
  |0=>by simp[prodN,sumN]
  | n +1=>by
    have ih:=prodN_cube d n
    have h:max (d n) 1*max (d n) 1*max (d n) 1≤3 ^ d n:=by
      by_cases c:d n=0
      · rw[c];decide
      · rw[Nat.max_eq_left (by omega)];exact cube_le (d n)
    have e:prodN d (n+1)*prodN d (n+1)*prodN d (n+1)=(prodN d n*prodN d n*prodN d n)*(max (d n) 1*max (d n) 1*max (d n) 1):=by
      show prodN d n*max (d n) 1*(prodN d n*max (d n) 1)*(prodN d n*max (d n) 1)=_;generalize max (d n) 1=m;generalize prodN d n=p
      grind
    rw[e];show _≤3 ^ (sumN d n+d n);rw[Nat.pow_add];exact Nat.mul_le_mul ih h
theorem prodN_le(d:Nat→Nat)(n:Nat)(h:sumN d n≤24):prodN d n≤6561:=by
  have h1:=prodN_cube d n;have h2:3 ^ sumN d n≤3 ^ 24:=Nat.pow_le_pow_right (by decide) h;rcases Nat.lt_or_ge 6561 (prodN d n)with c|c
  · exfalso
    have h3:6562*6562*6562≤prodN d n*prodN d n*prodN d n:=Nat.mul_le_mul (Nat.mul_le_mul c c) c;have h4:3 ^ 24<6562*6562*6562:=by decide
    omega
  · exact c
theorem prodTo_two(d:Nat→Int):∀n,prodTo (fun r=>2*max (d r) 1) n=((2 ^ n*prodN (fun r=>(d r).toNat) n:Nat):Int)
  |0=>rfl
  | n+1=>by
    show prodTo (fun r=>2*max (d r) 1) n*(2*max (d n) 1)=_;rw[prodTo_two d n];have e:(2*max (d n) 1:Int)=((2*max (d n).toNat 1:Nat):Int):=by omega
    rw[e,←Int.natCast_mul]
    congr 1
    show 2 ^ n*prodN _ n*(2*max (d n).toNat 1)=2 ^ (n+1)*(prodN _ n*max (d n).toNat 1);rw[Nat.pow_succ];generalize max (d n).toNat 1=m;generalize prodN (fun r=>(d r).toNat) n=p
    grind
theorem sumN_int(d:Nat→Int):∀n,(∀r,r<n→0≤d r)→((sumN (fun r=>(d r).toNat) n:Nat):Int)=sumTo n d
  |0,_=>rfl
  | n+1,h=>by
    have ih:=sumN_int d n (fun r hr=>h r (by omega));have hn:=h n (by omega);show((sumN _ n+(d n).toNat:Nat):Int)=sumTo n d+d n;omega
theorem prodT_bound{d:Nat→Int}{n:Nat}(h0:∀r,r<n→0≤d r)(hs:sumTo n d≤24)(hn:n≤7):prodTo (fun r=>2*max (d r) 1) n≤839808:=by
  rw[prodTo_two];have h1:=sumN_int d n h0;have h2:=prodN_le (fun r=>(d r).toNat) n (by omega);have h3:2 ^ n≤2 ^ 7:=Nat.pow_le_pow_right (by decide) hn;have h4:=Nat.mul_le_mul h3 h2;have h5:2 ^ 7*6561=839808:=by decide
  omega
theorem prodN_int(d:Nat→Int):∀n,(∀r,r<n→0≤d r)→prodTo (fun r=>max (d r) 1) n=((prodN (fun r=>(d r).toNat) n:Nat):Int)
  |0,_=>rfl
  | n+1,h=>by
    have ih:=prodN_int d n (fun r hr=>h r (by omega));have hn:=h n (by omega);show prodTo (fun r=>max (d r) 1) n*max (d n) 1=_;rw[ih,show(max (d n) 1:Int)=((max (d n).toNat 1:Nat):Int) by omega,←Int.natCast_mul];rfl
section
variable {ls:L}
def LT(ls:L):Nat→Nat→Int:=lapT ls (unkL ls) (usedL ls)
def RT(ls:L)(ax:Int):Nat→Int:=rgtT ls (unkL ls) (usedL ls) ax
def fa(ls:L)(k:Int):Int:=fnd (unkL ls) (leg ls k).f0
def fb(ls:L)(k:Int):Int:=fnd (unkL ls) (leg ls k).f1
def dgT(ls:L)(r:Nat):Int:=tot (fun k=>dg (fa ls k) (fb ls k) r) (usedL ls)
theorem LT_eq(ls:L)(i j:Nat):LT ls i j=tot (fun k=>lapD (fa ls k) (fb ls k) i j) (usedL ls):=rfl
theorem RT_eq(ls:L)(ax:Int)(i:Nat):RT ls ax i=tot (fun k=>rgtD (fa ls k) (fb ls k) (meas ls ax k) i) (usedL ls):=rfl
theorem fa_lt(ls:L)(k:Int):fa ls k<((unkL ls).length:Int):=(fnd_range _ _).2
theorem fb_lt(ls:L)(k:Int):fb ls k<((unkL ls).length:Int):=(fnd_range _ _).2
theorem dgT_nonneg(ls:L)(r:Nat):0≤dgT ls r:=tot_nonneg (fun _ _=>dg_nonneg _ _ _)
theorem LT_ab(ls:L)(i:Nat):sumTo (unkL ls).length (fun j=>ab (LT ls i j))≤2*dgT ls i:=by
  refine Int.le_trans (Det.sumTo_le (g:=fun j=>tot (fun k=>ab (lapD (fa ls k) (fb ls k) i j)) (usedL ls)) (fun j _=>ab_tot _ _)) ?_;rw[sumTo_tot,dgT,←tot_mul];exact tot_le (fun k _=>lapD_ab _ _ _ (fa_lt ls k) (fb_lt ls k) i)
theorem lapD_ab1(a b:Int)(i j:Nat):ab (lapD a b i j)≤2*dg a b i:=by
  rw[lapD_eq];unfold dg ab;by_cases c1:(i:Int)=a<;>by_cases c2:(i:Int)=b<;>by_cases c3:(j:Int)=a<;>by_cases c4:(j:Int)=b<;>simp only[c1,c2,c3,c4,and_self,and_true,true_and,and_false,false_and,if_true,if_false]<;>omega
theorem LT_ab1(ls:L)(i j:Nat):ab (LT ls i j)≤2*dgT ls i:=by
  refine Int.le_trans (ab_tot _ _) ?_;rw[dgT,←tot_mul];exact tot_le (fun k _=>lapD_ab1 _ _ _ _)
theorem RT_ab{ax:Int}(hm:∀k∈usedL ls,ab (meas ls ax k)≤500)(i:Nat):ab (RT ls ax i)≤500*dgT ls i:=by
  refine Int.le_trans (ab_tot _ _) ?_;rw[dgT,←tot_mul];refine tot_le (fun k hk=>Int.le_trans (rgtD_ab _ _ _ _) ?_);exact Int.mul_le_mul_of_nonneg_right (hm k hk) (dg_nonneg _ _ _)
theorem dg_sum(n:Nat)(a b:Int)(ha:a<(n:Int))(hb:b<(n:Int)):sumTo n (fun r=>dg a b r)≤2:=by
  have e1:=sumTo_ind n a ha True 1;have e2:=sumTo_ind n b hb True 1;simp only[true_and]at e1 e2;unfold dg;rw[sumTo_add,e1,e2];split<;>split<;>omega
theorem dgT_sum(hn:ls.length≤12):sumTo (unkL ls).length (dgT ls)≤24:=by
  have e:sumTo (unkL ls).length (dgT ls)=tot (fun k=>sumTo (unkL ls).length (fun r=>dg (fa ls k) (fb ls k) r)) (usedL ls):=sumTo_tot _ (fun k r=>dg (fa ls k) (fb ls k) r) _;rw[e];refine Int.le_trans (tot_le (g:=fun _=>2) (fun k _=>dg_sum _ _ _ (fa_lt ls k) (fb_lt ls k))) ?_;rw[tot_const];have:=usedL_len ls;omega
theorem RT_meas{ax:Int}(hg:∀x∈ls,Good x){k:Int}(hk:k∈usedL ls):ab (meas ls ax k)≤500:=by
  have hr:=usedL_range ls k hk;obtain⟨m,rfl⟩:=Int.eq_ofNat_of_zero_le hr.1;have hx:=leg_good hg m (by omega);have h:=shift_bound _ hx;unfold meas onM;rw[ab_le];split
  · exact h.1
  · split
    · exact h.2.1
    · exact h.2.2
theorem LT_bnd(hn:ls.length≤12)(hg:∀x∈ls,Good x){A:Nat→Nat→Int}{s:Nat}(h1:∀r,r<(unkL ls).length→∀j,j<(unkL ls).length→j≠s→A r j=LT ls r j)(h2:∀r,r<(unkL ls).length→ab (A r s)≤500*dgT ls r):Bnd (unkL ls).length s 250 839808 A:=by
  refine⟨fun r=>2*max (dgT ls r) 1,fun r hr=>⟨(by show 1≤2*max (dgT ls r) 1;omega),?_,?_⟩,prodT_bound (fun r _=>dgT_nonneg ls r) (dgT_sum hn) (unkL_len hg)⟩
  · have e:sumTo (unkL ls).length (fun j=>if j=s then 0 else ab (A r j))≤sumTo (unkL ls).length (fun j=>ab (LT ls r j)):=Det.sumTo_le (fun j hj=>by
      by_cases c:j=s
      · rw[if_pos c];exact ab_nonneg _
      · rw[if_neg c,h1 r hr j hj c];exact Int.le_refl _)
    have:=LT_ab ls r;show _≤2*max (dgT ls r) 1;omega
  · have:=h2 r hr
    show _≤250*(2*max (dgT ls r) 1);omega
end
end Net
namespace Net
open Go.RowKit YtmgkbhhnchnkcaaGreatDoorW.PrintWords Plain Det
section
variable {ls:L}
theorem LT_rs(ls:L)(i:Nat):rs (unkL ls).length 0 (LT ls) i=tot (fun k=>(if(i:Int)=fa ls k∧fb ls k<0 then 1 else 0)+(if(i:Int)=fb ls k∧fa ls k<0 then 1 else 0)) (usedL ls):=by
  unfold rs;rw[sumTo_congr (g:=fun j=>tot (fun k=>lapD (fa ls k) (fb ls k) i j) (usedL ls)) (fun j _=>by rw[if_pos (Nat.zero_le j)];rfl),sumTo_tot];exact tot_congr (fun k _=>lapD_sum _ _ _ (fa_lt ls k) (fb_lt ls k) i)
theorem rs_term(a b:Int)(i:Nat):0≤(if(i:Int)=a∧b<0 then(1:Int) else 0)+(if(i:Int)=b∧a<0 then 1 else 0):=by split<;>split<;>omega
theorem plL_head (hg:∀x∈ls,Good x):plL (RR ls)=0::unkL ls:=by
  have hp:=plL_pos ls;have ha:=asc_plL (RR ls);have h0:(0:Int)∈plL (RR ls):=(mem_plL _ _).mpr (by unfold Tree.verts;simp);unfold unkL
  cases hq:plL (RR ls)with
  |nil=>rw[hq]at hp;simp at hp
  | cons h t=>
    rw[hq]at ha h0
    have hh:h=0:=by
      have hr:=Grow.in_range (ends ls) (RR_ok hg).1 (Good.range hg) h ((mem_plL _ _).mp (by rw[hq];exact List.mem_cons_self ..));rcases List.mem_cons.mp h0 with e|e
      · exact e.symm
      · have:=(List.pairwise_cons.mp ha).1 0 e
        omega
    rw[hh];rfl
theorem unk_iff(hg:∀x∈ls,Good x)(s:Int):s∈unkL ls↔s∈Tree.verts 0 (RR ls)∧s≠0:=by
  have ha:=asc_plL (RR ls);have hm:=mem_plL (RR ls) s;rw[plL_head hg]at ha hm;have h0:∀x∈unkL ls,0<x:=fun x hx=>(List.pairwise_cons.mp ha).1 x hx
  rw[←hm,List.mem_cons]
  constructor
  · intro h
    exact⟨Or.inr h,(by have:=h0 s h;omega)⟩
  · rintro⟨h|h,hn⟩
    · exact absurd h hn
    · exact h
theorem fnd_pos{un:List Int}{s:Int}(h:s∈un):fnd un s=(un.idxOf s:Int)∧un.idxOf s<un.length:=⟨(by unfold fnd;rw[if_pos h]),List.idxOf_lt_length_iff.mpr h⟩
theorem fnd_neg{un:List Int}{s:Int}(h:s∉un):fnd un s= -1:=by unfold fnd;rw[if_neg h]
theorem idx_inj{un:List Int}{s t:Int}(hs:s∈un)(ht:t∈un)(e:un.idxOf s=un.idxOf t):s=t:=by
  have h1:un[un.idxOf s]'(List.idxOf_lt_length_iff.mpr hs)=s:=List.getElem_idxOf _;have h2:un[un.idxOf t]'(List.idxOf_lt_length_iff.mpr ht)=t:=List.getElem_idxOf _;rw[←h1,←h2]
  congr 1
theorem used_of(hg:∀x∈ls,Good x){x:Int×Int×Int}(hx:x∈RR ls):x.1∈usedL ls∧((ends ls x.1=(x.2.1,x.2.2))∨ends ls x.1=(x.2.2,x.2.1)):=by
  have ho:=(RR_ok hg).1;obtain⟨he,h0,hn⟩:=ho.ends x hx;obtain⟨k,hk⟩:=Int.eq_ofNat_of_zero_le h0;refine⟨?_,he⟩;have hl:=ho.legs_ends (ends ls) (i:=x.1) (List.mem_map.mpr ⟨x,hx,rfl⟩);refine(mem_selTo _ _ _).mpr ⟨k,hk,by omega,?_⟩;have hf:(leg ls (k:Int)).f0∈Tree.verts 0 (RR ls):=by have:=hl.1;rw[hk]at this;exact this
  have hgood:=leg_good hg k (by omega);rw[Pq_eq,Int.toNat_of_nonneg hgood.1.1];exact decide_eq_true ((mem_plL _ _).mpr hf)
theorem LT_neg(hg:∀x∈ls,Good x){k:Int}(hk:k∈usedL ls){i j:Nat}(hij:i≠j)(h:(fa ls k=(i:Int)∧fb ls k=(j:Int))∨(fa ls k=(j:Int)∧fb ls k=(i:Int))):LT ls i j<0:=by
  have hp:=tot_pos (f:=fun k=> -(lapD (fa ls k) (fb ls k) i j)) (l:=usedL ls) (fun k _=>by have:=lapD_off (fa ls k) (fb ls k) hij;omega) hk (by
    show 0< -(lapD (fa ls k) (fb ls k) i j);rw[lapD_eq];rcases h with⟨h1,h2⟩|⟨h1,h2⟩<;>rw[h1,h2]
    · rw[if_neg (by omega),if_neg (by omega),if_pos ⟨rfl,rfl⟩,if_neg (by omega)];omega
    · rw[if_neg (by omega),if_neg (by omega),if_neg (by omega),if_pos ⟨rfl,rfl⟩];omega)
  have e:tot (fun k=> -(lapD (fa ls k) (fb ls k) i j)) (usedL ls)= - LT ls i j:=by
    rw[LT_eq];have:=tot_mul (-1) (fun k=>lapD (fa ls k) (fb ls k) i j) (usedL ls);rw[show(fun k=> -(lapD (fa ls k) (fb ls k) i j))=fun k=> -1*lapD (fa ls k) (fb ls k) i j from by funext k;omega,this];omega
  omega
theorem LT_reach (hg:∀x∈ls,Good x):∀(q:Grow.Q),(∀x∈q,x∈RR ls)→Tree.Tr (0:Int) q→∀s,s∈Tree.verts 0 q→s≠0→s∈Tree.verts 0 (RR ls)→Det.Reach (unkL ls).length 0 (LT ls) ((unkL ls).idxOf s)
  |[],_,_,s,hs,hn,_=>by simp[Tree.verts]at hs;exact absurd hs hn
  | (k, u,t)::q,hsub,htr,s,hs,hn,hR=>by
    have hq:∀x∈q,x∈RR ls:=fun x hx=>hsub x (List.mem_cons_of_mem _ hx)
    cases htr with
    | cons h1 h2 h3 h4=>
      by_cases c:s=t
      · subst c
        obtain⟨hk,he⟩:=used_of hg (hsub _ (List.mem_cons_self ..));simp only at hk he;have hsu:s∈unkL ls:=(unk_iff hg s).mpr ⟨hR,hn⟩;obtain⟨f1,f2⟩:=fnd_pos hsu;by_cases hu:u=0
        · subst hu
          have h0:fnd (unkL ls) 0= -1:=fnd_neg (fun e=>((unk_iff hg 0).mp e).2 rfl);refine .ground _ ?_;rw[LT_rs];refine tot_pos (fun k _=>rs_term _ _ _) hk ?_;unfold fa fb;rcases he with he|he
          · have e1:(leg ls k).f0=0:=congrArg Prod.fst he
            have e2:(leg ls k).f1=s:=congrArg Prod.snd he;rw[e1,e2,h0,f1];rw[if_neg (by omega),if_pos (by omega)];omega
          · have e1:(leg ls k).f0=s:=congrArg Prod.fst he
            have e2:(leg ls k).f1=0:=congrArg Prod.snd he;rw[e1,e2,h0,f1];rw[if_pos (by omega),if_neg (by omega)];omega
        · have huR:u∈Tree.verts 0 (RR ls):=by
            have hl:=(RR_ok hg).1.legs_ends (ends ls) (i:=k) (List.mem_map.mpr ⟨_,hsub _ (List.mem_cons_self ..),rfl⟩);rcases he with he|he
            · have:=hl.1;rw[he]at this;exact this
            · have:=hl.2.1;rw[he]at this;exact this
          have ih:=LT_reach hg q hq h1 u h2 hu huR;have huu:u∈unkL ls:=(unk_iff hg u).mpr ⟨huR,hu⟩;obtain⟨g1,g2⟩:=fnd_pos huu;have hne:(unkL ls).idxOf u≠(unkL ls).idxOf s:=fun e=>h3 (by rw[←idx_inj huu hsu e];exact h2)
          refine .step _ _ (Nat.zero_le _) g2 hne (LT_neg hg hk (fun e=>hne e.symm) ?_) ih;unfold fa fb;rcases he with he|he
          · have e1:(leg ls k).f0=u:=congrArg Prod.fst he
            have e2:(leg ls k).f1=s:=congrArg Prod.snd he;rw[e1,e2];exact Or.inr ⟨g1,f1⟩
          · have e1:(leg ls k).f0=s:=congrArg Prod.fst he
            have e2:(leg ls k).f1=u:=congrArg Prod.snd he;rw[e1,e2];exact Or.inl ⟨f1,g1⟩
      · have hs':s∈Tree.verts 0 q:=by
          simp only[Tree.verts,List.map_cons,List.mem_cons]at hs ⊢;rcases hs with h|h|h
          · exact Or.inl h
          · exact absurd h c
          · exact Or.inr h
        exact LT_reach hg q hq h1 s hs' hn hR
theorem LT_good(hg:∀x∈ls,Good x):Det.Good (unkL ls).length 0 (LT ls):=by
  refine⟨fun i j _ _ _ _=>tot_congr (fun k _=>lapD_sym _ _ _ _),fun i j _ _ _ _ hij=>?_,fun i _ _=>?_,fun i _ hi=>?_⟩
  · have:=tot_le (f:=fun k=>lapD (fa ls k) (fb ls k) i j) (g:=fun _=>0) (l:=usedL ls) (fun k _=>lapD_off _ _ hij)
    rw[tot_const]at this;rw[LT_eq];omega
  · rw[LT_rs]
    exact tot_nonneg (fun k _=>rs_term _ _ _)
  · have hm:(unkL ls)[i]∈unkL ls:=List.getElem_mem hi
    have hu:=(unk_iff hg _).mp hm;have h:=LT_reach hg (RR ls) (fun _ h=>h) (RR_ok hg).1.tr _ hu.1 hu.2 hu.1
    have hx:(unkL ls).idxOf (unkL ls)[i]=i:=by
      have ha:=asc_plL (RR ls);rw[plL_head hg]at ha;have hnd:(unkL ls).Nodup:=(List.pairwise_cons.mp ha).2.imp (fun h=>by omega);exact hnd.idxOf_getElem i hi
    rw[hx]at h;exact h
def TB:Int:=1470503808
theorem tb_ok:2*(TB*TB)≤9223372036854775807:=by unfold TB;decide
theorem bnd_le{n:Nat}(hn:n≤7):((n:Int)*250+1)*839808≤TB:=by unfold TB;omega
theorem dgT_small(hn:ls.length≤12)(r:Nat):dgT ls r≤24:=by
  refine Int.le_trans (tot_le (g:=fun _=>2) (fun k _=>by unfold dg;split<;>split<;>omega)) ?_;rw[tot_const];have:=usedL_len ls;omega
theorem LT_wrap(hn:ls.length≤12)(i j:Nat):wrap64 (LT ls i j)=LT ls i j:=by
  refine Elim.w_id ?_;have h1:=LT_ab1 ls i j;have h2:=dgT_small hn i;omega
theorem RT_wrap(hn:ls.length≤12)(hg:∀x∈ls,Good x)(ax:Int)(i:Nat):wrap64 (RT ls ax i)=RT ls ax i:=by
  refine Elim.w_id ?_;have h1:=RT_ab (ax:=ax) (fun k hk=>RT_meas (ax:=ax) hg hk) i;have h2:=dgT_small hn i;omega
theorem trees_F(hn:ls.length≤12)(hg:∀x∈ls,Good x):treesM ls=P (unkL ls).length (LT ls) (unkL ls).length:=by
  have hb:Bnd (unkL ls).length (unkL ls).length 250 839808 (LT ls):=LT_bnd hn hg (fun _ _ _ _ _=>rfl) (fun r hr=>by have:=LT_ab1 ls r (unkL ls).length;have:=dgT_nonneg ls r;omega);have h:=Elim.det_F (by decide) (bnd_le (unkL_len hg)) tb_ok (by unfold TB;decide) (LT ls) hb;rw[←show F (unkL ls).length (LT ls) (unkL ls).length (low (unkL ls).length)=P (unkL ls).length (LT ls) (unkL ls).length from rfl,←h]
  exact Elim.det_same (n:=(unkL ls).length) _ 0 1 1 _ _ (by omega) (fun p q _ hp _ hq=>by
    unfold matM;rw[if_neg (by omega)]
    exact LT_wrap hn p q)
theorem trees_pos(hn:ls.length≤12)(hg:∀x∈ls,Good x):1≤treesM ls:=by
  rw[trees_F hn hg];exact(lap_stages (LT_good hg) _ (Nat.le_refl _)).1 _ (Nat.le_refl _)
theorem diag_prod(ls:L):∀n,diagProd (LT ls) n≤prodTo (fun r=>max (dgT ls r) 1) n∧0≤diagProd (LT ls) n
  |0=>⟨Int.le_refl _,(by unfold diagProd;decide)⟩
  | n +1=>by
    obtain⟨h1,h2⟩:=diag_prod ls n
    have h3:LT ls n n≤dgT ls n:=by
      rw[LT_eq];refine tot_le (fun k _=>?_);rw[lapD_eq];unfold dg;by_cases c1:(n:Int)=fa ls k<;>by_cases c2:(n:Int)=fb ls k<;>simp only[c1,c2,and_self,and_true,true_and,and_false,false_and,if_true,if_false]<;>omega
    have h4:0≤LT ls n n:=by
      rw[LT_eq];refine tot_nonneg (fun k _=>?_);rw[lapD_eq];by_cases c1:(n:Int)=fa ls k<;>by_cases c2:(n:Int)=fb ls k<;>simp only[c1,c2,and_self,and_true,true_and,and_false,false_and,if_true,if_false]<;>omega
    have h0:=dgT_nonneg ls n;refine⟨?_,Int.mul_nonneg h2 h4⟩;exact Int.mul_le_mul h1 (by show LT ls n n≤max (dgT ls n) 1;omega) h4 (Int.le_trans h2 h1)
theorem trees_le(hn:ls.length≤12)(hg:∀x∈ls,Good x):treesM ls≤6561:=by
  rw[trees_F hn hg];refine Int.le_trans (lap_det_le (LT_good hg) _ (Nat.le_refl _)) (Int.le_trans (diag_prod ls _).1 ?_);rw[prodN_int _ _ (fun r _=>dgT_nonneg ls r)];have h1:=sumN_int (dgT ls) (unkL ls).length (fun r _=>dgT_nonneg ls r);have h2:=dgT_sum hn;have h3:=prodN_le (fun r=>(dgT ls r).toNat) (unkL ls).length (by omega);omega
theorem co_F(hn:ls.length≤12)(hg:∀x∈ls,Good x)(ax:Int)(i:Nat)(hi:i<(unkL ls).length):coM ls ax i=F (unkL ls).length (setc (LT ls) i (RT ls ax)) (unkL ls).length (low (unkL ls).length):=by
  have hb:Bnd (unkL ls).length i 250 839808 (setc (LT ls) i (RT ls ax)):=LT_bnd hn hg (fun r _ j _ hj=>setc_ne _ _ _ _ _ hj) (fun r hr=>by rw[setc_at];exact RT_ab (fun k hk=>RT_meas hg hk) r);have h:=Elim.det_F (by decide) (bnd_le (unkL_len hg)) tb_ok (by unfold TB;decide) _ hb;rw[←h]
  exact Elim.det_same (n:=(unkL ls).length) _ 0 1 1 _ _ (by omega) (fun p q _ hp _ hq=>by
    unfold matM setc;by_cases c:q=i
    · rw[if_pos c,if_pos (by omega)];exact RT_wrap hn hg ax p
    · rw[if_neg c,if_neg (by omega)];exact LT_wrap hn p q)
theorem co_bound(hn:ls.length≤12)(hg:∀x∈ls,Good x)(ax:Int)(i:Nat)(hi:i<(unkL ls).length):ab (coM ls ax i)≤TB:=by
  have hb:Bnd (unkL ls).length i 250 839808 (setc (LT ls) i (RT ls ax)):=LT_bnd hn hg (fun r _ j _ hj=>setc_ne _ _ _ _ _ hj) (fun r hr=>by rw[setc_at];exact RT_ab (fun k hk=>RT_meas hg hk) r);rw[co_F hn hg ax i hi];obtain⟨m,hm⟩:∃m,(unkL ls).length=m+1:=⟨(unkL ls).length-1,by omega⟩
  have e:F (unkL ls).length (setc (LT ls) i (RT ls ax)) (unkL ls).length (low (unkL ls).length)=R (unkL ls).length (setc (LT ls) i (RT ls ax)) m m m:=by
    rw[←P_succ,←hm];rfl
  rw[e];exact Int.le_trans (R_bound (by decide) hb (Nat.le_refl m) (by omega)) (bnd_le (unkL_len hg))
theorem co_solve(hn:ls.length≤12)(hg:∀x∈ls,Good x)(ax:Int)(r:Nat)(hr:r<(unkL ls).length):sumTo (unkL ls).length (fun j=>LT ls r j*coM ls ax j)=treesM ls*RT ls ax r:=by
  rw[trees_F hn hg];rw[sumTo_congr (fun j hj=>by rw[co_F hn hg ax j hj])];exact cramer (unkL ls).length (LT ls) (RT ls ax) r hr
end
end Net
namespace Net
open Go.RowKit YtmgkbhhnchnkcaaGreatDoorW.PrintWords Plain Det
section
variable {ls:L}
def vAt(x:Nat→Int)(a:Int):Int:=if 0≤a then x a.toNat else 0
theorem sumTo_indv(n:Nat)(x:Nat→Int)(c:Int)(hc:c<(n:Int))(p:Prop)[Decidable p]:sumTo n (fun j=>(if p∧(j:Int)=c then 1 else 0)*x j)=if p then vAt x c else 0:=by
  unfold vAt;by_cases hp:p∧0≤c
  · obtain⟨m,rfl⟩:=Int.eq_ofNat_of_zero_le hp.2
    rw[if_pos hp.1,if_pos hp.2,sumTo_single (j:=m) (g:=fun _=>0) (by omega) (fun l _ hl=>by rw[if_neg (fun e=>hl (by omega)),Int.zero_mul]) rfl,if_pos ⟨hp.1,rfl⟩,sumTo_zero (fun _ _=>rfl),Int.add_zero,Int.one_mul,Int.toNat_natCast]
  · rw[sumTo_zero (fun j _=>by rw[if_neg (fun e=>hp ⟨e.1,by omega⟩),Int.zero_mul])]
    by_cases c1:p
    · rw[if_pos c1,if_neg (fun e=>hp ⟨c1,e⟩)]
    · rw[if_neg c1]
theorem lapD_mul(n:Nat)(x:Nat→Int)(a b:Int)(ha:a<(n:Int))(hb:b<(n:Int))(i:Nat):sumTo n (fun j=>lapD a b i j*x j)=rgtD a b (vAt x b-vAt x a) i:=by
  have e:(fun j:Nat=>lapD a b i j*x j)=fun j:Nat=>(if(i:Int)=a∧(j:Int)=a then 1 else 0)*x j+(if(i:Int)=b∧(j:Int)=b then 1 else 0)*x j-(if(i:Int)=a∧(j:Int)=b then 1 else 0)*x j-(if(i:Int)=b∧(j:Int)=a then 1 else 0)*x j:=by
    funext j
    rw[lapD_eq,Int.sub_mul,Int.sub_mul,Int.add_mul]
  rw[e,sum_add3,sumTo_indv n x a ha,sumTo_indv n x b hb,sumTo_indv n x b hb,sumTo_indv n x a ha];unfold rgtD;split<;>split<;>omega
theorem rgtD_mul(n:Nat)(x:Nat→Int)(a b v:Int)(ha:a<(n:Int))(hb:b<(n:Int)):sumTo n (fun r=>x r*rgtD a b v r)=v*(vAt x b-vAt x a):=by
  have e1:=sumTo_indv n x a ha True;have e2:=sumTo_indv n x b hb True;simp only[true_and,if_true]at e1 e2
  have e:(fun r:Nat=>x r*rgtD a b v r)=fun r:Nat=>v*((if(r:Int)=b then 1 else 0)*x r)+(-v)*((if(r:Int)=a then 1 else 0)*x r):=by
    funext r
    unfold rgtD;by_cases c1:(r:Int)=b<;>by_cases c2:(r:Int)=a<;>simp only[c1,c2,if_true,if_false]<;>grind
  rw[e,sumTo_add,sumTo_mul,sumTo_mul,e1,e2]
  grind
theorem rgtD_lin(a b u v:Int)(r:Nat):rgtD a b (u-v) r=rgtD a b u r-rgtD a b v r:=by unfold rgtD;split<;>split<;>omega
theorem rgtD_scale(a b c v:Int)(r:Nat):rgtD a b (c*v) r=c*rgtD a b v r:=by
  unfold rgtD;by_cases c1:(r:Int)=b<;>by_cases c2:(r:Int)=a<;>simp only[c1,c2,if_true,if_false]<;>grind
def dT(ls:L)(ax k:Int):Int:=vAt (coM ls ax) (fb ls k)-vAt (coM ls ax) (fa ls k)
def nT(ls:L)(ax k:Int):Int:=treesM ls*meas ls ax k-dT ls ax k
theorem balance(hn:ls.length≤12)(hg:∀x∈ls,Good x)(ax:Int)(r:Nat)(hr:r<(unkL ls).length):tot (fun k=>rgtD (fa ls k) (fb ls k) (nT ls ax k) r) (usedL ls)=0:=by
  have h:=co_solve hn hg ax r hr
  have e1:sumTo (unkL ls).length (fun j=>LT ls r j*coM ls ax j)=tot (fun k=>rgtD (fa ls k) (fb ls k) (dT ls ax k) r) (usedL ls):=by
    have e2:∀j,LT ls r j*coM ls ax j=tot (fun k=>lapD (fa ls k) (fb ls k) r j*coM ls ax j) (usedL ls):=fun j=>by
      rw[Int.mul_comm,LT_eq,←tot_mul];exact tot_congr (fun k _=>Int.mul_comm _ _)
    rw[sumTo_congr (fun j _=>e2 j),sumTo_tot];exact tot_congr (fun k _=>lapD_mul _ _ _ _ (fa_lt ls k) (fb_lt ls k) r)
  have e3:treesM ls*RT ls ax r=tot (fun k=>rgtD (fa ls k) (fb ls k) (treesM ls*meas ls ax k) r) (usedL ls):=by
    rw[RT_eq,←tot_mul];exact tot_congr (fun k _=>(rgtD_scale _ _ _ _ _).symm)
  have e4:tot (fun k=>rgtD (fa ls k) (fb ls k) (nT ls ax k) r) (usedL ls)=tot (fun k=>rgtD (fa ls k) (fb ls k) (treesM ls*meas ls ax k) r) (usedL ls)+(-1)*tot (fun k=>rgtD (fa ls k) (fb ls k) (dT ls ax k) r) (usedL ls):=by
    rw[←tot_mul,←tot_add];exact tot_congr (fun k _=>by unfold nT;rw[rgtD_lin];omega)
  rw[e4,←e3,←e1,h];omega
theorem orth(hn:ls.length≤12)(hg:∀x∈ls,Good x)(ax:Int):tot (fun k=>nT ls ax k*dT ls ax k) (usedL ls)=0:=by
  have e:tot (fun k=>nT ls ax k*dT ls ax k) (usedL ls)=sumTo (unkL ls).length (fun r=>tot (fun k=>coM ls ax r*rgtD (fa ls k) (fb ls k) (nT ls ax k) r) (usedL ls)):=by
    rw[sumTo_tot];exact tot_congr (fun k _=>(rgtD_mul _ _ _ _ _ (fa_lt ls k) (fb_lt ls k)).symm)
  rw[e];refine sumTo_zero (fun r hr=>?_);rw[tot_mul,balance hn hg ax r hr,Int.mul_zero]
theorem sq_sum(hn:ls.length≤12)(hg:∀x∈ls,Good x)(ax:Int):tot (fun k=>nT ls ax k*nT ls ax k) (usedL ls)=treesM ls*tot (fun k=>nT ls ax k*meas ls ax k) (usedL ls):=by
  have h:=orth hn hg ax
  have e:tot (fun k=>nT ls ax k*nT ls ax k) (usedL ls)=tot (fun k=>treesM ls*(nT ls ax k*meas ls ax k)) (usedL ls)+(-1)*tot (fun k=>nT ls ax k*dT ls ax k) (usedL ls):=by
    rw[←tot_mul,←tot_add]
    exact tot_congr (fun k _=>by
      have e2:nT ls ax k=treesM ls*meas ls ax k-dT ls ax k:=rfl;generalize nT ls ax k=n at *
      grind)
  rw[e,tot_mul,h];omega
theorem sq_nonneg(x:Int):0≤x*x:=by
  rcases Int.le_total 0 x with h|h
  · exact Int.mul_nonneg h h
  · exact Int.mul_nonneg_of_nonpos_of_nonpos h h
theorem sq_le(hn:ls.length≤12)(hg:∀x∈ls,Good x)(ax:Int):tot (fun k=>nT ls ax k*nT ls ax k) (usedL ls)≤treesM ls*treesM ls*tot (fun k=>meas ls ax k*meas ls ax k) (usedL ls):=by
  have h:=sq_sum hn hg ax;have hp:=tot_nonneg (f:=fun k=>(treesM ls*meas ls ax k-nT ls ax k)*(treesM ls*meas ls ax k-nT ls ax k)) (l:=usedL ls) (fun k _=>sq_nonneg _)
  have e:tot (fun k=>(treesM ls*meas ls ax k-nT ls ax k)*(treesM ls*meas ls ax k-nT ls ax k)) (usedL ls)=treesM ls*treesM ls*tot (fun k=>meas ls ax k*meas ls ax k) (usedL ls)+((-2*treesM ls)*tot (fun k=>nT ls ax k*meas ls ax k) (usedL ls)+tot (fun k=>nT ls ax k*nT ls ax k) (usedL ls)):=by
    rw[←tot_mul,←tot_mul,←tot_add,←tot_add];exact tot_congr (fun k _=>by grind)
  rw[e]at hp;have e2:(-2*treesM ls)*tot (fun k=>nT ls ax k*meas ls ax k) (usedL ls)= -2*tot (fun k=>nT ls ax k*nT ls ax k) (usedL ls):=by rw[h,Int.mul_assoc]
  omega
theorem tot_one{f:Int→Int}{l:List Int}(h:∀k∈l,0≤f k){k:Int}(hk:k∈l):f k≤tot f l:=by
  induction l with
  |nil=>cases hk
  | cons x l ih=>
    rw[tot_cons];have h1:=h x (List.mem_cons_self ..);have h2:=tot_nonneg (fun k hk=>h k (List.mem_cons_of_mem _ hk));rcases List.mem_cons.mp hk with rfl|hk
    · omega
    · have:=ih (fun k hk=>h k (List.mem_cons_of_mem _ hk)) hk
      omega
theorem meas_sq(hn:ls.length≤12)(hg:∀x∈ls,Good x)(ax:Int):tot (fun k=>meas ls ax k*meas ls ax k) (usedL ls)≤3000000:=by
  refine Int.le_trans (tot_le (g:=fun _=>250000) (fun k hk=>?_)) ?_
  · have h:=RT_meas (ax:=ax) hg hk
    have h2:=Elim.mul_le_sq (B:=500) (by decide) h h;have h3:meas ls ax k*meas ls ax k≤ab (meas ls ax k*meas ls ax k):=by unfold ab;omega
    omega
  · rw[tot_const]
    have:=usedL_len ls;omega
theorem sq_bound(hn:ls.length≤12)(hg:∀x∈ls,Good x)(ax:Int):tot (fun k=>nT ls ax k*nT ls ax k) (usedL ls)≤129140163000000:=by
  have h1:=sq_le hn hg ax;have h2:=meas_sq hn hg ax;have h3:=trees_pos hn hg;have h4:=trees_le hn hg;have h5:treesM ls*treesM ls≤6561*6561:=Int.mul_le_mul h4 h4 (by omega) (by decide);have h6:=tot_nonneg (f:=fun k=>meas ls ax k*meas ls ax k) (l:=usedL ls) (fun k _=>sq_nonneg _);have h7:treesM ls*treesM ls*tot (fun k=>meas ls ax k*meas ls ax k) (usedL ls)≤6561*6561*3000000:=Int.mul_le_mul h5 h2 h6 (by decide);have h8:(6561*6561*3000000:Int)=129140163000000:=by decide
  omega
theorem nT_bound(hn:ls.length≤12)(hg:∀x∈ls,Good x)(ax:Int){k:Int}(hk:k∈usedL ls):ab (nT ls ax k)≤11400000:=by
  have h1:=sq_bound hn hg ax;have h2:=tot_one (f:=fun k=>nT ls ax k*nT ls ax k) (l:=usedL ls) (fun k _=>sq_nonneg _) hk
  have e:nT ls ax k*nT ls ax k=ab (nT ls ax k)*ab (nT ls ax k):=by
    unfold ab;rcases Int.le_total 0 (nT ls ax k)with h|h
    · rw[Int.natAbs_of_nonneg h]
    · rw[show((nT ls ax k).natAbs:Int)= -(nT ls ax k) by omega,Int.neg_mul_neg]
  rcases Int.lt_or_le 11400000 (ab (nT ls ax k))with c|c
  · exfalso
    have h3:(11400000:Int)*11400000≤ab (nT ls ax k)*ab (nT ls ax k):=Int.mul_le_mul (Int.le_of_lt c) (Int.le_of_lt c) (by decide) (ab_nonneg _);have h4:(11400000:Int)*11400000=129960000000000:=by decide
    omega
  · exact c
end
end Net
namespace Frac
def Red(n d N T:Int):Prop:=0<d∧Int.gcd n d=1∧n*T=N*d
theorem Red.dvd{n d n' d':Int}(h1:Int.gcd n d=1)(e:n*d'=n'*d):d∣d':=by
  have hd:d∣n*d':=⟨n',(by rw[e,Int.mul_comm])⟩;have h2:d.natAbs∣n.natAbs*d'.natAbs:=by rw[←Int.natAbs_mul];exact Int.natAbs_dvd_natAbs.mpr hd
  exact Int.natAbs_dvd_natAbs.mp (Nat.Coprime.dvd_of_dvd_mul_left (show Nat.gcd d.natAbs n.natAbs=1 by rw[Nat.gcd_comm];exact h1) h2)
theorem tdiv_exact{a g:Int}(hg:g≠0)(h:g∣a):a.tdiv g*g=a:=Int.tdiv_mul_cancel h
theorem Red.of_div{N D:Int}(hD:0<D):Red (N.tdiv (Int.gcd N D)) (D.tdiv (Int.gcd N D)) N D:=by
  have hg:0<(Int.gcd N D:Int):=by
    have:=Int.gcd_pos_of_ne_zero_right N (show D≠0 by omega);omega
  have h1:=tdiv_exact (a:=N) (g:=Int.gcd N D) (by omega) (Int.gcd_dvd_left ..);have h2:=tdiv_exact (a:=D) (g:=Int.gcd N D) (by omega) (Int.gcd_dvd_right ..);generalize hn:N.tdiv (Int.gcd N D)=n at *;generalize hd:D.tdiv (Int.gcd N D)=d at *;generalize hgg:Int.gcd N D=g at *
  have hdp:0<d:=by
    rcases Int.lt_or_le 0 d with c|c
    · exact c
    · exfalso
      have:=Int.mul_le_mul_of_nonneg_right c (Int.le_of_lt hg);omega
  refine⟨hdp,?_,?_⟩
  · have e:Int.gcd (n*g) (d*g)=g:=by rw[h1,h2,hgg]
    rw[Int.gcd_mul_right]at e;simp only[Int.natAbs_natCast]at e;have hgn:0<g:=by omega
    exact Nat.eq_of_mul_eq_mul_right hgn (by rw[e,Nat.one_mul])
  · rw[←h1,←h2]
    generalize (g:Int)=z
    grind
theorem Red.change{n d x y N T:Int}(hy:0<y)(h:Red n d x y)(e:x*T=N*y):Red n d N T:=by
  obtain⟨p1,p2,p3⟩:=h;refine⟨p1,p2,?_⟩
  have e1:y*(n*T)=y*(N*d):=by
    have a:n*y*T=x*d*T:=by rw[p3]
    have b:x*T*d=N*y*d:=by rw[e]
    grind
  exact Int.eq_of_mul_eq_mul_left (by omega) e1
theorem Red.sum{n d a b N A T g:Int}(hd:0<d)(hb:0<b)(hg:0<g)(h1:n*T=N*d)(h2:a*T=A*b){d' b':Int}(e1:d'*g=d)(e2:b'*g=b):(n*b'+a*d')*T=(N+A)*(d'*b):=by
  have a1:n*T*b'=N*d*b':=by rw[h1]
  have a2:a*T*d'=A*b*d':=by rw[h2]
  subst e1;subst e2
  grind
theorem gcd_step(a b:Int)(hb:b≠0):Int.gcd b (a.tmod b)=Int.gcd a b:=by
  unfold Int.gcd;rw[Int.natAbs_tmod,Nat.gcd_comm a.natAbs,Nat.gcd_rec b.natAbs a.natAbs,Nat.gcd_comm]
theorem tmod_lt(a b:Int)(hb:b≠0):(a.tmod b).natAbs<b.natAbs:=by
  rw[Int.natAbs_tmod];exact Nat.mod_lt _ (by omega)
end Frac
namespace Frac
open Go.RowKit YtmgkbhhnchnkcaaGreatDoorW.PrintWords Plain
theorem gcd_loop{β:Type}{g:Nat→Int→Int→Option β}{fin:Int→β}(h0:∀k a,g (k+1) a 0=some (fin a))(h1:∀k a b,b≠0→g (k+1) a b=g k b (Int.tmod a b)):
    ∀(n:Nat) (a b:Int),b.natAbs<n→∃z:Int,z.natAbs=Int.gcd a b∧(0≤a→0≤b→0≤z)∧Ev (fun k=>g k a b) (fin z):=by
  intro n
  induction n with
  |zero=>intro a b h;omega
  | succ n ih=>
    intro a b h;by_cases hb:b=0
    · subst hb
      refine⟨a,(by rw[Int.gcd_zero_right]),fun h _=>h,⟨1,fun k hk=>?_⟩⟩;obtain⟨k,rfl⟩:∃m,k=m+1:=⟨k-1,by omega⟩
      exact h0 k a
    · obtain⟨z,hz,hs,K,hK⟩:=ih b (Int.tmod a b) (by have:=tmod_lt a b hb;omega)
      refine⟨z,(by rw[hz,gcd_step a b hb]),fun ha hb'=>hs hb' (Int.tmod_nonneg b ha),⟨K+1,fun k hk=>?_⟩⟩;obtain⟨k,rfl⟩:∃m,k=m+1:=⟨k-1,by omega⟩
      show g (k+1) a b=_;rw[h1 k a b hb];exact hK k (by omega)
end Frac
namespace Net
open Go.RowKit YtmgkbhhnchnkcaaGreatDoorW.PrintWords Plain Frac
section
variable {ls:L}
def SA(ls:L)(ax:Int):Int:=tot (fun k=>nT ls ax k*nT ls ax k) (usedL ls)
def AM(ls:L)(ax:Int):Int:=tot (fun k=>nT ls ax k*meas ls ax k) (usedL ls)
theorem SA_nonneg(ls:L)(ax:Int):0≤SA ls ax:=tot_nonneg (fun _ _=>sq_nonneg _)
theorem SA_AM(hn:ls.length≤12)(hg:∀x∈ls,Good x)(ax:Int):SA ls ax=treesM ls*AM ls ax:=sq_sum hn hg ax
theorem AM_bound(hn:ls.length≤12)(hg:∀x∈ls,Good x)(ax:Int):0≤AM ls ax∧AM ls ax≤19683000000:=by
  have h1:=SA_AM hn hg ax;have h2:=SA_nonneg ls ax;have h3:SA ls ax≤treesM ls*treesM ls*tot (fun k=>meas ls ax k*meas ls ax k) (usedL ls):=sq_le hn hg ax;have h4:=trees_pos hn hg;have h5:=trees_le hn hg;have h6:=meas_sq hn hg ax;have h7:=tot_nonneg (f:=fun k=>meas ls ax k*meas ls ax k) (l:=usedL ls) (fun k _=>sq_nonneg _);generalize tot (fun k=>meas ls ax k*meas ls ax k) (usedL ls)=m at *;generalize AM ls ax=a at *;generalize treesM ls=t at *;rw[h1]at h2 h3;refine⟨?_,?_⟩
  · exact Int.le_of_mul_le_mul_left (a:=t) (by omega) (by omega)
  · have h8:a≤t*m:=Int.le_of_mul_le_mul_left (a:=t) (by rw[←Int.mul_assoc];exact h3) (by omega)
    have h9:t*m≤6561*3000000:=Int.mul_le_mul h5 h6 h7 (by decide);omega
theorem Red.le{n d N T:Int}(hT:0<T)(hN:0≤N)(h:Red n d N T):d≤T∧0≤n∧n≤N:=by
  obtain⟨p1,p2,p3⟩:=h;have hd:d∣T:=Red.dvd p2 p3;have h1:=Int.le_of_dvd hT hd
  have h0:0≤n:=by
    rcases Int.lt_or_le n 0 with c|c
    · exfalso
      have a:=Int.mul_neg_of_neg_of_pos c hT;have b:=Int.mul_nonneg hN (Int.le_of_lt p1);omega
    · exact c
  refine⟨h1,h0,?_⟩;have h2:N*d≤N*T:=Int.mul_le_mul_of_nonneg_left h1 hN;exact Int.le_of_mul_le_mul_right (a:=T) (by omega) hT
def sN(ls:L):Int:=AM ls 0+AM ls 1+AM ls 2
def sNum(ls:L):Int:=(sN ls).tdiv (Int.gcd (sN ls) (treesM ls))
def sDen(ls:L):Int:=(treesM ls).tdiv (Int.gcd (sN ls) (treesM ls))
theorem sRed(hn:ls.length≤12)(hg:∀x∈ls,Good x):Red (sNum ls) (sDen ls) (sN ls) (treesM ls):=Red.of_div (by have:=trees_pos hn hg;omega)
theorem sN_bound(hn:ls.length≤12)(hg:∀x∈ls,Good x):0≤sN ls∧sN ls≤59049000000:=by
  have h0:=AM_bound hn hg 0;have h1:=AM_bound hn hg 1;have h2:=AM_bound hn hg 2;unfold sN;omega
theorem s_bound(hn:ls.length≤12)(hg:∀x∈ls,Good x):(0<sDen ls∧sDen ls≤6561)∧0≤sNum ls∧sNum ls≤59049000000:=by
  have hr:=sRed hn hg;have ht:=trees_pos hn hg;have hl:=trees_le hn hg;have hb:=sN_bound hn hg;have h:=Red.le (by omega) hb.1 hr;exact⟨⟨hr.1,by omega⟩,h.2.1,by omega⟩
end
end Net
namespace Net
open Go.RowKit YtmgkbhhnchnkcaaGreatDoorW.PrintWords Plain Det
section
variable {ls:L}
theorem unk_nodup(hg:∀x∈ls,Good x):(unkL ls).Nodup:=by
  have ha:=asc_plL (RR ls);rw[plL_head hg]at ha;exact(List.pairwise_cons.mp ha).2.imp (fun h=>by omega)
theorem coTo_at (hg:∀x∈ls,Good x) (ax:Int) (s:Nat) (hs:s<8):∀k,k≤(unkL ls).length→rd (coTo ls ax k) (s:Int)=if fnd (unkL ls) (s:Int)<(k:Int)then vAt (coM ls ax) (fnd (unkL ls) (s:Int)) else 0
  | 0,_=>by
    have h0:rd (coTo ls ax 0) (s:Int)=0:=by
      show rd (List.replicate 8 0) (s:Int)=0;unfold rd;rw[Int.toNat_natCast,List.getD_eq_getElem?_getD,List.getElem?_replicate_of_lt hs];rfl
    rw[h0];by_cases c:fnd (unkL ls) (s:Int)<((0:Nat):Int)
    · rw[if_pos c];unfold vAt;rw[if_neg (by omega)]
    · rw[if_neg c]
  | k + 1,hk=>by
    have ih:=coTo_at hg ax s hs k (by omega);have hlt:k<(unkL ls).length:=by omega
    have hr:=unkL_range hg (rd (unkL ls) (k:Int)) (by rw[rd_get _ k hlt];exact List.getElem_mem hlt);have hm:(unkL ls)[k]∈unkL ls:=List.getElem_mem hlt;have hidx:(unkL ls).idxOf (unkL ls)[k]=k:=(unk_nodup hg).idxOf_getElem k hlt;obtain⟨u,hu⟩:=Int.eq_ofNat_of_zero_le hr.1
    have hst:rd (coTo ls ax (k+1)) (s:Int)=if s=u then coM ls ax k else rd (coTo ls ax k) (s:Int):=by
      show rd ((coTo ls ax k).set (rd (unkL ls) (k:Int)).toNat (coM ls ax k)) (s:Int)=_;rw[hu,Int.toNat_natCast];unfold rd;rw[Int.toNat_natCast,List.getD_eq_getElem?_getD];by_cases c:s=u
      · rw[if_pos c,c,List.getElem?_set_self (by rw[coTo_len];omega)];rfl
      · rw[if_neg c,List.getElem?_set_ne (fun e=>c e.symm),List.getD_eq_getElem?_getD]
    have hf:fnd (unkL ls) (u:Int)=(k:Int):=by
      rw[←hu,rd_get _ k hlt,(fnd_pos hm).1,hidx]
    rw[hst];by_cases c:s=u
    · subst c
      rw[if_pos rfl,hf,if_pos (by omega)];unfold vAt;rw[if_pos (by omega),Int.toNat_natCast]
    · rw [if_neg c,ih]
      have hne:fnd (unkL ls) (s:Int)≠(k:Int):=fun e=>by
        have hsm:(s:Int)∈unkL ls:=by
          by_cases h:(s:Int)∈unkL ls
          · exact h
          · rw[fnd_neg h]at e;omega
        have e2:=(fnd_pos hsm).1;have e3:(unkL ls).idxOf (s:Int)=(unkL ls).idxOf (unkL ls)[k]:=by rw[hidx];omega
        have e4:=idx_inj hsm hm e3;rw[rd_get _ k hlt]at hu;omega
      by_cases d:fnd (unkL ls) (s:Int)<(k:Int)
      · rw[if_pos d,if_pos (by omega)]
      · rw[if_neg d,if_neg (by omega)]
theorem coL_at(hg:∀x∈ls,Good x)(ax s:Int)(h0:0≤s)(h8:s<8):rd (coL ls ax) s=vAt (coM ls ax) (fnd (unkL ls) s):=by
  obtain⟨m,rfl⟩:=Int.eq_ofNat_of_zero_le h0;unfold coL;rw[coTo_at hg ax m (by omega) _ (Nat.le_refl _),if_pos (fnd_range _ _).2]
theorem vAt_bound(hn:ls.length≤12)(hg:∀x∈ls,Good x)(ax a:Int)(ha:a<((unkL ls).length:Int)):ab (vAt (coM ls ax) a)≤TB:=by
  unfold vAt;by_cases c:0≤a
  · rw[if_pos c];exact co_bound hn hg ax _ (by omega)
  · rw[if_neg c];unfold ab TB;decide
def restV(m den c1 c0:Int):Int:=wrap64 (wrap64 (wrap64 (m*den)-c1)+c0)
theorem rest_eq(hn:ls.length≤12)(hg:∀x∈ls,Good x)(ax:Int){k:Int}(hk:k∈usedL ls):restV (meas ls ax k) (treesM ls) (rd (coL ls ax) (leg ls k).f1) (rd (coL ls ax) (leg ls k).f0)=nT ls ax k:=by
  have hr:=usedL_range ls k hk;obtain⟨m,rfl⟩:=Int.eq_ofNat_of_zero_le hr.1;have hx:=leg_good hg m (by omega);rw[coL_at hg ax _ hx.1.1 hx.1.2,coL_at hg ax _ hx.2.1.1 hx.2.1.2];have b1:=vAt_bound hn hg ax _ (fnd_range (unkL ls) (leg ls (m:Int)).f1).2;have b0:=vAt_bound hn hg ax _ (fnd_range (unkL ls) (leg ls (m:Int)).f0).2;have hm:=RT_meas (ax:=ax) hg hk;have ht:=trees_pos hn hg;have hl:=trees_le hn hg
  have hmul:ab (meas ls ax (m:Int)*treesM ls)≤500*6561:=by
    rw[ab_mul];exact Int.mul_le_mul hm (by unfold ab;omega) (ab_nonneg _) (by decide)
  unfold restV nT dT fa fb;generalize vAt (coM ls ax) (fnd (unkL ls) (leg ls (m:Int)).f1)=x1 at *;generalize vAt (coM ls ax) (fnd (unkL ls) (leg ls (m:Int)).f0)=x0 at *;rw[Int.mul_comm (treesM ls)];generalize meas ls ax (m:Int)*treesM ls=p at *;unfold TB at b1 b0;rw[ab_le]at b1 b0 hmul;rw[w64 (x:=p) (by omega) (by omega),w64 (x:=p-x1) (by omega) (by omega),w64 (x:=p-x1+x0) (by omega) (by omega)];omega
end
end Net
namespace Net
open Go.RowKit YtmgkbhhnchnkcaaGreatDoorW.PrintWords Plain Det
theorem foldl_min (l:List Int):∀z:Int,l.foldl min z≤z∧(∀x∈l,l.foldl min z≤x)∧(l.foldl min z=z∨l.foldl min z∈l):=by
  induction l with
  |nil=>intro z;exact⟨Int.le_refl _,(fun x hx=>by cases hx),Or.inl rfl⟩
  | cons y l ih=>
    intro z;obtain⟨h1,h2,h3⟩:=ih (min z y);refine⟨(by show l.foldl min (min z y)≤z;omega),fun x hx=>?_,?_⟩
    · show l.foldl min (min z y)≤x
      rcases List.mem_cons.mp hx with rfl|hx
      · omega
      · exact h2 x hx
    · show l.foldl min (min z y)=z∨l.foldl min (min z y)∈y::l
      rcases h3 with h|h
      · rw[h]
        by_cases c:z≤y
        · exact Or.inl (by omega)
        · exact Or.inr (by rw[show min z y=y by omega];exact List.mem_cons_self ..)
      · exact Or.inr (List.mem_cons_of_mem _ h)
theorem foldl_min_eq{l m:List Int}(h1:∀x∈l,x=0∨x∈m)(h2:∀x∈m,x=0∨x∈l):l.foldl min 0=m.foldl min 0:=by
  obtain⟨a1,a2,a3⟩:=foldl_min l 0;obtain⟨b1,b2,b3⟩:=foldl_min m 0;refine Int.le_antisymm ?_ ?_
  · rcases b3 with e|e
    · omega
    · rcases h2 _ e with e2|e2
      · omega
      · exact a2 _ e2
  · rcases a3 with e|e
    · omega
    · rcases h1 _ e with e2|e2
      · omega
      · exact b2 _ e2
theorem foldl_max (l:List Int):∀z:Int,z≤l.foldl max z∧(∀x∈l,x≤l.foldl max z)∧(l.foldl max z=z∨l.foldl max z∈l):=by
  induction l with
  |nil=>intro z;exact⟨Int.le_refl _,(fun x hx=>by cases hx),Or.inl rfl⟩
  | cons y l ih=>
    intro z;obtain⟨h1,h2,h3⟩:=ih (max z y);refine⟨(by show z≤l.foldl max (max z y);omega),fun x hx=>?_,?_⟩
    · show x≤l.foldl max (max z y)
      rcases List.mem_cons.mp hx with rfl|hx
      · omega
      · exact h2 x hx
    · show l.foldl max (max z y)=z∨l.foldl max (max z y)∈y::l
      rcases h3 with h|h
      · rw[h]
        by_cases c:y≤z
        · exact Or.inl (by omega)
        · exact Or.inr (by rw[show max z y=y by omega];exact List.mem_cons_self ..)
      · exact Or.inr (List.mem_cons_of_mem _ h)
theorem foldl_max_eq{l m:List Int}(h1:∀x∈l,x=0∨x∈m)(h2:∀x∈m,x=0∨x∈l):l.foldl max 0=m.foldl max 0:=by
  obtain⟨a1,a2,a3⟩:=foldl_max l 0;obtain⟨b1,b2,b3⟩:=foldl_max m 0;refine Int.le_antisymm ?_ ?_
  · rcases a3 with e|e
    · omega
    · rcases h1 _ e with e2|e2
      · omega
      · exact b2 _ e2
  · rcases b3 with e|e
    · omega
    · rcases h2 _ e with e2|e2
      · omega
      · exact a2 _ e2
section
variable {ls:L}
theorem coL_len(ls:L)(ax:Int):(coL ls ax).length=8:=coTo_len ls ax _
theorem co_mem(hg:∀x∈ls,Good x)(ax:Int):(∀x∈coL ls ax,x=0∨x∈(unkL ls).map (fun s=>rd (coL ls ax) s))∧(∀x∈(unkL ls).map (fun s=>rd (coL ls ax) s),x=0∨x∈coL ls ax):=by
  constructor
  · intro x hx
    obtain⟨i,hi,e⟩:=List.getElem_of_mem hx;have h8:i<8:=by rw[coL_len]at hi;exact hi
    have hr:rd (coL ls ax) (i:Int)=x:=by rw[rd_get _ i hi,e]
    have hc:=coL_at hg ax (i:Int) (by omega) (by omega);by_cases h:(i:Int)∈unkL ls
    · exact Or.inr (List.mem_map.mpr ⟨(i:Int),h,hr⟩)
    · rw[fnd_neg h]at hc
      unfold vAt at hc;rw[if_neg (by omega)]at hc;exact Or.inl (by omega)
  · intro x hx
    obtain⟨s,hs,e⟩:=List.mem_map.mp hx;have h8:=unkL_range hg s hs;obtain⟨m,rfl⟩:=Int.eq_ofNat_of_zero_le h8.1;have hm:m<(coL ls ax).length:=by rw[coL_len];omega
    rw[rd_get _ m hm]at e;exact Or.inr (by rw[←e];exact List.getElem_mem hm)
def lowM(ls:L)(ax:Int):Int:=(coL ls ax).foldl min 0
def highM(ls:L)(ax:Int):Int:=(coL ls ax).foldl max 0
theorem low_eq(hg:∀x∈ls,Good x)(ax:Int):((unkL ls).map (fun s=>rd (coL ls ax) s)).foldl min 0=lowM ls ax:=foldl_min_eq (co_mem hg ax).2 (co_mem hg ax).1
theorem high_eq(hg:∀x∈ls,Good x)(ax:Int):((unkL ls).map (fun s=>rd (coL ls ax) s)).foldl max 0=highM ls ax:=foldl_max_eq (co_mem hg ax).2 (co_mem hg ax).1
theorem co_all(hn:ls.length≤12)(hg:∀x∈ls,Good x)(ax:Int):∀x∈coL ls ax,ab x≤TB:=fun x hx=>by
  obtain⟨i,hi,e⟩:=List.getElem_of_mem hx;have h8:i<8:=by rw[coL_len]at hi;exact hi
  have hr:rd (coL ls ax) (i:Int)=x:=by rw[rd_get _ i hi,e]
  rw[←hr,coL_at hg ax (i:Int) (by omega) (by omega)];exact vAt_bound hn hg ax _ (fnd_range _ _).2
theorem depth_bound(hn:ls.length≤12)(hg:∀x∈ls,Good x)(ax:Int):0≤highM ls ax-lowM ls ax∧highM ls ax-lowM ls ax≤2*TB:=by
  obtain⟨a1,_,a3⟩:=foldl_min (coL ls ax) 0;obtain⟨b1,_,b3⟩:=foldl_max (coL ls ax) 0
  have hl:ab (lowM ls ax)≤TB:=by
    rcases a3 with e|e
    · show ab ((coL ls ax).foldl min 0)≤TB;rw[e];decide
    · exact co_all hn hg ax _ e
  have hh:ab (highM ls ax)≤TB:=by
    rcases b3 with e|e
    · show ab ((coL ls ax).foldl max 0)≤TB;rw[e];decide
    · exact co_all hn hg ax _ e
  rw[ab_le]at hl hh;have e1:lowM ls ax=(coL ls ax).foldl min 0:=rfl;have e2:highM ls ax=(coL ls ax).foldl max 0:=rfl;omega
theorem sq_fold(hn:ls.length≤12)(hg:∀x∈ls,Good x)(ax:Int):∀(l:List Int) (z:Int),0≤z→z+tot (fun k=>nT ls ax k*nT ls ax k) l≤9000000000000000000→l.foldl (fun s k=>wrap64 (s+wrap64 (nT ls ax k*nT ls ax k))) z=z+tot (fun k=>nT ls ax k*nT ls ax k) l
  |[],z,_,_=>by rw[tot_nil];simp
  | x::l,z,h0,h=>by
    have hx:=sq_nonneg (nT ls ax x);have hl:=tot_nonneg (f:=fun k=>nT ls ax k*nT ls ax k) (l:=l) (fun k _=>sq_nonneg _);rw[tot_cons]at h ⊢;simp only[List.foldl_cons];rw[w64 (x:=nT ls ax x*nT ls ax x) (by omega) (by omega),w64 (x:=z+nT ls ax x*nT ls ax x) (by omega) (by omega),sq_fold hn hg ax l _ (by omega) (by omega)];omega
theorem sq_all(hn:ls.length≤12)(hg:∀x∈ls,Good x)(ax:Int):(usedL ls).foldl (fun s k=>wrap64 (s+wrap64 (nT ls ax k*nT ls ax k))) 0=SA ls ax:=by
  have h:=sq_bound hn hg ax;rw[sq_fold hn hg ax _ 0 (Int.le_refl _) (by omega)];unfold SA;omega
end
end Net
namespace Net
open Go Go.RowKit YtmgkbhhnchnkcaaGreatDoorW.PrintWords YtmgkbhhnchnkcaaGreatDoorW.PrintLast YtmgkbhhnchnkcaaGreatDoorW.PrintMore A Plain
def resM(x:S82)(axis:Int)(cs:List Int)(den:Int):Int:=wrap64 (wrap64 (wrap64 (onM (shift x) axis*den)-rd cs x.f1)+rd cs x.f0)
theorem residualW(A2:Option Addr)(c2:Nat)(cs:List Int)(x:S82)(axis den:Int)(w:World)(hL:Sine.Laid w)(hr2:Kd.C (Kd.int .i64) w A2 cs.length cs)(h8:cs.length=8)(hx:Good x)(h0:0≤axis)(h2:axis≤2):
    Calls Tryz.prog 89 #[.agg #[.int .i64 x.f0,.int .i64 x.f1,.int .i64 x.f2,.int .i64 x.f3,.int .i64 x.f4],.int .i64 axis,.slice A2 cs.length c2,.int .i64 den] w fun e w'=>e= .returned (.int .i64 (resM x axis cs den))∧Below w.heap.size w w':=by
  have HLS:=ak (fun W (hl:Sine.Laid W)=>legShift x W hl hx);have HON:=ak (fun W=>onW (shift x) axis h0 h2 W);obtain⟨⟨a0,a8⟩,⟨d0,d8⟩,had,_⟩:=hx;obtain⟨ad,e1,p0⟩:=Kd.at_int hr2 x.f0 (by omega) (by omega);obtain⟨ad',e2,p1⟩:=Kd.at_int hr2 x.f1 (by omega) (by omega);subst e1;cases e2;have k0:x.f0<(cs.length:Int):=by omega
  have k1:x.f1<(cs.length:Int):=by omega
  unfold resM;obtain⟨sv,hsv⟩:∃sv,sv=onM (shift x) axis:=⟨_,rfl⟩
  rw[←hsv];simp only[←hsv]at HON;have HL:=ak hL;have HB:=ak (below_alloc (Below.refl w.heap.size w) (Obj.cells #[Value.int IntKind.i64 x.f0,Value.int IntKind.i64 x.f1,Value.int IntKind.i64 x.f2,Value.int IntKind.i64 x.f3,Value.int IntKind.i64 x.f4] 82));clear hr2 hL hsv;go_enter Tryz.func89,Tryz.ntmps89;go_wp2;have h0:(w.alloc (Obj.cells #[Value.int IntKind.i64 x.f0,Value.int IntKind.i64 x.f1,Value.int IntKind.i64 x.f2,Value.int IntKind.i64 x.f3,Value.int IntKind.i64 x.f4] 82)).cell? ⟨w.heap.size,0,none⟩=some (.int .i64 x.f0):=by go_simp
  have h1:(w.alloc (Obj.cells #[Value.int IntKind.i64 x.f0,Value.int IntKind.i64 x.f1,Value.int IntKind.i64 x.f2,Value.int IntKind.i64 x.f3,Value.int IntKind.i64 x.f4] 82)).cell? ⟨w.heap.size,1,none⟩=some (.int .i64 x.f1):=by go_simp
  have h2:(w.alloc (Obj.cells #[Value.int IntKind.i64 x.f0,Value.int IntKind.i64 x.f1,Value.int IntKind.i64 x.f2,Value.int IntKind.i64 x.f3,Value.int IntKind.i64 x.f4] 82)).cell? ⟨w.heap.size,2,none⟩=some (.int .i64 x.f2):=by go_simp
  have h3:(w.alloc (Obj.cells #[Value.int IntKind.i64 x.f0,Value.int IntKind.i64 x.f1,Value.int IntKind.i64 x.f2,Value.int IntKind.i64 x.f3,Value.int IntKind.i64 x.f4] 82)).cell? ⟨w.heap.size,3,none⟩=some (.int .i64 x.f3):=by go_simp
  have h4:(w.alloc (Obj.cells #[Value.int IntKind.i64 x.f0,Value.int IntKind.i64 x.f1,Value.int IntKind.i64 x.f2,Value.int IntKind.i64 x.f3,Value.int IntKind.i64 x.f4] 82)).cell? ⟨w.heap.size,4,none⟩=some (.int .i64 x.f4):=by go_simp
  replace p0:=Sine.keepc p0 HB.out;replace p1:=Sine.keepc p1 HB.out;generalize (w.alloc (Obj.cells #[Value.int IntKind.i64 x.f0,Value.int IntKind.i64 x.f1,Value.int IntKind.i64 x.f2,Value.int IntKind.i64 x.f3,Value.int IntKind.i64 x.f4] 82))=W1 at *
  go_region_held3 (fun w'=>w'.cell? ⟨w.heap.size,0,none⟩=some (.int .i64 x.f0)∧w'.cell? ⟨w.heap.size,1,none⟩=some (.int .i64 x.f1)∧w'.cell? ⟨w.heap.size,2,none⟩=some (.int .i64 x.f2)∧w'.cell? ⟨w.heap.size,3,none⟩=some (.int .i64 x.f3)∧w'.cell? ⟨w.heap.size,4,none⟩=some (.int .i64 x.f4)∧w'.cell? (ad.add x.f0.toNat)=some (.int .i64 (rd cs x.f0))∧w'.cell? (ad.add x.f1.toNat)=some (.int .i64 (rd cs x.f1)))
    ((repeat' refine And.intro ?_ ?_)<;>exact Sine.keepc (w:=W1) qz74 qz13)
    (first
      |(go_at_call 111;(with_reducible refine(HLS.out _ ?s1).mono ?_);(case s1=>exact HL.out.keep qz13);rintro e w' ⟨rfl,hw1⟩)
      | (go_at_call 123;(with_reducible refine(HON.out _).mono ?_);rintro e w' ⟨rfl,hw2⟩
         have HB3:Aside0 (Below w.heap.size w w'):=⟨qz13⟩))
  go_wp2;go_ret;exact⟨(by simp[i64_w]),(by repeat(first|exact HB3.out|apply below_drew1))⟩
def resTo(ls:L)(ax:Int)(k:Nat):List Int:=((usedL ls).take k).map (nT ls ax)
def resL(ls:L)(ax:Int):List Int:=(usedL ls).map (nT ls ax)
theorem resTo_len(ls:L)(ax:Int)(k:Nat):(resTo ls ax k).length≤k:=by
  unfold resTo;rw[List.length_map,List.length_take];omega
theorem resTo_step(ls:L)(ax:Int)(k:Nat)(h:k<(usedL ls).length):resTo ls ax (k+1)=resTo ls ax k++[nT ls ax (rd (usedL ls) (k:Int))]:=by
  unfold resTo;rw[List.take_add_one,List.map_append,rd_get _ k h,List.getElem?_eq_getElem h];rfl
theorem resTo_all(ls:L)(ax:Int):resL ls ax=resTo ls ax (usedL ls).length:=by
  unfold resTo resL;rw[List.take_length]
theorem res_all{ls:L}(hn:ls.length≤12)(hg:∀x∈ls,Good x)(ax:Int){k:Int}(hk:k∈usedL ls):resM (leg ls k) ax (coL ls ax) (treesM ls)=nT ls ax k:=rest_eq hn hg ax hk
theorem SA_bound{ls:L}(hn:ls.length≤12)(hg:∀x∈ls,Good x)(ax:Int):0≤SA ls ax∧SA ls ax≤129140163000000:=
  ⟨tot_nonneg (f:=fun k=>nT ls ax k*nT ls ax k) (l:=usedL ls) (fun k _=>sq_nonneg _),sq_bound hn hg ax⟩
def sqTo(l:List Int)(k:Nat):Int:=(l.take k).foldl (fun s x=>wrap64 (s+wrap64 (x*x))) 0
theorem sqTo_step(l:List Int)(k:Nat)(h:k<l.length):sqTo l (k+1)=wrap64 (sqTo l k+wrap64 (rd l (k:Int)*rd l (k:Int))):=by
  unfold sqTo;rw[List.take_add_one,List.getElem?_eq_getElem h,rd_get _ k h,List.foldl_append];rfl
theorem sqTo_all{ls:L}(hn:ls.length≤12)(hg:∀x∈ls,Good x)(ax:Int):sqTo (resL ls ax) (resL ls ax).length=SA ls ax:=by
  unfold sqTo;rw[List.take_length];unfold resL;rw[List.foldl_map];exact sq_all hn hg ax
theorem residualsW (ba:Nat) (lA uA pA:Option Addr) (lc uc pc:Nat) (ls:L) (ax:Int) (w:World) (hL:Sine.Laid w) (hA:Adj w ba lA uA pA lc uc pc ls (usedL ls) (unkL ls)) (ht:w.cell? ⟨ba,4,none⟩=some (.int .i64 (treesM ls))) (hn:ls.length≤12) (hg:∀x∈ls,Good x) (h0:0≤ax) (h2:ax≤2):
    Calls Tryz.prog 83 #[.pointer (some ⟨ba,0,none⟩),.int .i64 ax] w (Lst (resL ls ax) w):=by
  have HA:=ak hA;have HL:=ak hL;have HG:=ak hg;have HT:=ak ht;have HB:=ak (Below.refl w.heap.size w);have hul:=usedL_len ls;have HRG:=ak (usedL_range ls);have HRE:Aside0 (∀k:Int,k∈usedL ls→resM (leg ls k) ax (coL ls ax) (treesM ls)=nT ls ax k):=⟨fun k hk=>res_all hn hg ax hk⟩;have HLN:Aside0 (∀k,(resTo ls ax k).length≤k):=⟨resTo_len ls ax⟩;have HST:Aside0 (∀k,k<(usedL ls).length→resTo ls ax (k+1)=resTo ls ax k++[nT ls ax (rd (usedL ls) (k:Int))]):=⟨resTo_step ls ax⟩;have HEND:=ak (resTo_all ls ax);have HCL:Aside0 ((coL ls ax).length=8):=⟨coL_len ls ax⟩;have c2:=hA.c2;clear hA hL hg ht;go_enter Tryz.func83,Tryz.ntmps83
  go_wp2_with (first
    |(go_at_call 90;(with_reducible refine(coordinatesW ba lA uA pA lc uc pc ls ax _ ?s1 ?s2 hn HG.out h0 h2).mono ?_);(case s1=>exact HL.out.keep HB.out);(case s2=>exact HA.out.keep HB.out);rintro e w3 ⟨v,rfl,hv3,hw3⟩;replace HB:=ak (below_step HB.out hw3);have HV:=ak hv3;replace c2:=Sine.keepc c2 HB.out;clear hv3 hw3;obtain⟨cA,cC,ec⟩:=Kd.R_slice HV.out;subst ec))
  replace HA:=ak (HA.out.keep HB.out);replace HT:=ak (Sine.keepc HT.out HB.out);replace HL:=ak (HL.out.keep HB.out);have HB0:=HB;clear HB;have HB:=ak (Below.refl w3.heap.size w3)
  go_loopw [6,17] (fun v6 v17 W=>∃(k:Nat),k≤(usedL ls).length∧v17= .int .i64 k∧Aside0 (Kd.R (Kd.int .i64) 3 W w3.heap.size (fun _=>True) v6 (resTo ls ax k))∧Aside0 (Below w3.heap.size w3 W)) (fun _ v17 _=>(usedL ls).length-(intOf v17).toNat)
  case atStart=>exact⟨0,Nat.zero_le _,rfl,⟨Kd.R_nil _ _ _ _ _⟩,⟨qz15⟩⟩
  case round=>
    obtain⟨k,hk,rfl,HO,HB2⟩:=hrel;clear HB c2;have HB:=HB2;clear HB2;obtain⟨vA,vC,ev⟩:=Kd.R_slice HO.out;subst ev;have hlen:=HLN.out k;by_cases hlt:k<(usedL ls).length
    · have k0:(0:Int)≤(k:Int):=by omega
      have k1:(k:Int)<((usedL ls).length:Int):=by omega
      have hmem:rd (usedL ls) (k:Int)∈usedL ls:=by rw[rd_get _ k hlt];exact List.getElem_mem hlt
      obtain⟨ad,e1,h1⟩:=Kd.at_int (Kd.C_below HA.out.u HB.out) (k:Int) k0 k1;rw[Int.toNat_natCast]at h1;have hs:=HRG.out _ hmem;have HX:=ak (HST.out k hlt);have HE:=ak (HRE.out _ hmem);clear hmem;obtain⟨s,hs2⟩:=Int.eq_ofNat_of_zero_le hs.1;rw[hs2]at h1 hs HX HE;clear hs2;have s0:(0:Int)≤(s:Int):=hs.1;have s1:(s:Int)<(ls.length:Int):=hs.2;have HGX:Aside0 (Good (leg ls (s:Int))):=⟨HG.out _ (leg_mem (by omega))⟩;have hc1:=HA.out.c1;have hc4:=HT.out;obtain⟨al,e2,g0,g1,g2,g3,g4⟩:=at_T82 HA.out.l (s:Int) s0 s1;have ek:rd_T82 ls (s:Int)=leg ls s:=rfl;rw[Int.toNat_natCast]at g0 g1 g2 g3 g4;rw[ek]at g0 g1 g2 g3 g4;clear ek hs;generalize leg ls (s:Int)=x at *
      have HQ:Aside0 (∀W,Below w3.heap.size w3 W→Calls Tryz.prog 89 #[.agg #[.int .i64 x.f0,.int .i64 x.f1,.int .i64 x.f2,.int .i64 x.f3,.int .i64 x.f4],.int .i64 ax,.slice cA (coL ls ax).length cC,.int .i64 (treesM ls)] W fun e w'=>e= .returned (.int .i64 (nT ls ax (s:Int)))∧Below W.heap.size W w'):=⟨fun W hb=>by
        have hq:=residualW cA cC (coL ls ax) x ax (treesM ls) W (HL.out.keep hb) (Kd.C_below (Kd.R_reads' HV.out).2.2 hb) HCL.out HGX.out h0 h2
        rw[HE.out]at hq;exact hq⟩
      generalize nT ls ax (s:Int)=nv at *;subst e1;go_wp2_with fail;subst e2
      --@region
      refine start_ (n:=18) (S:=(fun w'=>w'.cell? ⟨ba,1,none⟩=some (.slice (some al) ls.length lc)∧w'.cell? ⟨ba,4,none⟩=some (.int .i64 (treesM ls))∧w'.cell? (al.add (s*5))=some (.int .i64 x.f0)∧w'.cell? {block:=(al.add (s*5)).block,off:=(al.add (s*5)).off+1}=some (.int .i64 x.f1)∧w'.cell? {block:=(al.add (s*5)).block,off:=(al.add (s*5)).off+2}=some (.int .i64 x.f2)∧w'.cell? {block:=(al.add (s*5)).block,off:=(al.add (s*5)).off+3}=some (.int .i64 x.f3)∧w'.cell? {block:=(al.add (s*5)).block,off:=(al.add (s*5)).off+4}=some (.int .i64 x.f4))) (ds:=[]) #[false,false,false,false,false,false,false,false,false,false,false,false,false,false,false,false,false,false] qz37 rfl rfl qz43 (fun hHeld=>?_);refine pY 0 (some 21) (bz 18 1) ?_;refine pY 1 (some 22) (bz 18 3) ?_;refine pY 2 (some 23) (bz 18 7) ?_;refine pY 3 (some 24) (bz 18 15) ?_;refine tZ9 4 (some 25) (bz 18 31) ?_;refine pY 5 (some 26) (bz 18 63) ?_;refine pY 6 (some 27) (bz 18 127) ?_;refine tZ9 7 (some 28) (bz 18 255) ?_;refine pY 8 (some 29) (bz 18 511) ?_;refine pY 9 (some 30) (bz 18 1023) ?_;refine pY 10 (some 31) (bz 18 2047) ?_;refine pY 11 (some 32) (bz 18 4095) ?_;refine pY 12 (some 33) (bz 18 8191) ?_;refine tZ9 13 (some 34) (bz 18 16383) ?_;refine oY 14 (some 35) (bz 18 32767) (fun K hK=>?_);refine goes_ Tryz.func89 qz37 rfl #[.agg #[.int .i64 x.f0,.int .i64 x.f1,.int .i64 x.f2,.int .i64 x.f3,.int .i64 x.f4],.int .i64 ax,.slice cA (coL ls ax).length cC,.int .i64 (treesM ls)] (by rfl) rfl rfl qz63 ?_
      (with_reducible refine(HQ.out _ ?s1).mono ?_);(case s1=>exact(by((repeat(first|exact Below.refl _ _|apply pw_below_drewN|apply below_drew1|exact HB.out|refine below_step ?_ qz74));done)));rintro e w5 ⟨rfl,hw5⟩
      have hb5:=below_step (show Below wr.heap.size wr _ from by(repeat(first|exact Below.refl _ _|apply pw_below_drewN|apply below_drew1|exact HB.out|refine below_step ?_ qz74));done) hw5;have HB5:=ak (below_step HB.out hb5);have HO5:=ak (Kd.R_below HO.out hb5);refine⟨_,rfl,?_⟩;refine hK.out _ _ qz43 (fun hHeld=>?_);clear hK K;refine nZ ?_;refine oY 15 (some 36) (bz 18 65535) (fun K hK=>?_);refine value_ (w1:=?_) (v:=?_) (by rfl) rfl ?_ ?_;rotate_left 2
      · go_simp
        constructor
        · rfl
        · rfl
      refine hK.out _ _ qz43 (fun hHeld=>?_);clear hK K;refine nZ ?_;refine oY 16 (some 37) (bz 18 131071) (fun K hK=>?_);refine Kd.R_append_step (Kd.int .i64) (w0:=w3) w3.heap.size (by rfl) (.tmp 21) (.tmp 36) 46 3 (.int .i64 0) 8 rfl Tryz.underlying46 info3 rfl (by decide) (by omega) (.slice vA (resTo ls ax k).length vC) (resTo ls ax k) nv [.int .i64 nv] (fun _=>True) (fun _=>False) rfl rfl ?aP (fun _ hk=>hk.elim) ?aF ?aO ?aB ?aS ?aL ?_;(case aP=>exact rfl);(case aF=>intro b hb;trivial);(case aO=>exact HO5.out);(case aB=>exact HB5.out);(case aS=>exact below_size HB5.out);(case aL=>omega);intro v7_ w7_ ho hb hg hat;have HP2:=ak ho;have HP3:=ak hb;refine hK.out _ _ qz43 (fun hHeld=>?_);clear hK K;refine nZ ?_;refine pY 17 (some 6) (bz 18 262143) ?_;refine done_ qz37 ?_
      --@end
      go_wp2;exact⟨⟨k+1,hlt,by go_num,(by rw[HX.out];exact HP2),HP3⟩,qz41⟩
    · obtain rfl:k=(usedL ls).length:=by omega
      go_wp2;exact bodyPost_ret (v:= .slice vA (resTo ls ax (usedL ls).length).length vC) (by simp[results,Tryz.results83,go_sem]) rfl ⟨_,rfl,(by rw[HEND.out];exact Kd.R_lower HO.out (below_size HB0.out)),below_step HB0.out HB.out⟩
theorem squaresW(ba:Nat)(lA uA pA:Option Addr)(lc uc pc:Nat)(ls:L)(ax:Int)(w:World)(hL:Sine.Laid w)(hA:Adj w ba lA uA pA lc uc pc ls (usedL ls) (unkL ls))(ht:w.cell? ⟨ba,4,none⟩=some (.int .i64 (treesM ls)))(hn:ls.length≤12)(hg:∀x∈ls,Good x)(h0:0≤ax)(h2:ax≤2):
    Calls Tryz.prog 80 #[.pointer (some ⟨ba,0,none⟩),.int .i64 ax] w (fun e w'=>e= .returned (.int .i64 (SA ls ax))∧Below w.heap.size w w'):=by
  have HB:=ak (Below.refl w.heap.size w);have HRR:=ak (residualsW ba lA uA pA lc uc pc ls ax w hL hA ht hn hg h0 h2);have HST:Aside0 (∀k,k<(resL ls ax).length→sqTo (resL ls ax) (k+1)=wrap64 (sqTo (resL ls ax) k+wrap64 (rd (resL ls ax) (k:Int)*rd (resL ls ax) (k:Int)))):=⟨sqTo_step _⟩;have HEND:=ak (sqTo_all hn hg ax);have HLN:Aside0 ((resL ls ax).length≤12):=⟨(by unfold resL;rw[List.length_map];have:=usedL_len ls;omega)⟩;clear hL hA ht hg;go_enter Tryz.func80,Tryz.ntmps80
  go_wp2_with (first
    |(go_at_call 83;(with_reducible refine HRR.out.mono ?_);rintro e w3 ⟨v,rfl,hv3,hw3⟩;replace HB:=ak (below_step HB.out hw3);have HV:=ak hv3;clear hv3 hw3;obtain⟨cA,cC,ec⟩:=Kd.R_slice HV.out;subst ec))
  generalize resL ls ax=l at *;have hl12:=HLN.out
  go_loopw [5,12] (fun v5 v12 W=>∃(k:Nat),k≤l.length∧v12= .int .i64 k∧v5= .int .i64 (sqTo l k)∧Aside0 (Below w3.heap.size w3 W)) (fun _ v12 _=>l.length-(intOf v12).toNat)
  case atStart=>exact⟨0,Nat.zero_le _,rfl,rfl,⟨qz15⟩⟩
  case round=>
    obtain⟨k,hk,rfl,rfl,HB3⟩:=hrel;by_cases hlt:k<l.length
    · have k0:(0:Int)≤(k:Int):=by omega
      have k1:(k:Int)<(l.length:Int):=by omega
      obtain⟨ad,e1,h1⟩:=Kd.at_int (Kd.C_below (Kd.R_reads' HV.out).2.2 HB3.out) (k:Int) k0 k1;rw[Int.toNat_natCast]at h1;subst e1;have hst:=HST.out k hlt;go_wp2;exact⟨⟨k+1,hlt,by go_num,by rw[hst],HB3⟩,qz41⟩
    · obtain rfl:k=l.length:=by omega
      have hend:=HEND.out;go_wp2;exact bodyPost_ret (v:= .int .i64 (sqTo l l.length)) (by simp[results,Tryz.results80,go_sem]) rfl ⟨by rw[hend],below_step HB.out HB3.out⟩
end Net
namespace Net
open Go.RowKit YtmgkbhhnchnkcaaGreatDoorW.PrintWords Plain A
def exA(ls:L):Nat→List Int
  |0=>usedL ls
  |a+1=>(exA ls a).filter (fun k=>nT ls (a:Int) k==0)
def exJ(ls:L)(a:Nat):Nat→List Int
  |0=>exA ls a
  |j+1=>if nT ls (a:Int) (rd (usedL ls) (j:Int))=0 then exJ ls a j else(exJ ls a j).filter (· !=rd (usedL ls) (j:Int))
theorem exA_sub(ls:L):∀a,∀k∈exA ls a,k∈usedL ls
  |0,_,h=>h
  |a+1,k,h=>exA_sub ls a k (List.mem_filter.mp h).1
theorem exJ_mem(ls:L)(a:Nat):∀j,j≤(usedL ls).length→exJ ls a j=(exA ls a).filter (fun k=>decide (k∈(usedL ls).take j→nT ls (a:Int) k=0))
  | 0,_=>by
    show exA ls a=_;rw[List.filter_eq_self.mpr];intro k _;rw[List.take_zero];exact decide_eq_true (fun h=>by cases h)
  | j +1,h=>by
    have ih:=exJ_mem ls a j (by omega);have hx:rd (usedL ls) (j:Int)=(usedL ls)[j]'(by omega):=rd_get _ j (by omega)
    have hm:∀k,k∈(usedL ls).take (j+1)↔k∈(usedL ls).take j∨k=rd (usedL ls) (j:Int):=fun k=>by
      rw[List.take_succ_eq_append_getElem (by omega),List.mem_append,List.mem_singleton,hx]
    unfold exJ;generalize rd (usedL ls) (j:Int)=u at *;rw[ih];split
    · rename_i c
      refine List.filter_congr fun k hk=>decide_eq_decide.mpr ?_
      rw[hm];refine⟨fun g e=>e.elim g (fun e=>by rw[e];exact c),fun g e=>g (Or.inl e)⟩
    · rename_i c
      rw[List.filter_filter];refine List.filter_congr fun k hk=>?_
      rw[Bool.eq_iff_iff,Bool.and_eq_true,bne_iff_ne,decide_eq_true_eq,decide_eq_true_eq,hm];refine⟨fun⟨g1,g2⟩ e=>e.elim g2 (fun e=>absurd e g1),fun g=>⟨fun e=>c (by rw[←e];exact g (Or.inr e)),fun e=>g (Or.inl e)⟩⟩
theorem exJ_end(ls:L)(a:Nat):exJ ls a (usedL ls).length=exA ls (a+1):=by
  rw[exJ_mem ls a _ (Nat.le_refl _),List.take_length];show _=(exA ls a).filter _;refine List.filter_congr fun k hk=>?_
  have:k∈usedL ls:=exA_sub ls a k hk;rw[Bool.eq_iff_iff,decide_eq_true_eq,beq_iff_eq];exact⟨fun g=>g this,fun g _=>g⟩
theorem exJ_len(ls:L)(a:Nat):∀j,(exJ ls a j).length≤(exA ls a).length
  |0=>Nat.le_refl _
  | j+1=>by
    unfold exJ;split
    · exact exJ_len ls a j
    · exact Nat.le_trans (List.length_filter_le _ _) (exJ_len ls a j)
theorem exA_len(ls:L):∀a,(exA ls a).length≤(usedL ls).length
  |0=>Nat.le_refl _
  |a+1=>Nat.le_trans (List.length_filter_le _ _) (exA_len ls a)
theorem exA_three(ls:L):exA ls 3=(usedL ls).filter (fun k=>decide (nT ls 0 k=0∧nT ls 1 k=0∧nT ls 2 k=0)):=by
  show(((usedL ls).filter (fun k=>nT ls ((0:Nat):Int) k==0)).filter (fun k=>nT ls ((1:Nat):Int) k==0)).filter (fun k=>nT ls ((2:Nat):Int) k==0)=_;rw[List.filter_filter,List.filter_filter];refine List.filter_congr fun k hk=>?_
  by_cases h0:nT ls 0 k=0<;>by_cases h1:nT ls 1 k=0<;>by_cases h2:nT ls 2 k=0<;>simp[h0,h1,h2]
end Net
end Go.Proofs.YtmgkbhhnchnkcaaGreatDoor
