/- Balanced coordinates, in plain: the reference's answer. -/
import Derived.Test.YtmgkbhhnchnkcaaDoorKFnAdjustment6
import Derived.Test.YtmgkbhhnchnkcaaDoorKFnAdjustmentU6
set_option maxHeartbeats 2000000
set_option maxRecDepth 100000
set_option linter.unusedSimpArgs false
set_option linter.unusedVariables false
namespace Go.Proofs.YtmgkbhhnchnkcaaDoor.Net
open Go.RowKit YtmgkbhhnchnkcaaDoorW.PrintWords Plain
open Det
section
variable {ls:L}
theorem LT_rs(ls:L)(i:Nat):rs (unkL ls).length 0 (LT ls) i=tot (fun k=>(if(i:Int)=fa ls k∧fb ls k<0 then 1 else 0)+(if(i:Int)=fb ls k∧fa ls k<0 then 1 else 0)) (usedL ls):=by
  unfold rs;rw[sumTo_congr (g:=fun j=>tot (fun k=>lapD (fa ls k) (fb ls k) i j) (usedL ls)) (fun j _=>by rw[if_pos (Nat.zero_le j)];rfl),sumTo_tot];exact tot_congr (fun k _=>lapD_sum _ _ _ (fa_lt ls k) (fb_lt ls k) i)
theorem rs_term(a b:Int)(i:Nat):0≤(if(i:Int)=a∧b<0 then(1:Int) else 0)+(if(i:Int)=b∧a<0 then 1 else 0):=by split<;>split<;>omega
theorem plL_head (hg:∀x∈ls,Good x):plL (RR ls)=0::unkL ls:=by
  have hp:=plL_pos ls;have ha:=asc_plL (RR ls);have h0:(0:Int)∈plL (RR ls):=(mem_plL _ _).mpr (by unfold Tree.verts;simp);unfold unkL
  cases hq:plL (RR ls)with
  |nil=>rw[hq]at hp;simp at hp
  | cons h t=>
    rw[hq]at ha h0
    have hh:h=0:=by
      have hr:=Grow.in_range (ends ls) (RR_ok hg).1 (Good.range hg) h ((mem_plL _ _).mp (by rw[hq];exact List.mem_cons_self ..));rcases List.mem_cons.mp h0 with e|e
      · exact e.symm
      · have:=(List.pairwise_cons.mp ha).1 0 e
        omega
    rw[hh];rfl
theorem unk_iff(hg:∀x∈ls,Good x)(s:Int):s∈unkL ls↔s∈Tree.verts 0 (RR ls)∧s≠0:=by
  have ha:=asc_plL (RR ls);have hm:=mem_plL (RR ls) s;rw[plL_head hg]at ha hm;have h0:∀x∈unkL ls,0<x:=fun x hx=>(List.pairwise_cons.mp ha).1 x hx
  rw[←hm,List.mem_cons]
  constructor
  · intro h
    exact⟨Or.inr h,(by have:=h0 s h;omega)⟩
  · rintro⟨h|h,hn⟩
    · exact absurd h hn
    · exact h
theorem fnd_pos{un:List Int}{s:Int}(h:s∈un):fnd un s=(un.idxOf s:Int)∧un.idxOf s<un.length:=⟨(by unfold fnd;rw[if_pos h]),List.idxOf_lt_length_iff.mpr h⟩
theorem fnd_neg{un:List Int}{s:Int}(h:s∉un):fnd un s= -1:=by unfold fnd;rw[if_neg h]
theorem idx_inj{un:List Int}{s t:Int}(hs:s∈un)(ht:t∈un)(e:un.idxOf s=un.idxOf t):s=t:=by
  have h1:un[un.idxOf s]'(List.idxOf_lt_length_iff.mpr hs)=s:=List.getElem_idxOf _;have h2:un[un.idxOf t]'(List.idxOf_lt_length_iff.mpr ht)=t:=List.getElem_idxOf _;rw[←h1,←h2]
  congr 1
theorem used_of(hg:∀x∈ls,Good x){x:Int×Int×Int}(hx:x∈RR ls):x.1∈usedL ls∧((ends ls x.1=(x.2.1,x.2.2))∨ends ls x.1=(x.2.2,x.2.1)):=by
  have ho:=(RR_ok hg).1;obtain⟨he,h0,hn⟩:=ho.ends x hx;obtain⟨k,hk⟩:=Int.eq_ofNat_of_zero_le h0;refine⟨?_,he⟩;have hl:=ho.legs_ends (ends ls) (i:=x.1) (List.mem_map.mpr ⟨x,hx,rfl⟩);refine(mem_selTo _ _ _).mpr ⟨k,hk,by omega,?_⟩;have hf:(leg ls (k:Int)).f0∈Tree.verts 0 (RR ls):=by have:=hl.1;rw[hk]at this;exact this
  have hgood:=leg_good hg k (by omega);rw[Pq_eq,Int.toNat_of_nonneg hgood.1.1];exact decide_eq_true ((mem_plL _ _).mpr hf)
theorem LT_neg(hg:∀x∈ls,Good x){k:Int}(hk:k∈usedL ls){i j:Nat}(hij:i≠j)(h:(fa ls k=(i:Int)∧fb ls k=(j:Int))∨(fa ls k=(j:Int)∧fb ls k=(i:Int))):LT ls i j<0:=by
  have hp:=tot_pos (f:=fun k=> -(lapD (fa ls k) (fb ls k) i j)) (l:=usedL ls) (fun k _=>by have:=lapD_off (fa ls k) (fb ls k) hij;omega) hk (by
    show 0< -(lapD (fa ls k) (fb ls k) i j);rw[lapD_eq];rcases h with⟨h1,h2⟩|⟨h1,h2⟩<;>rw[h1,h2]
    · rw[if_neg (by omega),if_neg (by omega),if_pos ⟨rfl,rfl⟩,if_neg (by omega)];omega
    · rw[if_neg (by omega),if_neg (by omega),if_neg (by omega),if_pos ⟨rfl,rfl⟩];omega)
  have e:tot (fun k=> -(lapD (fa ls k) (fb ls k) i j)) (usedL ls)= - LT ls i j:=by
    rw[LT_eq];have:=tot_mul (-1) (fun k=>lapD (fa ls k) (fb ls k) i j) (usedL ls);rw[show(fun k=> -(lapD (fa ls k) (fb ls k) i j))=fun k=> -1*lapD (fa ls k) (fb ls k) i j from by funext k;omega,this];omega
  omega
theorem LT_reach (hg:∀x∈ls,Good x):∀(q:Grow.Q),(∀x∈q,x∈RR ls)→Tree.Tr (0:Int) q→∀s,s∈Tree.verts 0 q→s≠0→s∈Tree.verts 0 (RR ls)→Det.Reach (unkL ls).length 0 (LT ls) ((unkL ls).idxOf s)
  |[],_,_,s,hs,hn,_=>by simp[Tree.verts]at hs;exact absurd hs hn
  | (k, u,t)::q,hsub,htr,s,hs,hn,hR=>by
    have hq:∀x∈q,x∈RR ls:=fun x hx=>hsub x (List.mem_cons_of_mem _ hx)
    cases htr with
    | cons h1 h2 h3 h4=>
      by_cases c:s=t
      · subst c
        obtain⟨hk,he⟩:=used_of hg (hsub _ (List.mem_cons_self ..));simp only at hk he;have hsu:s∈unkL ls:=(unk_iff hg s).mpr ⟨hR,hn⟩;obtain⟨f1,f2⟩:=fnd_pos hsu;by_cases hu:u=0
        · subst hu
          have h0:fnd (unkL ls) 0= -1:=fnd_neg (fun e=>((unk_iff hg 0).mp e).2 rfl);refine .ground _ ?_;rw[LT_rs];refine tot_pos (fun k _=>rs_term _ _ _) hk ?_;unfold fa fb;rcases he with he|he
          · have e1:(leg ls k).f0=0:=congrArg Prod.fst he
            have e2:(leg ls k).f1=s:=congrArg Prod.snd he;rw[e1,e2,h0,f1];rw[if_neg (by omega),if_pos (by omega)];omega
          · have e1:(leg ls k).f0=s:=congrArg Prod.fst he
            have e2:(leg ls k).f1=0:=congrArg Prod.snd he;rw[e1,e2,h0,f1];rw[if_pos (by omega),if_neg (by omega)];omega
        · have huR:u∈Tree.verts 0 (RR ls):=by
            have hl:=(RR_ok hg).1.legs_ends (ends ls) (i:=k) (List.mem_map.mpr ⟨_,hsub _ (List.mem_cons_self ..),rfl⟩);rcases he with he|he
            · have:=hl.1;rw[he]at this;exact this
            · have:=hl.2.1;rw[he]at this;exact this
          have ih:=LT_reach hg q hq h1 u h2 hu huR;have huu:u∈unkL ls:=(unk_iff hg u).mpr ⟨huR,hu⟩;obtain⟨g1,g2⟩:=fnd_pos huu;have hne:(unkL ls).idxOf u≠(unkL ls).idxOf s:=fun e=>h3 (by rw[←idx_inj huu hsu e];exact h2)
          refine .step _ _ (Nat.zero_le _) g2 hne (LT_neg hg hk (fun e=>hne e.symm) ?_) ih;unfold fa fb;rcases he with he|he
          · have e1:(leg ls k).f0=u:=congrArg Prod.fst he
            have e2:(leg ls k).f1=s:=congrArg Prod.snd he;rw[e1,e2];exact Or.inr ⟨g1,f1⟩
          · have e1:(leg ls k).f0=s:=congrArg Prod.fst he
            have e2:(leg ls k).f1=u:=congrArg Prod.snd he;rw[e1,e2];exact Or.inl ⟨f1,g1⟩
      · have hs':s∈Tree.verts 0 q:=by
          simp only[Tree.verts,List.map_cons,List.mem_cons]at hs ⊢;rcases hs with h|h|h
          · exact Or.inl h
          · exact absurd h c
          · exact Or.inr h
        exact LT_reach hg q hq h1 s hs' hn hR
theorem LT_good(hg:∀x∈ls,Good x):Det.Good (unkL ls).length 0 (LT ls):=by
  refine⟨fun i j _ _ _ _=>tot_congr (fun k _=>lapD_sym _ _ _ _),fun i j _ _ _ _ hij=>?_,fun i _ _=>?_,fun i _ hi=>?_⟩
  · have:=tot_le (f:=fun k=>lapD (fa ls k) (fb ls k) i j) (g:=fun _=>0) (l:=usedL ls) (fun k _=>lapD_off _ _ hij)
    rw[tot_const]at this;rw[LT_eq];omega
  · rw[LT_rs]
    exact tot_nonneg (fun k _=>rs_term _ _ _)
  · have hm:(unkL ls)[i]∈unkL ls:=List.getElem_mem hi
    have hu:=(unk_iff hg _).mp hm;have h:=LT_reach hg (RR ls) (fun _ h=>h) (RR_ok hg).1.tr _ hu.1 hu.2 hu.1
    have hx:(unkL ls).idxOf (unkL ls)[i]=i:=by
      have ha:=asc_plL (RR ls);rw[plL_head hg]at ha;have hnd:(unkL ls).Nodup:=(List.pairwise_cons.mp ha).2.imp (fun h=>by omega);exact hnd.idxOf_getElem i hi
    rw[hx]at h;exact h
def TB:Int:=1470503808
theorem tb_ok:2*(TB*TB)≤9223372036854775807:=by unfold TB;decide
theorem bnd_le{n:Nat}(hn:n≤7):((n:Int)*250+1)*839808≤TB:=by unfold TB;omega
theorem dgT_small(hn:ls.length≤12)(r:Nat):dgT ls r≤24:=by
  refine Int.le_trans (tot_le (g:=fun _=>2) (fun k _=>by unfold dg;split<;>split<;>omega)) ?_;rw[tot_const];have:=usedL_len ls;omega
theorem LT_wrap(hn:ls.length≤12)(i j:Nat):wrap64 (LT ls i j)=LT ls i j:=by
  refine Elim.w_id ?_;have h1:=LT_ab1 ls i j;have h2:=dgT_small hn i;omega
theorem RT_wrap(hn:ls.length≤12)(hg:∀x∈ls,Good x)(ax:Int)(i:Nat):wrap64 (RT ls ax i)=RT ls ax i:=by
  refine Elim.w_id ?_;have h1:=RT_ab (ax:=ax) (fun k hk=>RT_meas (ax:=ax) hg hk) i;have h2:=dgT_small hn i;omega
theorem trees_F(hn:ls.length≤12)(hg:∀x∈ls,Good x):treesM ls=P (unkL ls).length (LT ls) (unkL ls).length:=by
  have hb:Bnd (unkL ls).length (unkL ls).length 250 839808 (LT ls):=LT_bnd hn hg (fun _ _ _ _ _=>rfl) (fun r hr=>by have:=LT_ab1 ls r (unkL ls).length;have:=dgT_nonneg ls r;omega);have h:=Elim.det_F (by decide) (bnd_le (unkL_len hg)) tb_ok (by unfold TB;decide) (LT ls) hb;rw[←show F (unkL ls).length (LT ls) (unkL ls).length (low (unkL ls).length)=P (unkL ls).length (LT ls) (unkL ls).length from rfl,←h]
  exact Elim.det_same (n:=(unkL ls).length) _ 0 1 1 _ _ (by omega) (fun p q _ hp _ hq=>by
    unfold matM;rw[if_neg (by omega)]
    exact LT_wrap hn p q)
theorem trees_pos(hn:ls.length≤12)(hg:∀x∈ls,Good x):1≤treesM ls:=by
  rw[trees_F hn hg];exact(lap_stages (LT_good hg) _ (Nat.le_refl _)).1 _ (Nat.le_refl _)
theorem diag_prod(ls:L):∀n,diagProd (LT ls) n≤prodTo (fun r=>max (dgT ls r) 1) n∧0≤diagProd (LT ls) n
  |0=>⟨Int.le_refl _,(by unfold diagProd;decide)⟩
  | n +1=>by
    obtain⟨h1,h2⟩:=diag_prod ls n
    have h3:LT ls n n≤dgT ls n:=by
      rw[LT_eq];refine tot_le (fun k _=>?_);rw[lapD_eq];unfold dg;by_cases c1:(n:Int)=fa ls k<;>by_cases c2:(n:Int)=fb ls k<;>simp only[c1,c2,and_self,and_true,true_and,and_false,false_and,if_true,if_false]<;>omega
    have h4:0≤LT ls n n:=by
      rw[LT_eq];refine tot_nonneg (fun k _=>?_);rw[lapD_eq];by_cases c1:(n:Int)=fa ls k<;>by_cases c2:(n:Int)=fb ls k<;>simp only[c1,c2,and_self,and_true,true_and,and_false,false_and,if_true,if_false]<;>omega
    have h0:=dgT_nonneg ls n;refine⟨?_,Int.mul_nonneg h2 h4⟩;exact Int.mul_le_mul h1 (by show LT ls n n≤max (dgT ls n) 1;omega) h4 (Int.le_trans h2 h1)
theorem trees_le(hn:ls.length≤12)(hg:∀x∈ls,Good x):treesM ls≤6561:=by
  rw[trees_F hn hg];refine Int.le_trans (lap_det_le (LT_good hg) _ (Nat.le_refl _)) (Int.le_trans (diag_prod ls _).1 ?_);rw[prodN_int _ _ (fun r _=>dgT_nonneg ls r)];have h1:=sumN_int (dgT ls) (unkL ls).length (fun r _=>dgT_nonneg ls r);have h2:=dgT_sum hn;have h3:=prodN_le (fun r=>(dgT ls r).toNat) (unkL ls).length (by omega);omega
theorem co_F(hn:ls.length≤12)(hg:∀x∈ls,Good x)(ax:Int)(i:Nat)(hi:i<(unkL ls).length):coM ls ax i=F (unkL ls).length (setc (LT ls) i (RT ls ax)) (unkL ls).length (low (unkL ls).length):=by
  have hb:Bnd (unkL ls).length i 250 839808 (setc (LT ls) i (RT ls ax)):=LT_bnd hn hg (fun r _ j _ hj=>setc_ne _ _ _ _ _ hj) (fun r hr=>by rw[setc_at];exact RT_ab (fun k hk=>RT_meas hg hk) r);have h:=Elim.det_F (by decide) (bnd_le (unkL_len hg)) tb_ok (by unfold TB;decide) _ hb;rw[←h]
  exact Elim.det_same (n:=(unkL ls).length) _ 0 1 1 _ _ (by omega) (fun p q _ hp _ hq=>by
    unfold matM setc;by_cases c:q=i
    · rw[if_pos c,if_pos (by omega)];exact RT_wrap hn hg ax p
    · rw[if_neg c,if_neg (by omega)];exact LT_wrap hn p q)
theorem co_bound(hn:ls.length≤12)(hg:∀x∈ls,Good x)(ax:Int)(i:Nat)(hi:i<(unkL ls).length):ab (coM ls ax i)≤TB:=by
  have hb:Bnd (unkL ls).length i 250 839808 (setc (LT ls) i (RT ls ax)):=LT_bnd hn hg (fun r _ j _ hj=>setc_ne _ _ _ _ _ hj) (fun r hr=>by rw[setc_at];exact RT_ab (fun k hk=>RT_meas hg hk) r);rw[co_F hn hg ax i hi];obtain⟨m,hm⟩:∃m,(unkL ls).length=m+1:=⟨(unkL ls).length-1,by omega⟩
  have e:F (unkL ls).length (setc (LT ls) i (RT ls ax)) (unkL ls).length (low (unkL ls).length)=R (unkL ls).length (setc (LT ls) i (RT ls ax)) m m m:=by
    rw[←P_succ,←hm];rfl
  rw[e];exact Int.le_trans (R_bound (by decide) hb (Nat.le_refl m) (by omega)) (bnd_le (unkL_len hg))
theorem co_solve(hn:ls.length≤12)(hg:∀x∈ls,Good x)(ax:Int)(r:Nat)(hr:r<(unkL ls).length):sumTo (unkL ls).length (fun j=>LT ls r j*coM ls ax j)=treesM ls*RT ls ax r:=by
  rw[trees_F hn hg];rw[sumTo_congr (fun j hj=>by rw[co_F hn hg ax j hj])];exact cramer (unkL ls).length (LT ls) (RT ls ax) r hr
end
end Go.Proofs.YtmgkbhhnchnkcaaDoor.Net
namespace Go.Proofs.YtmgkbhhnchnkcaaDoor.Net
open Go.RowKit YtmgkbhhnchnkcaaDoorW.PrintWords Plain
open Det
section
variable {ls:L}
def vAt(x:Nat→Int)(a:Int):Int:=if 0≤a then x a.toNat else 0
theorem sumTo_indv(n:Nat)(x:Nat→Int)(c:Int)(hc:c<(n:Int))(p:Prop)[Decidable p]:sumTo n (fun j=>(if p∧(j:Int)=c then 1 else 0)*x j)=if p then vAt x c else 0:=by
  unfold vAt;by_cases hp:p∧0≤c
  · obtain⟨m,rfl⟩:=Int.eq_ofNat_of_zero_le hp.2
    rw[if_pos hp.1,if_pos hp.2,sumTo_single (j:=m) (g:=fun _=>0) (by omega) (fun l _ hl=>by rw[if_neg (fun e=>hl (by omega)),Int.zero_mul]) rfl,if_pos ⟨hp.1,rfl⟩,sumTo_zero (fun _ _=>rfl),Int.add_zero,Int.one_mul,Int.toNat_natCast]
  · rw[sumTo_zero (fun j _=>by rw[if_neg (fun e=>hp ⟨e.1,by omega⟩),Int.zero_mul])]
    by_cases c1:p
    · rw[if_pos c1,if_neg (fun e=>hp ⟨c1,e⟩)]
    · rw[if_neg c1]
theorem lapD_mul(n:Nat)(x:Nat→Int)(a b:Int)(ha:a<(n:Int))(hb:b<(n:Int))(i:Nat):sumTo n (fun j=>lapD a b i j*x j)=rgtD a b (vAt x b-vAt x a) i:=by
  have e:(fun j:Nat=>lapD a b i j*x j)=fun j:Nat=>(if(i:Int)=a∧(j:Int)=a then 1 else 0)*x j+(if(i:Int)=b∧(j:Int)=b then 1 else 0)*x j-(if(i:Int)=a∧(j:Int)=b then 1 else 0)*x j-(if(i:Int)=b∧(j:Int)=a then 1 else 0)*x j:=by
    funext j
    rw[lapD_eq,Int.sub_mul,Int.sub_mul,Int.add_mul]
  rw[e,sum_add3,sumTo_indv n x a ha,sumTo_indv n x b hb,sumTo_indv n x b hb,sumTo_indv n x a ha];unfold rgtD;split<;>split<;>omega
theorem rgtD_mul(n:Nat)(x:Nat→Int)(a b v:Int)(ha:a<(n:Int))(hb:b<(n:Int)):sumTo n (fun r=>x r*rgtD a b v r)=v*(vAt x b-vAt x a):=by
  have e1:=sumTo_indv n x a ha True;have e2:=sumTo_indv n x b hb True;simp only[true_and,if_true]at e1 e2
  have e:(fun r:Nat=>x r*rgtD a b v r)=fun r:Nat=>v*((if(r:Int)=b then 1 else 0)*x r)+(-v)*((if(r:Int)=a then 1 else 0)*x r):=by
    funext r
    unfold rgtD;by_cases c1:(r:Int)=b<;>by_cases c2:(r:Int)=a<;>simp only[c1,c2,if_true,if_false]<;>grind
  rw[e,sumTo_add,sumTo_mul,sumTo_mul,e1,e2]
  grind
theorem rgtD_lin(a b u v:Int)(r:Nat):rgtD a b (u-v) r=rgtD a b u r-rgtD a b v r:=by unfold rgtD;split<;>split<;>omega
theorem rgtD_scale(a b c v:Int)(r:Nat):rgtD a b (c*v) r=c*rgtD a b v r:=by
  unfold rgtD;by_cases c1:(r:Int)=b<;>by_cases c2:(r:Int)=a<;>simp only[c1,c2,if_true,if_false]<;>grind
def dT(ls:L)(ax k:Int):Int:=vAt (coM ls ax) (fb ls k)-vAt (coM ls ax) (fa ls k)
def nT(ls:L)(ax k:Int):Int:=treesM ls*meas ls ax k-dT ls ax k
theorem balance(hn:ls.length≤12)(hg:∀x∈ls,Good x)(ax:Int)(r:Nat)(hr:r<(unkL ls).length):tot (fun k=>rgtD (fa ls k) (fb ls k) (nT ls ax k) r) (usedL ls)=0:=by
  have h:=co_solve hn hg ax r hr
  have e1:sumTo (unkL ls).length (fun j=>LT ls r j*coM ls ax j)=tot (fun k=>rgtD (fa ls k) (fb ls k) (dT ls ax k) r) (usedL ls):=by
    have e2:∀j,LT ls r j*coM ls ax j=tot (fun k=>lapD (fa ls k) (fb ls k) r j*coM ls ax j) (usedL ls):=fun j=>by
      rw[Int.mul_comm,LT_eq,←tot_mul];exact tot_congr (fun k _=>Int.mul_comm _ _)
    rw[sumTo_congr (fun j _=>e2 j),sumTo_tot];exact tot_congr (fun k _=>lapD_mul _ _ _ _ (fa_lt ls k) (fb_lt ls k) r)
  have e3:treesM ls*RT ls ax r=tot (fun k=>rgtD (fa ls k) (fb ls k) (treesM ls*meas ls ax k) r) (usedL ls):=by
    rw[RT_eq,←tot_mul];exact tot_congr (fun k _=>(rgtD_scale _ _ _ _ _).symm)
  have e4:tot (fun k=>rgtD (fa ls k) (fb ls k) (nT ls ax k) r) (usedL ls)=tot (fun k=>rgtD (fa ls k) (fb ls k) (treesM ls*meas ls ax k) r) (usedL ls)+(-1)*tot (fun k=>rgtD (fa ls k) (fb ls k) (dT ls ax k) r) (usedL ls):=by
    rw[←tot_mul,←tot_add];exact tot_congr (fun k _=>by unfold nT;rw[rgtD_lin];omega)
  rw[e4,←e3,←e1,h];omega
theorem orth(hn:ls.length≤12)(hg:∀x∈ls,Good x)(ax:Int):tot (fun k=>nT ls ax k*dT ls ax k) (usedL ls)=0:=by
  have e:tot (fun k=>nT ls ax k*dT ls ax k) (usedL ls)=sumTo (unkL ls).length (fun r=>tot (fun k=>coM ls ax r*rgtD (fa ls k) (fb ls k) (nT ls ax k) r) (usedL ls)):=by
    rw[sumTo_tot];exact tot_congr (fun k _=>(rgtD_mul _ _ _ _ _ (fa_lt ls k) (fb_lt ls k)).symm)
  rw[e];refine sumTo_zero (fun r hr=>?_);rw[tot_mul,balance hn hg ax r hr,Int.mul_zero]
theorem sq_sum(hn:ls.length≤12)(hg:∀x∈ls,Good x)(ax:Int):tot (fun k=>nT ls ax k*nT ls ax k) (usedL ls)=treesM ls*tot (fun k=>nT ls ax k*meas ls ax k) (usedL ls):=by
  have h:=orth hn hg ax
  have e:tot (fun k=>nT ls ax k*nT ls ax k) (usedL ls)=tot (fun k=>treesM ls*(nT ls ax k*meas ls ax k)) (usedL ls)+(-1)*tot (fun k=>nT ls ax k*dT ls ax k) (usedL ls):=by
    rw[←tot_mul,←tot_add]
    exact tot_congr (fun k _=>by
      have e2:nT ls ax k=treesM ls*meas ls ax k-dT ls ax k:=rfl;generalize nT ls ax k=n at *
      grind)
  rw[e,tot_mul,h];omega
theorem sq_nonneg(x:Int):0≤x*x:=by
  rcases Int.le_total 0 x with h|h
  · exact Int.mul_nonneg h h
  · exact Int.mul_nonneg_of_nonpos_of_nonpos h h
theorem sq_le(hn:ls.length≤12)(hg:∀x∈ls,Good x)(ax:Int):tot (fun k=>nT ls ax k*nT ls ax k) (usedL ls)≤treesM ls*treesM ls*tot (fun k=>meas ls ax k*meas ls ax k) (usedL ls):=by
  have h:=sq_sum hn hg ax;have hp:=tot_nonneg (f:=fun k=>(treesM ls*meas ls ax k-nT ls ax k)*(treesM ls*meas ls ax k-nT ls ax k)) (l:=usedL ls) (fun k _=>sq_nonneg _)
  have e:tot (fun k=>(treesM ls*meas ls ax k-nT ls ax k)*(treesM ls*meas ls ax k-nT ls ax k)) (usedL ls)=treesM ls*treesM ls*tot (fun k=>meas ls ax k*meas ls ax k) (usedL ls)+((-2*treesM ls)*tot (fun k=>nT ls ax k*meas ls ax k) (usedL ls)+tot (fun k=>nT ls ax k*nT ls ax k) (usedL ls)):=by
    rw[←tot_mul,←tot_mul,←tot_add,←tot_add];exact tot_congr (fun k _=>by grind)
  rw[e]at hp;have e2:(-2*treesM ls)*tot (fun k=>nT ls ax k*meas ls ax k) (usedL ls)= -2*tot (fun k=>nT ls ax k*nT ls ax k) (usedL ls):=by rw[h,Int.mul_assoc]
  omega
theorem tot_one{f:Int→Int}{l:List Int}(h:∀k∈l,0≤f k){k:Int}(hk:k∈l):f k≤tot f l:=by
  induction l with
  |nil=>cases hk
  | cons x l ih=>
    rw[tot_cons];have h1:=h x (List.mem_cons_self ..);have h2:=tot_nonneg (fun k hk=>h k (List.mem_cons_of_mem _ hk));rcases List.mem_cons.mp hk with rfl|hk
    · omega
    · have:=ih (fun k hk=>h k (List.mem_cons_of_mem _ hk)) hk
      omega
theorem meas_sq(hn:ls.length≤12)(hg:∀x∈ls,Good x)(ax:Int):tot (fun k=>meas ls ax k*meas ls ax k) (usedL ls)≤3000000:=by
  refine Int.le_trans (tot_le (g:=fun _=>250000) (fun k hk=>?_)) ?_
  · have h:=RT_meas (ax:=ax) hg hk
    have h2:=Elim.mul_le_sq (B:=500) (by decide) h h;have h3:meas ls ax k*meas ls ax k≤ab (meas ls ax k*meas ls ax k):=by unfold ab;omega
    omega
  · rw[tot_const]
    have:=usedL_len ls;omega
theorem sq_bound(hn:ls.length≤12)(hg:∀x∈ls,Good x)(ax:Int):tot (fun k=>nT ls ax k*nT ls ax k) (usedL ls)≤129140163000000:=by
  have h1:=sq_le hn hg ax;have h2:=meas_sq hn hg ax;have h3:=trees_pos hn hg;have h4:=trees_le hn hg;have h5:treesM ls*treesM ls≤6561*6561:=Int.mul_le_mul h4 h4 (by omega) (by decide);have h6:=tot_nonneg (f:=fun k=>meas ls ax k*meas ls ax k) (l:=usedL ls) (fun k _=>sq_nonneg _);have h7:treesM ls*treesM ls*tot (fun k=>meas ls ax k*meas ls ax k) (usedL ls)≤6561*6561*3000000:=Int.mul_le_mul h5 h2 h6 (by decide);have h8:(6561*6561*3000000:Int)=129140163000000:=by decide
  omega
theorem nT_bound(hn:ls.length≤12)(hg:∀x∈ls,Good x)(ax:Int){k:Int}(hk:k∈usedL ls):ab (nT ls ax k)≤11400000:=by
  have h1:=sq_bound hn hg ax;have h2:=tot_one (f:=fun k=>nT ls ax k*nT ls ax k) (l:=usedL ls) (fun k _=>sq_nonneg _) hk
  have e:nT ls ax k*nT ls ax k=ab (nT ls ax k)*ab (nT ls ax k):=by
    unfold ab;rcases Int.le_total 0 (nT ls ax k)with h|h
    · rw[Int.natAbs_of_nonneg h]
    · rw[show((nT ls ax k).natAbs:Int)= -(nT ls ax k) by omega,Int.neg_mul_neg]
  rcases Int.lt_or_le 11400000 (ab (nT ls ax k))with c|c
  · exfalso
    have h3:(11400000:Int)*11400000≤ab (nT ls ax k)*ab (nT ls ax k):=Int.mul_le_mul (Int.le_of_lt c) (Int.le_of_lt c) (by decide) (ab_nonneg _);have h4:(11400000:Int)*11400000=129960000000000:=by decide
    omega
  · exact c
end
end Go.Proofs.YtmgkbhhnchnkcaaDoor.Net
namespace Go.Proofs.YtmgkbhhnchnkcaaDoor.Frac
def Red(n d N T:Int):Prop:=0<d∧Int.gcd n d=1∧n*T=N*d
theorem Red.dvd{n d n' d':Int}(h1:Int.gcd n d=1)(e:n*d'=n'*d):d∣d':=by
  have hd:d∣n*d':=⟨n',(by rw[e,Int.mul_comm])⟩;have h2:d.natAbs∣n.natAbs*d'.natAbs:=by rw[←Int.natAbs_mul];exact Int.natAbs_dvd_natAbs.mpr hd
  exact Int.natAbs_dvd_natAbs.mp (Nat.Coprime.dvd_of_dvd_mul_left (show Nat.gcd d.natAbs n.natAbs=1 by rw[Nat.gcd_comm];exact h1) h2)
theorem tdiv_exact{a g:Int}(hg:g≠0)(h:g∣a):a.tdiv g*g=a:=Int.tdiv_mul_cancel h
theorem Red.of_div{N D:Int}(hD:0<D):Red (N.tdiv (Int.gcd N D)) (D.tdiv (Int.gcd N D)) N D:=by
  have hg:0<(Int.gcd N D:Int):=by
    have:=Int.gcd_pos_of_ne_zero_right N (show D≠0 by omega);omega
  have h1:=tdiv_exact (a:=N) (g:=Int.gcd N D) (by omega) (Int.gcd_dvd_left ..);have h2:=tdiv_exact (a:=D) (g:=Int.gcd N D) (by omega) (Int.gcd_dvd_right ..);generalize hn:N.tdiv (Int.gcd N D)=n at *;generalize hd:D.tdiv (Int.gcd N D)=d at *;generalize hgg:Int.gcd N D=g at *
  have hdp:0<d:=by
    rcases Int.lt_or_le 0 d with c|c
    · exact c
    · exfalso
      have:=Int.mul_le_mul_of_nonneg_right c (Int.le_of_lt hg);omega
  refine⟨hdp,?_,?_⟩
  · have e:Int.gcd (n*g) (d*g)=g:=by rw[h1,h2,hgg]
    rw[Int.gcd_mul_right]at e;simp only[Int.natAbs_natCast]at e;have hgn:0<g:=by omega
    exact Nat.eq_of_mul_eq_mul_right hgn (by rw[e,Nat.one_mul])
  · rw[←h1,←h2]
    generalize (g:Int)=z
    grind
theorem Red.change{n d x y N T:Int}(hy:0<y)(h:Red n d x y)(e:x*T=N*y):Red n d N T:=by
  obtain⟨p1,p2,p3⟩:=h;refine⟨p1,p2,?_⟩
  have e1:y*(n*T)=y*(N*d):=by
    have a:n*y*T=x*d*T:=by rw[p3]
    have b:x*T*d=N*y*d:=by rw[e]
    grind
  exact Int.eq_of_mul_eq_mul_left (by omega) e1
theorem Red.sum{n d a b N A T g:Int}(hd:0<d)(hb:0<b)(hg:0<g)(h1:n*T=N*d)(h2:a*T=A*b){d' b':Int}(e1:d'*g=d)(e2:b'*g=b):(n*b'+a*d')*T=(N+A)*(d'*b):=by
  have a1:n*T*b'=N*d*b':=by rw[h1]
  have a2:a*T*d'=A*b*d':=by rw[h2]
  subst e1;subst e2
  grind
theorem gcd_step(a b:Int)(hb:b≠0):Int.gcd b (a.tmod b)=Int.gcd a b:=by
  unfold Int.gcd;rw[Int.natAbs_tmod,Nat.gcd_comm a.natAbs,Nat.gcd_rec b.natAbs a.natAbs,Nat.gcd_comm]
theorem tmod_lt(a b:Int)(hb:b≠0):(a.tmod b).natAbs<b.natAbs:=by
  rw[Int.natAbs_tmod];exact Nat.mod_lt _ (by omega)
end Go.Proofs.YtmgkbhhnchnkcaaDoor.Frac
namespace Go.Proofs.YtmgkbhhnchnkcaaDoor.Frac
open Go.RowKit YtmgkbhhnchnkcaaDoorW.PrintWords Plain
theorem gcd_loop{β:Type}{g:Nat→Int→Int→Option β}{fin:Int→β}(h0:∀k a,g (k+1) a 0=some (fin a))(h1:∀k a b,b≠0→g (k+1) a b=g k b (Int.tmod a b)):
    ∀(n:Nat) (a b:Int),b.natAbs<n→∃z:Int,z.natAbs=Int.gcd a b∧(0≤a→0≤b→0≤z)∧Ev (fun k=>g k a b) (fin z):=by
  intro n
  induction n with
  |zero=>intro a b h;omega
  | succ n ih=>
    intro a b h;by_cases hb:b=0
    · subst hb
      refine⟨a,(by rw[Int.gcd_zero_right]),fun h _=>h,⟨1,fun k hk=>?_⟩⟩;obtain⟨k,rfl⟩:∃m,k=m+1:=⟨k-1,by omega⟩
      exact h0 k a
    · obtain⟨z,hz,hs,K,hK⟩:=ih b (Int.tmod a b) (by have:=tmod_lt a b hb;omega)
      refine⟨z,(by rw[hz,gcd_step a b hb]),fun ha hb'=>hs hb' (Int.tmod_nonneg b ha),⟨K+1,fun k hk=>?_⟩⟩;obtain⟨k,rfl⟩:∃m,k=m+1:=⟨k-1,by omega⟩
      show g (k+1) a b=_;rw[h1 k a b hb];exact hK k (by omega)
end Go.Proofs.YtmgkbhhnchnkcaaDoor.Frac
namespace Go.Proofs.YtmgkbhhnchnkcaaDoor.Net
open Go.RowKit YtmgkbhhnchnkcaaDoorW.PrintWords Plain
open Frac
section
variable {ls:L}
def SA(ls:L)(ax:Int):Int:=tot (fun k=>nT ls ax k*nT ls ax k) (usedL ls)
def AM(ls:L)(ax:Int):Int:=tot (fun k=>nT ls ax k*meas ls ax k) (usedL ls)
theorem SA_nonneg(ls:L)(ax:Int):0≤SA ls ax:=tot_nonneg (fun _ _=>sq_nonneg _)
theorem SA_AM(hn:ls.length≤12)(hg:∀x∈ls,Good x)(ax:Int):SA ls ax=treesM ls*AM ls ax:=sq_sum hn hg ax
theorem AM_bound(hn:ls.length≤12)(hg:∀x∈ls,Good x)(ax:Int):0≤AM ls ax∧AM ls ax≤19683000000:=by
  have h1:=SA_AM hn hg ax;have h2:=SA_nonneg ls ax;have h3:SA ls ax≤treesM ls*treesM ls*tot (fun k=>meas ls ax k*meas ls ax k) (usedL ls):=sq_le hn hg ax;have h4:=trees_pos hn hg;have h5:=trees_le hn hg;have h6:=meas_sq hn hg ax;have h7:=tot_nonneg (f:=fun k=>meas ls ax k*meas ls ax k) (l:=usedL ls) (fun k _=>sq_nonneg _);generalize tot (fun k=>meas ls ax k*meas ls ax k) (usedL ls)=m at *;generalize AM ls ax=a at *;generalize treesM ls=t at *;rw[h1]at h2 h3;refine⟨?_,?_⟩
  · exact Int.le_of_mul_le_mul_left (a:=t) (by omega) (by omega)
  · have h8:a≤t*m:=Int.le_of_mul_le_mul_left (a:=t) (by rw[←Int.mul_assoc];exact h3) (by omega)
    have h9:t*m≤6561*3000000:=Int.mul_le_mul h5 h6 h7 (by decide);omega
theorem Red.le{n d N T:Int}(hT:0<T)(hN:0≤N)(h:Red n d N T):d≤T∧0≤n∧n≤N:=by
  obtain⟨p1,p2,p3⟩:=h;have hd:d∣T:=Red.dvd p2 p3;have h1:=Int.le_of_dvd hT hd
  have h0:0≤n:=by
    rcases Int.lt_or_le n 0 with c|c
    · exfalso
      have a:=Int.mul_neg_of_neg_of_pos c hT;have b:=Int.mul_nonneg hN (Int.le_of_lt p1);omega
    · exact c
  refine⟨h1,h0,?_⟩;have h2:N*d≤N*T:=Int.mul_le_mul_of_nonneg_left h1 hN;exact Int.le_of_mul_le_mul_right (a:=T) (by omega) hT
def sN(ls:L):Int:=AM ls 0+AM ls 1+AM ls 2
def sNum(ls:L):Int:=(sN ls).tdiv (Int.gcd (sN ls) (treesM ls))
def sDen(ls:L):Int:=(treesM ls).tdiv (Int.gcd (sN ls) (treesM ls))
theorem sRed(hn:ls.length≤12)(hg:∀x∈ls,Good x):Red (sNum ls) (sDen ls) (sN ls) (treesM ls):=Red.of_div (by have:=trees_pos hn hg;omega)
theorem sN_bound(hn:ls.length≤12)(hg:∀x∈ls,Good x):0≤sN ls∧sN ls≤59049000000:=by
  have h0:=AM_bound hn hg 0;have h1:=AM_bound hn hg 1;have h2:=AM_bound hn hg 2;unfold sN;omega
theorem s_bound(hn:ls.length≤12)(hg:∀x∈ls,Good x):(0<sDen ls∧sDen ls≤6561)∧0≤sNum ls∧sNum ls≤59049000000:=by
  have hr:=sRed hn hg;have ht:=trees_pos hn hg;have hl:=trees_le hn hg;have hb:=sN_bound hn hg;have h:=Red.le (by omega) hb.1 hr;exact⟨⟨hr.1,by omega⟩,h.2.1,by omega⟩
end
end Go.Proofs.YtmgkbhhnchnkcaaDoor.Net
namespace Go.Proofs.YtmgkbhhnchnkcaaDoor.Net
open Go.RowKit YtmgkbhhnchnkcaaDoorW.PrintWords Plain
open Det
section
variable {ls:L}
theorem unk_nodup(hg:∀x∈ls,Good x):(unkL ls).Nodup:=by
  have ha:=asc_plL (RR ls);rw[plL_head hg]at ha;exact(List.pairwise_cons.mp ha).2.imp (fun h=>by omega)
theorem coTo_at (hg:∀x∈ls,Good x) (ax:Int) (s:Nat) (hs:s<8):∀k,k≤(unkL ls).length→rd (coTo ls ax k) (s:Int)=if fnd (unkL ls) (s:Int)<(k:Int)then vAt (coM ls ax) (fnd (unkL ls) (s:Int)) else 0
  | 0,_=>by
    have h0:rd (coTo ls ax 0) (s:Int)=0:=by
      show rd (List.replicate 8 0) (s:Int)=0;unfold rd;rw[Int.toNat_natCast,List.getD_eq_getElem?_getD,List.getElem?_replicate_of_lt hs];rfl
    rw[h0];by_cases c:fnd (unkL ls) (s:Int)<((0:Nat):Int)
    · rw[if_pos c];unfold vAt;rw[if_neg (by omega)]
    · rw[if_neg c]
  | k + 1,hk=>by
    have ih:=coTo_at hg ax s hs k (by omega);have hlt:k<(unkL ls).length:=by omega
    have hr:=unkL_range hg (rd (unkL ls) (k:Int)) (by rw[rd_get _ k hlt];exact List.getElem_mem hlt);have hm:(unkL ls)[k]∈unkL ls:=List.getElem_mem hlt;have hidx:(unkL ls).idxOf (unkL ls)[k]=k:=(unk_nodup hg).idxOf_getElem k hlt;obtain⟨u,hu⟩:=Int.eq_ofNat_of_zero_le hr.1
    have hst:rd (coTo ls ax (k+1)) (s:Int)=if s=u then coM ls ax k else rd (coTo ls ax k) (s:Int):=by
      show rd ((coTo ls ax k).set (rd (unkL ls) (k:Int)).toNat (coM ls ax k)) (s:Int)=_;rw[hu,Int.toNat_natCast];unfold rd;rw[Int.toNat_natCast,List.getD_eq_getElem?_getD];by_cases c:s=u
      · rw[if_pos c,c,List.getElem?_set_self (by rw[coTo_len];omega)];rfl
      · rw[if_neg c,List.getElem?_set_ne (fun e=>c e.symm),List.getD_eq_getElem?_getD]
    have hf:fnd (unkL ls) (u:Int)=(k:Int):=by
      rw[←hu,rd_get _ k hlt,(fnd_pos hm).1,hidx]
    rw[hst];by_cases c:s=u
    · subst c
      rw[if_pos rfl,hf,if_pos (by omega)];unfold vAt;rw[if_pos (by omega),Int.toNat_natCast]
    · rw [if_neg c,ih]
      have hne:fnd (unkL ls) (s:Int)≠(k:Int):=fun e=>by
        have hsm:(s:Int)∈unkL ls:=by
          by_cases h:(s:Int)∈unkL ls
          · exact h
          · rw[fnd_neg h]at e;omega
        have e2:=(fnd_pos hsm).1;have e3:(unkL ls).idxOf (s:Int)=(unkL ls).idxOf (unkL ls)[k]:=by rw[hidx];omega
        have e4:=idx_inj hsm hm e3;rw[rd_get _ k hlt]at hu;omega
      by_cases d:fnd (unkL ls) (s:Int)<(k:Int)
      · rw[if_pos d,if_pos (by omega)]
      · rw[if_neg d,if_neg (by omega)]
theorem coL_at(hg:∀x∈ls,Good x)(ax s:Int)(h0:0≤s)(h8:s<8):rd (coL ls ax) s=vAt (coM ls ax) (fnd (unkL ls) s):=by
  obtain⟨m,rfl⟩:=Int.eq_ofNat_of_zero_le h0;unfold coL;rw[coTo_at hg ax m (by omega) _ (Nat.le_refl _),if_pos (fnd_range _ _).2]
theorem vAt_bound(hn:ls.length≤12)(hg:∀x∈ls,Good x)(ax a:Int)(ha:a<((unkL ls).length:Int)):ab (vAt (coM ls ax) a)≤TB:=by
  unfold vAt;by_cases c:0≤a
  · rw[if_pos c];exact co_bound hn hg ax _ (by omega)
  · rw[if_neg c];unfold ab TB;decide
def restV(m den c1 c0:Int):Int:=wrap64 (wrap64 (wrap64 (m*den)-c1)+c0)
theorem rest_eq(hn:ls.length≤12)(hg:∀x∈ls,Good x)(ax:Int){k:Int}(hk:k∈usedL ls):restV (meas ls ax k) (treesM ls) (rd (coL ls ax) (leg ls k).f1) (rd (coL ls ax) (leg ls k).f0)=nT ls ax k:=by
  have hr:=usedL_range ls k hk;obtain⟨m,rfl⟩:=Int.eq_ofNat_of_zero_le hr.1;have hx:=leg_good hg m (by omega);rw[coL_at hg ax _ hx.1.1 hx.1.2,coL_at hg ax _ hx.2.1.1 hx.2.1.2];have b1:=vAt_bound hn hg ax _ (fnd_range (unkL ls) (leg ls (m:Int)).f1).2;have b0:=vAt_bound hn hg ax _ (fnd_range (unkL ls) (leg ls (m:Int)).f0).2;have hm:=RT_meas (ax:=ax) hg hk;have ht:=trees_pos hn hg;have hl:=trees_le hn hg
  have hmul:ab (meas ls ax (m:Int)*treesM ls)≤500*6561:=by
    rw[ab_mul];exact Int.mul_le_mul hm (by unfold ab;omega) (ab_nonneg _) (by decide)
  unfold restV nT dT fa fb;generalize vAt (coM ls ax) (fnd (unkL ls) (leg ls (m:Int)).f1)=x1 at *;generalize vAt (coM ls ax) (fnd (unkL ls) (leg ls (m:Int)).f0)=x0 at *;rw[Int.mul_comm (treesM ls)];generalize meas ls ax (m:Int)*treesM ls=p at *;unfold TB at b1 b0;rw[ab_le]at b1 b0 hmul;rw[w64 (x:=p) (by omega) (by omega),w64 (x:=p-x1) (by omega) (by omega),w64 (x:=p-x1+x0) (by omega) (by omega)];omega
end
end Go.Proofs.YtmgkbhhnchnkcaaDoor.Net
namespace Go.Proofs.YtmgkbhhnchnkcaaDoor.Net
open Go.RowKit YtmgkbhhnchnkcaaDoorW.PrintWords Plain
open Det
section
variable {ls:L}
theorem coL_len(ls:L)(ax:Int):(coL ls ax).length=8:=coTo_len ls ax _
end
end Go.Proofs.YtmgkbhhnchnkcaaDoor.Net
namespace Go.Proofs.YtmgkbhhnchnkcaaDoor.Net
open Go Go.RowKit YtmgkbhhnchnkcaaDoorW.PrintWords YtmgkbhhnchnkcaaDoorW.PrintLast YtmgkbhhnchnkcaaDoorW.PrintMore A Plain
def resM(x:S76)(axis:Int)(cs:List Int)(den:Int):Int:=wrap64 (wrap64 (wrap64 (onM (shift x) axis*den)-rd cs x.f1)+rd cs x.f0)
theorem residualW(A2:Option Addr)(c2:Nat)(cs:List Int)(x:S76)(axis den:Int)(w:World)(hL:Sine.Laid w)(hr2:Kd.C (Kd.int .i64) w A2 cs.length cs)(h8:cs.length=8)(hx:Good x)(h0:0≤axis)(h2:axis≤2):
    Calls Tryd.prog 35 #[.agg #[.int .i64 x.f0,.int .i64 x.f1,.int .i64 x.f2,.int .i64 x.f3,.int .i64 x.f4],.int .i64 axis,.slice A2 cs.length c2,.int .i64 den] w fun e w'=>e= .returned (.int .i64 (resM x axis cs den))∧Below w.heap.size w w':=by
  have HLS:=ak (fun W (hl:Sine.Laid W)=>legShift x W hl hx);have HON:=ak (fun W=>onW (shift x) axis h0 h2 W);obtain⟨⟨a0,a8⟩,⟨d0,d8⟩,had,_⟩:=hx;obtain⟨ad,e1,p0⟩:=Kd.at_int hr2 x.f0 (by omega) (by omega);obtain⟨ad',e2,p1⟩:=Kd.at_int hr2 x.f1 (by omega) (by omega);subst e1;cases e2;have k0:x.f0<(cs.length:Int):=by omega
  have k1:x.f1<(cs.length:Int):=by omega
  unfold resM;obtain⟨sv,hsv⟩:∃sv,sv=onM (shift x) axis:=⟨_,rfl⟩
  rw[←hsv];simp only[←hsv]at HON;have HL:=ak hL;have HB:=ak (below_alloc (Below.refl w.heap.size w) (Obj.cells #[Value.int IntKind.i64 x.f0,Value.int IntKind.i64 x.f1,Value.int IntKind.i64 x.f2,Value.int IntKind.i64 x.f3,Value.int IntKind.i64 x.f4] 76));clear hr2 hL hsv;go_enter Tryd.func35,Tryd.ntmps35;go_wp2;have h0:(w.alloc (Obj.cells #[Value.int IntKind.i64 x.f0,Value.int IntKind.i64 x.f1,Value.int IntKind.i64 x.f2,Value.int IntKind.i64 x.f3,Value.int IntKind.i64 x.f4] 76)).cell? ⟨w.heap.size,0,none⟩=some (.int .i64 x.f0):=by go_simp
  have h1:(w.alloc (Obj.cells #[Value.int IntKind.i64 x.f0,Value.int IntKind.i64 x.f1,Value.int IntKind.i64 x.f2,Value.int IntKind.i64 x.f3,Value.int IntKind.i64 x.f4] 76)).cell? ⟨w.heap.size,1,none⟩=some (.int .i64 x.f1):=by go_simp
  have h2:(w.alloc (Obj.cells #[Value.int IntKind.i64 x.f0,Value.int IntKind.i64 x.f1,Value.int IntKind.i64 x.f2,Value.int IntKind.i64 x.f3,Value.int IntKind.i64 x.f4] 76)).cell? ⟨w.heap.size,2,none⟩=some (.int .i64 x.f2):=by go_simp
  have h3:(w.alloc (Obj.cells #[Value.int IntKind.i64 x.f0,Value.int IntKind.i64 x.f1,Value.int IntKind.i64 x.f2,Value.int IntKind.i64 x.f3,Value.int IntKind.i64 x.f4] 76)).cell? ⟨w.heap.size,3,none⟩=some (.int .i64 x.f3):=by go_simp
  have h4:(w.alloc (Obj.cells #[Value.int IntKind.i64 x.f0,Value.int IntKind.i64 x.f1,Value.int IntKind.i64 x.f2,Value.int IntKind.i64 x.f3,Value.int IntKind.i64 x.f4] 76)).cell? ⟨w.heap.size,4,none⟩=some (.int .i64 x.f4):=by go_simp
  replace p0:=Sine.keepc p0 HB.out;replace p1:=Sine.keepc p1 HB.out;generalize (w.alloc (Obj.cells #[Value.int IntKind.i64 x.f0,Value.int IntKind.i64 x.f1,Value.int IntKind.i64 x.f2,Value.int IntKind.i64 x.f3,Value.int IntKind.i64 x.f4] 76))=W1 at *
  go_region_held3 (fun w'=>w'.cell? ⟨w.heap.size,0,none⟩=some (.int .i64 x.f0)∧w'.cell? ⟨w.heap.size,1,none⟩=some (.int .i64 x.f1)∧w'.cell? ⟨w.heap.size,2,none⟩=some (.int .i64 x.f2)∧w'.cell? ⟨w.heap.size,3,none⟩=some (.int .i64 x.f3)∧w'.cell? ⟨w.heap.size,4,none⟩=some (.int .i64 x.f4)∧w'.cell? (ad.add x.f0.toNat)=some (.int .i64 (rd cs x.f0))∧w'.cell? (ad.add x.f1.toNat)=some (.int .i64 (rd cs x.f1)))
    ((repeat' refine And.intro ?_ ?_)<;>exact Sine.keepc (w:=W1) qz70 qz13)
    (first
      |(go_at_call 58;(with_reducible refine(HLS.out _ ?s1).mono ?_);(case s1=>exact HL.out.keep qz13);rintro e w' ⟨rfl,hw1⟩)
      | (go_at_call 60;(with_reducible refine(HON.out _).mono ?_);rintro e w' ⟨rfl,hw2⟩
         have HB3:Aside0 (Below w.heap.size w w'):=⟨qz13⟩))
  go_wp2;go_ret;exact⟨(by simp[i64_w]),(by repeat(first|exact HB3.out|apply below_drew1))⟩
theorem res_all{ls:L}(hn:ls.length≤12)(hg:∀x∈ls,Good x)(ax:Int){k:Int}(hk:k∈usedL ls):resM (leg ls k) ax (coL ls ax) (treesM ls)=nT ls ax k:=rest_eq hn hg ax hk
end Go.Proofs.YtmgkbhhnchnkcaaDoor.Net
namespace Go.Proofs.YtmgkbhhnchnkcaaDoor.Net
open Go.RowKit YtmgkbhhnchnkcaaDoorW.PrintWords Plain A Frac
def redN(n d:Int):Int:=n.tdiv (Int.gcd n d)
def redD(n d:Int):Int:=d.tdiv (Int.gcd n d)
theorem tdiv_small(n:Int)(g:Nat){B:Int}(h1: -B≤n)(h2:n≤B): -B≤n.tdiv (g:Int)∧n.tdiv (g:Int)≤B:=by
  have h:(n.tdiv (g:Int)).natAbs≤n.natAbs:=by rw[Int.natAbs_tdiv];exact Nat.div_le_self _ _
  omega
theorem wtdiv(n:Int)(g:Nat)(h1: -9000000000000000000≤n)(h2:n≤9000000000000000000):wrap64 (n.tdiv (g:Int))=n.tdiv (g:Int):=by
  have:=tdiv_small n g h1 h2;unfold wrap64;omega
theorem gcd_small{n d:Int}(hd:0<d)(hd2:d≤9000000000000000000):0<Int.gcd n d∧(Int.gcd n d:Int)≤9000000000000000000:=by
  have h1:=Int.gcd_pos_of_ne_zero_right n (show d≠0 by omega);have h2:=Nat.le_of_dvd (show 0<d.natAbs by omega) (Nat.gcd_dvd_right n.natAbs d.natAbs);have h3:Int.gcd n d=Nat.gcd n.natAbs d.natAbs:=rfl;omega
theorem gcd_ev(n d:Int)(hd:0<d)(hd2:d≤9000000000000000000):Ev (fun k=>impl_gcd.f k n d) (Int.gcd n d:Int):=by
  have hs:=gcd_small (n:=n) hd hd2
  obtain⟨z,hz,_,K,hK⟩:=gcd_loop (g:=impl_gcd.l0) (fin:=fun a=>if a<wrap64 (-a)then wrap64 (-a) else a) (fun k a=>by
    unfold impl_gcd.l0;rw[if_pos rfl];unfold impl_absolute.f;rfl) (fun k a b hb=>by
    conv=>lhs;unfold impl_gcd.l0
    rw[if_neg hb]) (d.natAbs+1) n d (by omega)
  refine⟨K,fun k hk=>?_⟩;show impl_gcd.l0 k n d=_;have h:=hK k hk;simp only at h;rw[h]
  congr 1
  have hw:wrap64 (-z)= -z:=by unfold wrap64;omega
  rw[hw];split<;>omega
theorem reduced_ev(n d:Int)(hd:0<d)(hd2:d≤9000000000000000000)(h1: -9000000000000000000≤n)(h2:n≤9000000000000000000):Ev (fun k=>impl_reduced.f k n d) (redN n d,redD n d):=by
  have hs:=gcd_small (n:=n) hd hd2;obtain⟨K,hK⟩:=gcd_ev n d hd hd2;refine⟨K,fun k hk=>?_⟩;show impl_reduced.f k n d=_;unfold impl_reduced.f;have h:=hK k hk;simp only at h;rw[h];show(if((Int.gcd n d:Nat):Int)=0 then _ else _)=_;rw[if_neg (by omega),wtdiv n _ h1 h2,wtdiv d _ (by omega) (by omega)];rfl
theorem l9_loop(n d:Int):∀(m:Nat) (a b:Int),b.natAbs<m→0≤a→0≤b→0<Int.gcd a b→Ev (fun k=>spec_l9Reduce.l0 k n d a b) (wrap64 (n.tdiv (Int.gcd a b)),wrap64 (d.tdiv (Int.gcd a b)))
  |0,a,b,h,_,_,_=>by omega
  | m +1,a,b,h,ha,hb,hg=>by
    by_cases h0:b=0
    · subst h0
      rw[Int.gcd_zero_right]at hg ⊢;refine⟨1,fun k hk=>?_⟩;obtain⟨k,rfl⟩:∃m,k=m+1:=⟨k-1,by omega⟩
      show spec_l9Reduce.l0 (k+1) n d a 0=_;unfold spec_l9Reduce.l0;rw[if_pos rfl,if_neg (by omega),show((a.natAbs:Nat):Int)=a by omega]
    · obtain⟨K,hK⟩:=l9_loop n d m b (Int.tmod a b) (by have:=tmod_lt a b h0;omega) hb (Int.tmod_nonneg b ha) (by rw[gcd_step a b h0];exact hg)
      refine⟨K+1,fun k hk=>?_⟩;obtain⟨k,rfl⟩:∃m,k=m+1:=⟨k-1,by omega⟩
      show spec_l9Reduce.l0 (k+1) n d a b=_
      conv=>lhs;unfold spec_l9Reduce.l0
      rw[if_neg h0];have h:=hK k (by omega);simp only at h;rw[h,gcd_step a b h0]
theorem l9Reduce_ev(n d:Int)(hd:0<d)(hd2:d≤9000000000000000000)(h1: -9000000000000000000≤n)(h2:n≤9000000000000000000):Ev (fun k=>spec_l9Reduce.f k n d) (redN n d,redD n d):=by
  have ha:spec_l1Most.f n (wrap64 (-n))=some (n.natAbs:Int):=by
    have hw:wrap64 (-n)= -n:=by unfold wrap64;omega
    rw[hw];unfold spec_l1Most.f;split<;>(congr 1;omega)
  have hg:Int.gcd (n.natAbs:Int) d=Int.gcd n d:=by unfold Int.gcd;rw[Int.natAbs_natCast]
  have hs:=gcd_small (n:=n) hd hd2;obtain⟨K,hK⟩:=l9_loop n d (d.natAbs+1) (n.natAbs:Int) d (by omega) (by omega) (by omega) (by rw[hg];exact hs.1);refine⟨K,fun k hk=>?_⟩;show spec_l9Reduce.f k n d=_;unfold spec_l9Reduce.f;rw[ha];show spec_l9Reduce.l0 k n d (n.natAbs:Int) d=_;have h:=hK k hk;simp only at h;rw[h,hg,wtdiv n _ h1 h2,wtdiv d _ (by omega) (by omega)];rfl
end Go.Proofs.YtmgkbhhnchnkcaaDoor.Net
namespace Go.Proofs.YtmgkbhhnchnkcaaDoor.Net
open Go.RowKit YtmgkbhhnchnkcaaDoorW.PrintWords YtmgkbhhnchnkcaaDoorW.PrintLast YtmgkbhhnchnkcaaDoorW.PrintMore A Plain
def Gate(ls:L)(b:Bool)(w:World)(e:Ending)(w':World):Prop:=∃g T cA cC,e= .returned (.tuple #[.pointer (some ⟨g,0,none⟩),.bool b])∧St ls.length T g (Pq (RR ls)) (Xq ls (RR ls)) (Bq (RR ls)) (.slice cA (closeL ls).length cC) w'∧Kd.R (Kd.int .i64) 3 w' w.heap.size (fun k=>k≠g∧k≠T) (.slice cA (closeL ls).length cC) (closeL ls)∧Below w.heap.size w w'
theorem placedLeg(A:Option Addr)(c:Nat)(ls:L)(i:Int)(w:World)(hL:Sine.Laid w)(hr0:Kd.C k76 w A ls.length ls)(hc:ls.length≤c)(hv:legsB ls=true)(h0:0≤i)(h1:i<ls.length):
    Calls Tryd.prog 37 #[.slice A ls.length c,.int .i64 i] w (Gate ls (Pq (RR ls) (leg ls i).f0.toNat) w):=by
  have hv':=legsB_iff.mp hv;have hn:=hv'.2;obtain⟨K,hK⟩:=areLegs_ev ls (by omega);have HA:=ak (hK K (Nat.le_refl _));rw[hv]at HA;have HW:Aside0 (impl_within.f i 0 ((ls.length:Int)-1)=some true):=⟨(by rw[within_eq,decide_eq_true (by omega)])⟩;obtain⟨k,rfl⟩:=Int.eq_ofNat_of_zero_le h0;have hg:=leg_good hv'.1 k (by omega);obtain⟨a,ha⟩:=Int.eq_ofNat_of_zero_le hg.1.1;have ha8:(a:Int)<8:=by have:=hg.1.2;omega
  rw[ha,Int.toNat_natCast];obtain⟨_,e2,h2,_⟩:=at_T76 hr0 (k:Int) h0 h1;cases e2;rw[Int.toNat_natCast,show rd_T76 ls (k:Int)=leg ls k from rfl,ha]at h2;have H2:=ak h2;have HG:=ak hv'.1;have HR:=ak hr0;have HL:=ak hL;have HB:=ak (Below.refl w.heap.size w);clear hK hr0 hL hv hv' hg ha h2;go_enter Tryd.func37,Tryd.ntmps37
  go_wp2_with (first
    |(go_at_call 22;(with_reducible refine(impl_areLegs.calls K _ _ ls true _ ?s1 ?s2 HA.out).mono ?_);(case s1=>exact Kd.C_below HR.out qz7);(case s2=>exact hc);rintro e w' ⟨rfl,hw⟩;replace HB:=ak (below_step (show Below w.heap.size w _ from by(repeat(first|exact HB.out|exact Below.refl _ _|apply below_alloc|apply pw_below_drewN|apply below_drew1));done) hw);clear hw)
    |(go_at_call 31;(with_reducible refine(impl_within.calls _ _ _ _ _ HW.out).mono ?_);rintro e w' ⟨rfl,⟨nd,rfl⟩⟩;replace HB:=ak (pw_below_drewN HB.out nd))
    |((go_at_call 29;(with_reducible refine(place _ c ls _ ?s1 ?s2 hc hn HG.out (RR ls) rfl).mono ?_);(case s1=>exact HL.out.keep qz7);(case s2=>exact Kd.C_below HR.out qz7);rintro e w' ⟨g,T,cl,rfl,hst,ho,hw⟩;have HO:Aside0 (Kd.R (Kd.int .i64) 3 w' w.heap.size (fun k=>k≠g∧k≠T) cl (closeL ls)):=⟨Kd.R_lower ho (below_size (show Below w.heap.size w _ from by(repeat(first|exact HB.out|exact Below.refl _ _|apply below_alloc|apply pw_below_drewN|apply below_drew1));done))⟩;replace HB:=ak (below_step (show Below w.heap.size w _ from by(repeat(first|exact HB.out|exact Below.refl _ _|apply below_alloc|apply pw_below_drewN|apply below_drew1));done) hw);have HS:=ak hst;clear hst ho hw;obtain⟨cA,cC,ecl⟩:=Kd.R_slice HO.out;subst ecl);have h2:=Sine.keepc H2.out HB.out;have pa:=HS.out.pb a (by omega)))
  go_quiet (fail)
  go_wp2
  go_ret2
  exact⟨g,T,cA,cC,rfl,HS.out.keep (pw_below_drewN (Below.refl _ _) _),Kd.R_drewN HO.out _,pw_below_drewN HB.out _⟩
theorem placedLeg_no(A:Option Addr)(c:Nat)(ls:L)(i:Int)(w:World)(hr0:Kd.C k76 w A ls.length ls)(hc:ls.length≤c)(hb:ls.length≤140737488351232)(hv:legsB ls=true→¬(0≤i∧i<ls.length)):
    Calls Tryd.prog 37 #[.slice A ls.length c,.int .i64 i] w fun e w'=>e= .returned (.tuple #[.pointer none,.bool false])∧Below w.heap.size w w':=by
  obtain⟨K,hK⟩:=areLegs_ev ls hb;have HA:=ak (hK K (Nat.le_refl _));have HR:=ak hr0;have HB:=ak (Below.refl w.heap.size w);clear hK hr0;cases hq:legsB ls
  · rw[hq]at HA
    clear hq hv;go_enter Tryd.func37,Tryd.ntmps37;go_wp2_with (go_at_call 22;(with_reducible refine(impl_areLegs.calls K _ _ ls false _ ?s1 ?s2 HA.out).mono ?_);(case s1=>exact Kd.C_below HR.out qz7);(case s2=>exact hc);rintro e w' ⟨rfl,hw⟩;replace HB:=ak (below_step (show Below w.heap.size w _ from by(repeat(first|exact HB.out|exact Below.refl _ _|apply below_alloc|apply pw_below_drewN|apply below_drew1));done) hw);clear hw)
    go_ret2
    exact⟨rfl,HB.out⟩
  · rw[hq]at HA
    have hv2:=hv hq;have HW:Aside0 (impl_within.f i 0 ((ls.length:Int)-1)=some false):=⟨(by rw[within_eq,decide_eq_false (by omega)])⟩;clear hq hv;go_enter Tryd.func37,Tryd.ntmps37
    go_wp2_with (first
      |(go_at_call 22;(with_reducible refine(impl_areLegs.calls K _ _ ls true _ ?s1 ?s2 HA.out).mono ?_);(case s1=>exact Kd.C_below HR.out qz7);(case s2=>exact hc);rintro e w' ⟨rfl,hw⟩;replace HB:=ak (below_step (show Below w.heap.size w _ from by(repeat(first|exact HB.out|exact Below.refl _ _|apply below_alloc|apply pw_below_drewN|apply below_drew1));done) hw);clear hw)
      |(go_at_call 31;(with_reducible refine(impl_within.calls _ _ _ _ _ HW.out).mono ?_);rintro e w' ⟨rfl,⟨nd,rfl⟩⟩;replace HB:=ak (pw_below_drewN HB.out nd)))
    go_ret2
    exact⟨rfl,HB.out⟩
end Go.Proofs.YtmgkbhhnchnkcaaDoor.Net
namespace Go.Proofs.YtmgkbhhnchnkcaaDoor.A
open Go Go.RowKit YtmgkbhhnchnkcaaDoorW.PrintWords YtmgkbhhnchnkcaaDoorW.PrintLast YtmgkbhhnchnkcaaDoorW.PrintMore
open Net (L leg Pq RR Good leg_mem Sine.Laid legsB legsB_iff areLegs_ev treesM coL nT resM usedL adjustW coordinatesW residualW AdjPost placedLeg placedLeg_no redN redD reduced_ev mem_selTo)
def resOfM(ls:L)(ax i:Int):Int×Int×Bool:=if legsB ls=true∧(0≤ax∧ax≤2)∧i∈usedL ls then(redN (nT ls ax i) (treesM ls),redD (nT ls ax i) (treesM ls),true) else(0,0,false)
theorem usedL_mem(ls:L)(k:Nat)(hk:k<ls.length):((k:Int)∈usedL ls)↔Pq (RR ls) (leg ls (k:Int)).f0.toNat=true:=by
  constructor
  · intro h
    obtain⟨q,e,_,hp⟩:=(mem_selTo _ _ _).mp h;have:q=k:=by omega
    subst this;exact hp
  · exact fun h=>(mem_selTo _ _ _).mpr ⟨k,rfl,hk,h⟩
def impl_ResidualOf.f(l0:List (S76))(a1 a2:Int):Option (Int×Int×Bool):=if l0.length≤140737488351232 then some (resOfM l0 a1 a2) else none
theorem impl_ResidualOf.calls(A0:Option Addr)(c0:Nat)(l0:List (S76))(a1:Int)(a2:Int)(r1:Int)(r2:Int)(r3:Bool)(w:World)(hr0:Kd.C k76 w A0 l0.length l0)(hc0:l0.length≤c0)(h:impl_ResidualOf.f l0 a1 a2=some (r1,r2,r3))(hL:Sine.Laid w):
    Calls Tryd.prog 15 #[.slice A0 l0.length c0,.int .i64 a1,.int .i64 a2] w fun e w'=>e= .returned (.tuple #[.int .i64 r1,.int .i64 r2,.bool r3])∧Below w.heap.size w w':=by
  unfold impl_ResidualOf.f at h;by_cases hb:l0.length≤140737488351232;(case neg=>rw[if_neg hb]at h;cases h);rw[if_pos hb]at h;have HR:=ak hr0;have HL:=ak hL;have HB:=ak (Below.refl w.heap.size w);have HAX:Aside0 (impl_isAxis.f a1=some (decide (0≤a1∧a1≤2))):=⟨(by unfold impl_isAxis.f;rw[Net.within_eq];rfl)⟩;clear hr0 hL;unfold resOfM at h;by_cases hin:legsB l0=true∧(0≤a2∧a2<l0.length)
  case neg=>
    have hno:legsB l0=true→¬(0≤a2∧a2<l0.length):=fun e f=>hin ⟨e,f⟩
    rw[if_neg (fun e=>hin ⟨e.1,Net.usedL_range l0 _ e.2.2⟩)]at h;simp only[Option.some.injEq,Prod.mk.injEq]at h;obtain⟨rfl,rfl,rfl⟩:=h;clear hin;go_enter Tryd.func15,Tryd.ntmps15;go_wp2_with (go_at_call 37;(with_reducible refine(placedLeg_no A0 c0 l0 a2 _ ?s1 hc0 hb hno).mono ?_);(case s1=>exact Kd.C_below HR.out qz7);rintro e w' ⟨rfl,hw⟩;replace HB:=ak (below_step (show Below w.heap.size w _ from by(repeat(first|exact HB.out|exact Below.refl _ _|apply below_alloc|apply pw_below_drewN|apply below_drew1));done) hw);clear hw);exact bodyPost_ret (v:= .tuple #[.int .i64 0,.int .i64 0,.bool false]) qz84 rfl ⟨rfl,HB.out⟩
  obtain⟨hv,h0,h1⟩:=hin;obtain⟨k,rfl⟩:=Int.eq_ofNat_of_zero_le h0;have hk:k<l0.length:=by omega
  have hmem:=usedL_mem l0 k hk;by_cases hp:Pq (RR l0) (leg l0 (k:Int)).f0.toNat=true
  case neg=>
    have hpq:Pq (RR l0) (leg l0 (k:Int)).f0.toNat=false:=by simpa using hp
    rw[if_neg (fun e=>hp (hmem.mp e.2.2))]at h;simp only[Option.some.injEq,Prod.mk.injEq]at h;obtain⟨rfl,rfl,rfl⟩:=h;go_enter Tryd.func15,Tryd.ntmps15;go_wp2_with (go_at_call 37;(with_reducible refine(placedLeg _ c0 l0 (k:Int) _ ?s0 ?s1 hc0 hv h0 h1).mono ?_);(case s0=>exact HL.out.keep qz7);(case s1=>exact Kd.C_below HR.out qz7);rintro e w' ⟨g,T,cA,cC,rfl,_,_,hw⟩;rw[hpq];replace HB:=ak (below_step (show Below w.heap.size w _ from by(repeat(first|exact HB.out|exact Below.refl _ _|apply below_alloc|apply pw_below_drewN|apply below_drew1));done) hw);clear hw);exact bodyPost_ret (v:= .tuple #[.int .i64 0,.int .i64 0,.bool false]) qz84 rfl ⟨rfl,HB.out⟩
  have hpq:=hp;by_cases hx:0≤a1∧a1≤2
  case neg=>
    rw[if_neg (fun e=>hx e.2.1)]at h;simp only[Option.some.injEq,Prod.mk.injEq]at h;obtain⟨rfl,rfl,rfl⟩:=h;rw[decide_eq_false hx]at HAX;go_enter Tryd.func15,Tryd.ntmps15
    go_wp2_with (first
      |(go_at_call 37;(with_reducible refine(placedLeg _ c0 l0 (k:Int) _ ?s0 ?s1 hc0 hv h0 h1).mono ?_);(case s0=>exact HL.out.keep qz7);(case s1=>exact Kd.C_below HR.out qz7);rintro e w' ⟨g,T,cA,cC,rfl,_,_,hw⟩;rw[hpq];replace HB:=ak (below_step (show Below w.heap.size w _ from by(repeat(first|exact HB.out|exact Below.refl _ _|apply below_alloc|apply pw_below_drewN|apply below_drew1));done) hw);clear hw)
      |(go_at_call 23;(with_reducible refine(impl_isAxis.calls _ _ _ HAX.out).mono ?_);rintro e w' ⟨rfl,⟨nd,rfl⟩⟩;replace HB:=ak (pw_below_drewN HB.out nd)))
    exact bodyPost_ret (v:= .tuple #[.int .i64 0,.int .i64 0,.bool false]) qz84 rfl ⟨rfl,HB.out⟩
  rw[if_pos ⟨hv,hx,hmem.mpr hp⟩]at h;simp only[Option.some.injEq,Prod.mk.injEq]at h;obtain⟨rfl,rfl,rfl⟩:=h;rw[decide_eq_true hx]at HAX;have hv':=legsB_iff.mp hv;have HG:=ak hv'.1;have hn:=hv'.2;have x0:=hx.1;have x2:=hx.2
  have HQ:Aside0 (∀cA cC W,Sine.Laid W→Kd.C (Kd.int .i64) W cA (coL l0 a1).length (coL l0 a1)→Calls Tryd.prog 35 #[.agg #[.int .i64 (leg l0 k).f0,.int .i64 (leg l0 k).f1,.int .i64 (leg l0 k).f2,.int .i64 (leg l0 k).f3,.int .i64 (leg l0 k).f4],.int .i64 a1,.slice cA (coL l0 a1).length cC,.int .i64 (treesM l0)] W fun e w'=>e= .returned (.int .i64 (nT l0 a1 k))∧Below W.heap.size W w'):=⟨fun cA cC W hl hc=>by
    have hq:=residualW cA cC (coL l0 a1) (leg l0 k) a1 (treesM l0) W hl hc (Net.coL_len l0 a1) (HG.out _ (leg_mem hk)) x0 x2
    rw[Net.res_all hn HG.out a1 (hmem.mpr hp)]at hq;exact hq⟩
  have HRD:Aside0 (∀W,Calls Tryd.prog 38 #[.int .i64 (nT l0 a1 k),.int .i64 (treesM l0)] W fun e w'=>e= .returned (.tuple #[.int .i64 (redN (nT l0 a1 k) (treesM l0)),.int .i64 (redD (nT l0 a1 k) (treesM l0))])∧Below W.heap.size W w'):=⟨fun W=>by
    have ht1:=Net.trees_pos hn HG.out;have ht2:=Net.trees_le hn HG.out;have hs:=Net.nT_bound hn HG.out a1 (hmem.mpr hp);rw[Det.ab_le]at hs;obtain⟨K,hK⟩:=reduced_ev (nT l0 a1 k) (treesM l0) (by omega) (by omega) (by omega) (by omega)
    exact impl_reduced.calls K _ _ _ _ W (hK K (Nat.le_refl _))⟩
  obtain⟨al,e2,g0,g1,g2,g3,g4⟩:=at_T76 HR.out (k:Int) h0 h1;subst e2;have ek:rd_T76 l0 (k:Int)=leg l0 k:=rfl;rw[Int.toNat_natCast]at g0 g1 g2 g3 g4;rw[ek]at g0 g1 g2 g3 g4;clear ek hv' hx hmem hp;generalize nT l0 a1 k=nv at *;go_enter Tryd.func15,Tryd.ntmps15
  go_wp2_with (first
    |(go_at_call 37;(with_reducible refine(placedLeg _ c0 l0 (k:Int) _ ?s0 ?s1 hc0 hv h0 h1).mono ?_);(case s0=>exact HL.out.keep qz7);(case s1=>exact Kd.C_below HR.out qz7);rintro e w' ⟨g,T,cA,cC,rfl,_,_,hw⟩;rw[hpq];replace HB:=ak (below_step (show Below w.heap.size w _ from by(repeat(first|exact HB.out|exact Below.refl _ _|apply below_alloc|apply pw_below_drewN|apply below_drew1));done) hw);clear hw)
    |(go_at_call 23;(with_reducible refine(impl_isAxis.calls _ _ _ HAX.out).mono ?_);rintro e w' ⟨rfl,⟨nd,rfl⟩⟩;replace HB:=ak (pw_below_drewN HB.out nd))
    |(go_at_call 24;(with_reducible refine(adjustW _ c0 l0 _ ?s1 ?s2 hc0 hn HG.out).mono ?_);(case s1=>exact HL.out.keep HB.out);(case s2=>exact Kd.C_below HR.out HB.out);rintro e w2 ⟨ba,uA,pA,uc,pc,rfl,hadj,ht,hba,hw⟩;replace HB:=ak (below_step HB.out hw);have HJ:=ak hadj;clear hadj hw))
  replace g0:=Net.Sine.keepc g0 HB.out;replace g1:=Net.Sine.keepc g1 HB.out;replace g2:=Net.Sine.keepc g2 HB.out;replace g3:=Net.Sine.keepc g3 HB.out;replace g4:=Net.Sine.keepc g4 HB.out;generalize leg l0 k=x at *
  go_region_held3 (fun w'=>w'.cell? ⟨ba,4,none⟩=some (.int .i64 (treesM l0))∧w'.cell? (al.add (k*5))=some (.int .i64 x.f0)∧w'.cell? {block:=(al.add (k*5)).block,off:=(al.add (k*5)).off+1}=some (.int .i64 x.f1)∧w'.cell? {block:=(al.add (k*5)).block,off:=(al.add (k*5)).off+2}=some (.int .i64 x.f2)∧w'.cell? {block:=(al.add (k*5)).block,off:=(al.add (k*5)).off+3}=some (.int .i64 x.f3)∧w'.cell? {block:=(al.add (k*5)).block,off:=(al.add (k*5)).off+4}=some (.int .i64 x.f4))
    ((repeat' refine And.intro ?_ ?_)<;>first|assumption|exact Net.Sine.keepc (w:=w2) qz70 (by first|assumption|((repeat(first|exact Below.refl _ _|apply pw_below_drewN|apply below_drew1|exact HB.out|refine below_step ?_ qz70));done)))
    (first
      | (go_at_call 25;(with_reducible refine(coordinatesW ba (some al) uA pA c0 uc pc l0 a1 _ ?s1 ?s2 hn HG.out x0 x2).mono ?_);(case s1=>exact HL.out.keep (below_step HB.out (show Below w2.heap.size w2 _ from by(repeat(first|exact Below.refl _ _|apply pw_below_drewN|apply below_drew1|exact HB.out|refine below_step ?_ qz70));done)));(case s2=>exact HJ.out.keep qz13);rintro e w3 ⟨v,rfl,hv3,hw3⟩
         have hB3:Below w2.heap.size w2 w3:=by(repeat(first|exact Below.refl _ _|apply pw_below_drewN|apply below_drew1|exact HB.out|refine below_step ?_ qz70));done
         have HB3:=ak (below_step HB.out hB3);have HV:=ak hv3;clear hv3 hw3;obtain⟨cA2,cC2,ec⟩:=Kd.R_slice HV.out
         subst ec)
      | (go_at_call 35;(with_reducible refine(HQ.out cA2 cC2 _ ?s1 ?s2).mono ?_);(case s1=>exact HL.out.keep HB3.out);(case s2=>exact(Kd.R_reads' HV.out).2.2);rintro e w4 ⟨rfl,hw4⟩
         have hB4:Below w2.heap.size w2 w4:=below_step hB3 hw4
         clear hw4)
      | (go_at_call 38;(with_reducible refine(HRD.out _).mono ?_);rintro e w5 ⟨rfl,hw5⟩
         have hB5:Below w2.heap.size w2 w5:=below_step hB4 hw5;have HB5:=ak (below_step HB.out hB5)
         clear hw5))
  go_wp2;exact bodyPost_ret (v:= .tuple #[.int .i64 (redN nv (treesM l0)),.int .i64 (redD nv (treesM l0)),.bool true]) qz84 rfl ⟨rfl,HB5.out⟩
end Go.Proofs.YtmgkbhhnchnkcaaDoor.A
namespace Go.Proofs.YtmgkbhhnchnkcaaDoor.Net
open Go.RowKit YtmgkbhhnchnkcaaDoorW.PrintWords YtmgkbhhnchnkcaaDoorW.PrintLast YtmgkbhhnchnkcaaDoorW.PrintMore A Plain
open Tree (verts legs W)
open Dfs (dfs try_)
open Grow (Q sweep grow)
theorem rd_at(l:List Int)(i:Nat)(h:i<l.length):rd l (i:Int)=l[i]:=by
  unfold rd;rw[Int.toNat_natCast,List.getD_eq_getElem?_getD,List.getElem?_eq_getElem h];rfl
section
variable (ls:L) (hg:∀x∈ls,Good x) (tree:List Int) (ht:∀i∈tree,0≤i∧i<(ls.length:Int)) (hl:tree.length≤1000) (dst:Int)
include hg ht hl
end
theorem mem_closeTo (ls:L) (q:Q):∀(n:Nat) (i:Int),i∈closeTo ls q n↔∃k:Nat,i=k∧k<n∧Pq q (leg ls k).f0.toNat=true∧Bq q k=false
  |0,i=>by simp[closeTo]
  | n + 1,i=>by
    have ih:=mem_closeTo ls q n i;unfold closeTo;split
    · rename_i c
      rw[List.mem_append,ih,List.mem_singleton]
      constructor
      · rintro(⟨k,h1,h2,h3⟩|rfl)
        · exact⟨k,h1,by omega,h3⟩
        · exact⟨n,rfl,by omega,c⟩
      · rintro⟨k,h1,h2,h3⟩
        by_cases e:k=n
        · exact Or.inr (by rw[h1,e])
        · exact Or.inl ⟨k,h1,by omega,h3⟩
    · rename_i c
      rw[ih]
      constructor
      · rintro⟨k,h1,h2,h3⟩
        exact⟨k,h1,by omega,h3⟩
      · rintro⟨k,h1,h2,h3⟩
        by_cases e:k=n
        · exact absurd (e▸h3) c
        · exact⟨k,h1,by omega,h3⟩
theorem mem_closeL{ls:L}(hg:∀x∈ls,Good x){i:Int}(h:i∈closeL ls):0≤i∧i<(ls.length:Int)∧(ends ls i).1∈verts 0 (RR ls)∧(ends ls i).2∈verts 0 (RR ls)∧i∉legs (RR ls):=by
  obtain⟨k,rfl,h1,h2,h3⟩:=(mem_closeTo ls (RR ls) ls.length i).mp h;have hk:=(leg_good hg k h1).1.1
  have hv:(ends ls k).1∈verts 0 (RR ls):=by
    have:=of_decide_eq_true h2
    rwa [Int.toNat_of_nonneg hk]at this
  exact⟨by omega,by omega,hv,((RR_ok hg).2 k (by omega) (by omega)).mp hv,of_decide_eq_false h3⟩
end Go.Proofs.YtmgkbhhnchnkcaaDoor.Net
namespace Go.Proofs.YtmgkbhhnchnkcaaDoor.Net
open Go.RowKit YtmgkbhhnchnkcaaDoorW.PrintWords YtmgkbhhnchnkcaaDoorW.PrintLast YtmgkbhhnchnkcaaDoorW.PrintMore A Plain
open Tree (verts legs W)
open Grow (Q sweep grow)
end Go.Proofs.YtmgkbhhnchnkcaaDoor.Net
namespace Go.Proofs.YtmgkbhhnchnkcaaDoor.Net
open Go Go.RowKit YtmgkbhhnchnkcaaDoorW.PrintWords YtmgkbhhnchnkcaaDoorW.PrintLast YtmgkbhhnchnkcaaDoorW.PrintMore A Plain
def badB(x:Int):Bool:=!decide (-100000000≤x∧x≤100000000)
theorem balUse(x:Int)(w:World):Calls Tryd.prog 33 #[.int .i64 x] w fun e w'=>e= .returned (.bool (badB x))∧Below w.heap.size w w':=by
  have HB:=ak (Below.refl w.heap.size w);have HW:Aside0 (impl_within.f x (-100000000) 100000000=some (decide (-100000000≤x∧x≤100000000))):=⟨within_eq _ _ _⟩;unfold badB;go_enter Tryd.func33,Tryd.ntmps33;go_wp2_with (go_at_call 31;(with_reducible refine(impl_within.calls _ _ _ _ _ HW.out).mono ?_);rintro e w' ⟨rfl,⟨nd,rfl⟩⟩;replace HB:=ak (pw_below_drewN HB.out nd));go_ret;exact⟨by simp,HB.out⟩
theorem indexBal (A2:Option Addr) (c2:Nat) (cs:List Int) (w:World) (hr2:Kd.C (Kd.int .i64) w A2 cs.length cs) (h8:cs.length=8):
    Calls Tryd.prog 59 #[.slice A2 cs.length c2,.func (Fn.func 33) #[] #[]] w fun e w'=>∃r,e= .returned (.int .i64 r)∧decide (r≥0)=cs.any badB∧Below w.heap.size w w':=by
  have HR:=ak hr2;have H8:=ak h8;have HB:=ak (Below.refl w.heap.size w)
  have HAny:Aside0 (∀j,j<cs.length→badB (cs.getD j 0)=true→cs.any badB=true):=⟨fun j hj h=>by
    rw[List.getD_eq_getElem?_getD,List.getElem?_eq_getElem hj]at h
    exact List.any_eq_true.mpr ⟨_,List.getElem_mem hj,h⟩⟩
  have HNo:Aside0 ((∀i,i<cs.length→badB (cs.getD i 0)=false)→cs.any badB=false):=⟨fun h=>by
    rw[List.any_eq_false];intro x hx;obtain⟨j,hj,rfl⟩:=List.getElem_of_mem hx;have:=h j hj;rw[List.getD_eq_getElem?_getD,List.getElem?_eq_getElem hj]at this
    simpa using this⟩
  clear hr2 h8;go_enter Tryd.func59,Tryd.ntmps59;go_wp2
  go_loopw [8] (fun v8 w'=>∃(j:Nat),j≤cs.length∧v8= .int .i64 j∧Aside0 (∀i,i<j→badB (cs.getD i 0)=false)∧Aside0 (Below w.heap.size w w')) (fun v8 _=>cs.length-(intOf v8).toNat)
  case atStart=>exact⟨0,Nat.zero_le _,rfl,⟨fun i hi=>by omega⟩,HB⟩
  case round=>
    obtain⟨j,hj,rfl,HI,HB2⟩:=hrel;clear HB;have HB:=HB2;clear HB2;by_cases hlt:j<cs.length
    · have hcl:cs.length<100:=by have:=H8.out;omega
      obtain⟨ad,e1,h1⟩:=Kd.at_int (Kd.C_below HR.out HB.out) (j:Int) (by omega) (by omega);subst e1;rw[rd_at _ j hlt,Int.toNat_natCast]at h1;have hgd:cs.getD j 0=cs[j]:=by rw[List.getD_eq_getElem?_getD,List.getElem?_eq_getElem hlt];rfl
      rw[←hgd]at h1;have HA:=ak (HAny.out j hlt);clear hgd;generalize hx:cs.getD j 0=x at *;have HX:=ak hx;clear hx;cases hq:badB x
      · go_wp2_with (go_at_call 33;have hq2:=balUse x wr;(with_reducible refine hq2.mono ?_);clear hq2;rw[hq];rintro e w' ⟨rfl,hw⟩;replace HB:=ak (below_step HB.out hw);clear hw)
        exact⟨⟨j+1,hlt,by go_num,⟨fun i hi=>by
          by_cases c:i=j
          · rw[c,HX.out];exact hq
          · exact HI.out i (by omega)⟩,HB⟩,by simp[intOf];omega⟩
      · go_wp2_with (go_at_call 33;have hq2:=balUse x wr;(with_reducible refine hq2.mono ?_);clear hq2;rw[hq];rintro e w' ⟨rfl,hw⟩;replace HB:=ak (below_step HB.out hw);clear hw)
        go_ret;exact⟨(j:Int),rfl,(by rw[HA.out hq];exact decide_eq_true (by omega)),HB.out⟩
    · have hno:=HNo.out (fun i hi=>HI.out i (by omega))
      go_wp2;go_ret;exact⟨-1,rfl,(by rw[hno];rfl),HB.out⟩
theorem containsBal(A2:Option Addr)(c2:Nat)(cs:List Int)(w:World)(hr2:Kd.C (Kd.int .i64) w A2 cs.length cs)(h8:cs.length=8):
    Calls Tryd.prog 32 #[.slice A2 cs.length c2,.func (Fn.func 33) #[] #[]] w fun e w'=>e= .returned (.bool (cs.any badB))∧Below w.heap.size w w':=by
  have HR:=ak hr2;have H8:=ak h8;have HB:=ak (Below.refl w.heap.size w);clear hr2 h8;go_enter Tryd.func32,Tryd.ntmps32;go_wp2_with (go_at_call 59;(with_reducible refine(indexBal A2 c2 cs _ ?s1 H8.out).mono ?_);(case s1=>exact Kd.C_below HR.out qz7);rintro e w' ⟨r,rfl,hr,hw⟩;replace HB:=ak (below_step (show Below w.heap.size w _ from by(repeat(first|exact HB.out|exact Below.refl _ _|apply below_alloc|apply pw_below_drewN|apply below_drew1));done) hw);clear hw);go_ret;exact⟨(by rw[←hr];rfl),HB.out⟩
end Go.Proofs.YtmgkbhhnchnkcaaDoor.Net
namespace Go.Proofs.YtmgkbhhnchnkcaaDoor.Net
open Go.RowKit YtmgkbhhnchnkcaaDoorW.PrintWords YtmgkbhhnchnkcaaDoorW.PrintLast YtmgkbhhnchnkcaaDoorW.PrintMore A Plain
theorem in_eq(x a b:Int):spec_l1In.f x a b=some (decide (a≤x∧x≤b)):=by
  unfold spec_l1In.f;by_cases h:a≤x
  · rw[if_pos h];congr 1;rw[decide_eq_decide];omega
  · rw[if_neg h,decide_eq_false (fun c=>h c.1)]
theorem restB_eq(x:S76)(h:Good x)(axis:Int)(h0:0≤axis)(h2:axis≤2)(cs:List Int)(h8:cs.length=8)(den:Int):spec_l9Rest.f x.f0 x.f1 x.f2 x.f3 x.f4 axis cs den=some (resM x axis cs den):=by
  unfold spec_l9Rest.f;rw[measure_eq x h axis h0 h2,Option.bind_some];obtain⟨⟨a0,a8⟩,⟨d0,d8⟩,_⟩:=h;rw[if_pos (by omega),if_pos (by omega),if_pos (by omega),if_pos (by omega)];rfl
def stepS(ls:L)(axis:Int)(cs:List Int)(den:Int)(acc:List Int)(i:Int):List Int:=
  let y:=acc.set (leg ls i).f1.toNat (wrap64 (rd acc (leg ls i).f1+resM (leg ls i) axis cs den))
  y.set (leg ls i).f0.toNat (wrap64 (rd y (leg ls i).f0-resM (leg ls i) axis cs den))
def sumS(ls:L)(axis:Int)(cs:List Int)(den:Int)(l:List Int):List Int:=l.foldl (stepS ls axis cs den) (List.replicate 8 0)
theorem stepS_len(ls:L)(axis:Int)(cs:List Int)(den:Int)(acc:List Int)(i:Int):(stepS ls axis cs den acc i).length=acc.length:=by
  unfold stepS;simp
theorem sumS_len(ls:L)(axis:Int)(cs:List Int)(den:Int)(l:List Int):(sumS ls axis cs den l).length=8:=by
  unfold sumS
  have h:∀(l:List Int) (acc:List Int),(l.foldl (stepS ls axis cs den) acc).length=acc.length:=by
    intro l
    induction l with
    |nil=>intro acc;rfl
    |cons i l ih=>intro acc;rw[List.foldl_cons,ih,stepS_len]
  rw[h];rfl
theorem sumS_snoc(ls:L)(axis:Int)(cs:List Int)(den:Int)(l:List Int)(i:Int):sumS ls axis cs den (l++[i])=stepS ls axis cs den (sumS ls axis cs den l) i:=by
  unfold sumS;rw[List.foldl_append];rfl
theorem zeros_loop(acc:List Int)(h8:acc.length=8):∀(d j:Nat),j+d=acc.length→Ev (fun k=>spec_IsBalanced.l2 k acc (j:Int)) ((acc.drop j).all (· ==0),true):=by
  intro d
  induction d with
  | zero=>
    intro j hj;rw[List.drop_eq_nil_of_le (by omega)];refine Ev.step (f:=fun _=>some (true,true)) (fun k=>?_) (Ev.now _);simp only[spec_IsBalanced.l2];rw[if_neg (by omega)]
  | succ d ih=>
    intro j hj;have hlt:j<acc.length:=by omega
    have h:=ih (j+1) (by omega);have er:=rd_at acc j hlt;rw[List.drop_eq_getElem_cons hlt,List.all_cons];by_cases c:acc[j]=0
    · rw[c,show((0:Int)==0)=true from rfl,Bool.true_and]
      refine Ev.step (fun k=>?_) h;simp only[spec_IsBalanced.l2];rw[if_pos (by omega),if_pos (by omega),er,if_pos c,w64 (by omega) (by omega)];rfl
    · rw[show(acc[j]==0)=false from by simpa using c,Bool.false_and]
      refine Ev.step (f:=fun _=>some (false,true)) (fun k=>?_) (Ev.now _);simp only[spec_IsBalanced.l2];rw[if_pos (by omega),if_pos (by omega),er,if_neg c]
theorem sums_loop{ls:L}(hg:∀x∈ls,Good x)(axis:Int)(h0:0≤axis)(h2:axis≤2)(cs:List Int)(h8:cs.length=8)(den:Int)(pl:List Int)(hp:pl.length≤100)(hm:∀i∈pl,0≤i∧i<(ls.length:Int)):∀(d j:Nat),j+d=pl.length →
    Ev (fun k=>spec_IsBalanced.l1 k ls axis cs den (sumS ls axis cs den (pl.take j)) pl (j:Int)) ((sumS ls axis cs den pl).all (· ==0),true):=by
  intro d
  induction d with
  | zero=>
    intro j hj;have hz:=zeros_loop (sumS ls axis cs den pl) (sumS_len _ _ _ _ _) 8 0 (by rw[sumS_len]);rw[List.drop_zero]at hz;rw[List.take_of_length_le (by omega)];refine Ev.step (fun k=>?_) hz;simp only[spec_IsBalanced.l1];rw[if_neg (by omega)];rfl
  | succ d ih=>
    intro j hj;have hlt:j<pl.length:=by omega
    have h:=ih (j+1) (by omega);have er:=rd_at pl j hlt;have hi:=hm _ (List.getElem_mem hlt);rw[List.take_succ_eq_append_getElem hlt,sumS_snoc]at h;obtain⟨i,hie⟩:=Int.eq_ofNat_of_zero_le hi.1;rw[hie]at er hi h;have hgi:=leg_good hg i (by omega);have hre:=restB_eq _ hgi axis h0 h2 cs h8 den;have hlen:=sumS_len ls axis cs den (pl.take j);have hrd:rd_T76 ls (i:Int)=leg ls i:=rfl;have hst:∀acc,stepS ls axis cs den acc (i:Int)=(acc.set (leg ls i).f1.toNat (wrap64 (rd acc (leg ls i).f1+resM (leg ls i) axis cs den))).set (leg ls i).f0.toNat (wrap64 (rd (acc.set (leg ls i).f1.toNat (wrap64 (rd acc (leg ls i).f1+resM (leg ls i) axis cs den))) (leg ls i).f0-resM (leg ls i) axis cs den)):=fun acc=>rfl
    rw[hst]at h;obtain⟨⟨a0,a8⟩,⟨d0,d8⟩,_⟩:=hgi;generalize resM (leg ls i) axis cs den=rr at *;generalize leg ls (i:Int)=x at *;generalize sumS ls axis cs den (pl.take j)=acc at *;refine Ev.step (fun k=>?_) h;simp only[spec_IsBalanced.l1];rw[if_pos (by omega),if_pos (by omega),er,if_pos hi.1,if_pos hi.2,hrd,hre,Option.bind_some,if_pos d0,if_pos (by omega),Option.bind_some,if_pos a0,if_pos (by omega),w64 (x:=(j:Int)+1) (by omega) (by omega)];rfl
def balM(ls:L)(axis:Int)(cs:List Int)(den:Int):Bool×Bool:=
  if legsB ls=true∧(0≤axis∧axis≤2)∧cs.length=8∧(1≤den∧den≤100000)∧cs.any badB=false then(decide (rd cs 0=0) && (sumS ls axis cs den (plcL ls (RR ls) ls.length)).all (· ==0),true) else(false,false)
theorem coords_loop {ls:L} (hn:ls.length≤12) (hg:∀x∈ls,Good x) (axis:Int) (h0:0≤axis) (h2:axis≤2) (cs:List Int) (h8:cs.length=8) (den:Int):∀(d j:Nat),j+d=cs.length →
    Ev (fun k=>spec_IsBalanced.l0 k ls axis cs den (j:Int)) (if(cs.drop j).any badB=false then(decide (rd cs 0=0) && (sumS ls axis cs den (plcL ls (RR ls) ls.length)).all (· ==0),true) else(false,false)):=by
  intro d
  induction d with
  | zero=>
    intro j hj;rw[List.drop_eq_nil_of_le (by omega),if_pos (show([]:List Int).any badB=false from rfl)];by_cases c:rd cs 0=0
    · rw[decide_eq_true c,Bool.true_and]
      refine Ev.step (f:=fun k=>(spec_l9Legs.f k ls).bind fun t465=>(spec_IsBalanced.l1 k ls axis cs den (List.replicate 8 0) t465 0)) (fun k=>?_) ?_
      · simp only[spec_IsBalanced.l0]
        rw[if_neg (by omega),if_pos (by omega),if_pos c,if_pos (by decide)]
      · refine Ev.bind (l9Legs_ev hn hg) ?_
        have hl:=selTo_len (fun k=>Pq (RR ls) (leg ls k).f0.toNat) ls.length;refine sums_loop hg axis h0 h2 cs h8 den (plcL ls (RR ls) ls.length) (by unfold plcL;omega) (fun i hi=>?_) (plcL ls (RR ls) ls.length).length 0 (by omega);obtain⟨k,hk,hk2,_⟩:=(mem_selTo _ _ _).mp hi;omega
    · rw[decide_eq_false c,Bool.false_and]
      refine Ev.step (f:=fun _=>some (false,true)) (fun k=>?_) (Ev.now _);simp only[spec_IsBalanced.l0];rw[if_neg (by omega),if_pos (by omega),if_neg c]
  | succ d ih=>
    intro j hj;have hlt:j<cs.length:=by omega
    have h:=ih (j+1) (by omega);have er:=rd_at cs j hlt;rw[List.drop_eq_getElem_cons hlt,List.any_cons];have hin:=in_eq cs[j] (-100000000) 100000000;have hbd:badB cs[j]=!decide (-100000000≤cs[j]∧cs[j]≤100000000):=rfl;by_cases c: -100000000≤cs[j]∧cs[j]≤100000000
    · rw[decide_eq_true c]at hin hbd
      rw[hbd,Bool.not_true,Bool.false_or];refine Ev.step (fun k=>?_) h;simp only[spec_IsBalanced.l0];rw[if_pos (by omega),if_pos (by omega),er,hin,Option.bind_some,if_pos rfl,w64 (by omega) (by omega)];rfl
    · rw[decide_eq_false c]at hin hbd
      rw[hbd,Bool.not_false,Bool.true_or,if_neg (by decide)];refine Ev.step (f:=fun _=>some (false,false)) (fun k=>?_) (Ev.now _);simp only[spec_IsBalanced.l0];rw[if_pos (by omega),if_pos (by omega),er,hin,Option.bind_some,if_neg (by decide)]
theorem specBal_ev (ls:L) (axis:Int) (cs:List Int) (den:Int) (hb:ls.length≤140737488351232):Ev (fun k=>spec_IsBalanced.f k ls axis cs den) (balM ls axis cs den):=by
  have stop:Ev (fun k=>spec_IsBalanced.j0 k ls axis cs den true) ((false,false):Bool×Bool):=Ev.step (f:=fun _=>some (false,false)) (fun k=>by simp only[spec_IsBalanced.j0,if_true]) (Ev.now _)
  have hax:Ev (fun k=>spec_l9Axis.f k ls axis) (legsB ls && decide (0≤axis∧axis≤2)):=by
    unfold spec_l9Axis.f;refine Ev.bind (l4Legs_ev ls hb) ?_;cases h:legsB ls
    · exact Ev.neg (by decide) (Ev.now _)
    · exact Ev.pos rfl (Ev.bindc (in_eq axis 0 2) (Ev.now _))
  unfold spec_IsBalanced.f balM;refine Ev.bind hax ?_;by_cases h:legsB ls=true∧(0≤axis∧axis≤2)
  · have hv:=legsB_iff.mp h.1
    refine Ev.pos (by rw[h.1,decide_eq_true h.2];rfl) ?_;by_cases h8:cs.length=8
    · refine Ev.pos (by omega) (Ev.bindc (in_eq den 1 100000) ?_)
      by_cases hd:1≤den∧den≤100000
      · rw[decide_eq_true hd]
        have hl:=coords_loop hv.2 hv.1 axis h.2.1 h.2.2 cs h8 den cs.length 0 (by omega);rw[List.drop_zero]at hl
        have e:(if legsB ls=true∧(0≤axis∧axis≤2)∧cs.length=8∧(1≤den∧den≤100000)∧cs.any badB=false then(decide (rd cs 0=0) && (sumS ls axis cs den (plcL ls (RR ls) ls.length)).all (· ==0),true) else(false,false))=(if cs.any badB=false then(decide (rd cs 0=0) && (sumS ls axis cs den (plcL ls (RR ls) ls.length)).all (· ==0),true) else(false,false)):=by
          by_cases q:cs.any badB=false
          · rw[if_pos ⟨h.1,h.2,h8,hd,q⟩,if_pos q]
          · rw[if_neg (fun e=>q e.2.2.2.2),if_neg q]
        rw[e];exact Ev.step (fun k=>by simp only[spec_IsBalanced.j0,Bool.not_true,Bool.false_eq_true,if_false];rfl) hl
      · rw[decide_eq_false hd,if_neg (fun e=>hd e.2.2.2.1)]
        exact stop
    · rw[if_neg (fun e=>h8 e.2.2.1)]
      exact Ev.neg (by omega) stop
  · rw[if_neg (fun e=>h ⟨e.1,e.2.1⟩)]
    exact Ev.neg (by rw[Bool.and_eq_true,decide_eq_true_eq];exact h) stop
end Go.Proofs.YtmgkbhhnchnkcaaDoor.Net
