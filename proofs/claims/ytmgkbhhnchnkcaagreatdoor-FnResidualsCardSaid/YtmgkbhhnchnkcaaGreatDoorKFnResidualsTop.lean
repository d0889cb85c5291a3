/- The row of the law FnResiduals: whatever the input, it returns true; its arguments read as they did. No conditions. -/
import Derived.Deep.Slices
import Derived.Deep.Fields
import Derived.ChangeSame
import Derived.SizedLaws
import Derived.Test.YtmgkbhhnchnkcaaGreatDoorCards
import Derived.Test.YtmgkbhhnchnkcaaGreatDoorTie
import Derived.OpenVars
import Derived.ChangeVars
import Derived.SevenTiedAt
import Derived.ShutString
import Derived.ChangeOld
import Derived.Test.YtmgkbhhnchnkcaaGreatDoorKFnResidualsU11
import Derived.Test.YtmgkbhhnchnkcaaGreatDoorKFnResidualsU12
set_option linter.unusedSimpArgs false
set_option linter.unusedVariables false
namespace Go.Proofs.YtmgkbhhnchnkcaaGreatDoor
namespace Net
open Go.RowKit YtmgkbhhnchnkcaaGreatDoorW.PrintWords Plain A Draw
open Frac (Red)
theorem iTrees_ev(l:L)(hb:l.length≤140737488351232):Ev (fun _=>impl_TreeCount.f l) (treeCountM l):=Ev.some fun _=>by unfold impl_TreeCount.f;rw[if_pos hb]
theorem iBridges_ev(l:L)(hb:l.length≤140737488351232):Ev (fun _=>impl_BridgesOf.f l) (if legsB l=true then(bridgesL l,true) else([],false)):=Ev.some fun _=>by unfold impl_BridgesOf.f;rw[if_pos hb]
theorem iResid_ev(l:L)(hb:l.length≤140737488351232)(ax i:Int):Ev (fun _=>impl_ResidualOf.f l ax i) (resOfM l ax i):=Ev.some fun _=>by unfold impl_ResidualOf.f;rw[if_pos hb]
theorem iSquare_ev(l:L)(hb:l.length≤140737488351232)(ax:Int):Ev (fun _=>impl_SquareSum.f l ax) (squM l ax):=Ev.some fun _=>by unfold impl_SquareSum.f;rw[if_pos hb]
theorem iLarge_ev(l:L)(hb:l.length≤140737488351232)(ax:Int):Ev (fun _=>impl_LargestResidual.f l ax) (bigM l ax):=Ev.some fun _=>by unfold impl_LargestResidual.f;rw[if_pos hb]
theorem iExact_ev(l:L)(hb:l.length≤140737488351232):Ev (fun _=>impl_ExactLegs.f l) (exactM l):=Ev.some fun _=>by unfold impl_ExactLegs.f;rw[if_pos hb]
theorem iAdjD_ev(l:L)(hb:l.length≤140737488351232):Ev (fun _=>impl_AdjustedDepth.f l) (depM l):=Ev.some fun _=>by unfold impl_AdjustedDepth.f;rw[if_pos hb]
theorem iDepth_ev(l:L)(hb:l.length≤140737488351232):Ev (fun _=>impl_DepthOf.f l) (depthM l):=Ev.some fun _=>by unfold impl_DepthOf.f;rw[if_pos hb]
theorem iCount_ev(l:L)(hb:l.length≤140737488351232):Ev (fun _=>impl_CountLoops.f l) (countM l):=Ev.some fun _=>by unfold impl_CountLoops.f;rw[if_pos hb]
theorem vFar_eq{x:Int}(h1: -1000000000≤x)(h2:x≤1000000000):laws_vFar.f x=some (absI x):=by
 unfold laws_vFar.f absI;split
 · rw[w64 (by omega) (by omega)];congr 1;omega
 · congr 1;omega
theorem red_zero_iff{n d N T:Int}(hT:0<T)(h:Red n d N T):n=0↔N=0:=by
 obtain⟨h1,_,h3⟩:=h
 constructor
 ·intro e;rw[e,Int.zero_mul]at h3;rcases Int.mul_eq_zero.mp h3.symm with q|q
  · exact q
  · omega
 ·intro e;rw[e,Int.zero_mul]at h3;rcases Int.mul_eq_zero.mp h3 with q|q
  · exact q
  · omega
theorem absI_mul(x y:Int):absI (x*y)=absI x*absI y:=by unfold absI;rw[Int.natAbs_mul];rfl
theorem absI_pos{x:Int}(h:0<x):absI x=x:=by unfold absI;omega
theorem absI_mulp{x y:Int}(h:0<y):absI (x*y)=absI x*y:=by rw[absI_mul,absI_pos h]
theorem red_le{a b c d M N T:Int}(hT:0<T)(h1:Red a b M T)(h2:Red c d N T)(h:absI N≤absI M):absI c*b≤absI a*d:=by
 obtain⟨b0,_,e1⟩:=h1;obtain⟨d0,_,e2⟩:=h2;have f1:absI a*T=absI M*b:=by rw[←absI_mulp hT,e1,absI_mulp b0]
 have f2:absI c*T=absI N*d:=by rw[←absI_mulp hT,e2,absI_mulp d0]
 refine Int.le_of_mul_le_mul_right (a:=T) ?_ hT
 have g1:absI c*b*T=absI N*(d*b):=by
  have:absI c*b*T=absI c*T*b:=by grind
  rw[this,f2];grind
 have g2:absI a*d*T=absI M*(d*b):=by
  have:absI a*d*T=absI a*T*d:=by grind
  rw[this,f1];grind
 rw[g1,g2];exact Int.mul_le_mul_of_nonneg_right h (Int.le_of_lt (Int.mul_pos d0 b0))
theorem red_small{a b M T:Int}(hT:0<T)(h:Red a b M T)(hM:absI M≤11400000)(hT2:T≤6561):absI a≤11400000∧(0<b∧b≤6561):=by
 obtain⟨b0,hg,e⟩:=h;have hb:b∣T:=Frac.Red.dvd hg e;have hbT:b≤T:=Int.le_of_dvd hT hb;have f1:absI a*T=absI M*b:=by rw[←absI_mulp hT,e,absI_mulp b0]
 refine⟨?_,b0,by omega⟩;have h0:0≤absI M:=by unfold absI;omega
 have:absI a*T≤absI M*T:=by rw[f1];exact Int.mul_le_mul_of_nonneg_left hbT h0
 have:=Int.le_of_mul_le_mul_right this hT;omega
theorem SA_zero{l:L}{ax:Int}:SA l ax=0↔∀k∈usedL l,nT l ax k=0:=by
 constructor
 ·intro h k hk;have h1:=tot_one (f:=fun k=>nT l ax k*nT l ax k) (l:=usedL l) (fun k _=>sq_nonneg _) hk;have h2:=sq_nonneg (nT l ax k)
  have h3:nT l ax k*nT l ax k=0:=by
   have e:SA l ax=tot (fun k=>nT l ax k*nT l ax k) (usedL l):=rfl;omega
  rcases Int.mul_eq_zero.mp h3 with e|e<;>exact e
 ·intro h;have e:SA l ax=tot (fun k=>nT l ax k*nT l ax k) (usedL l):=rfl;rw[e,tot_congr (g:=fun _=>0) (fun k hk=>by rw[h k hk,Int.zero_mul]),tot_const,Int.zero_mul]
theorem tree_end(code:List Int)(hc:Bytes code)(hl:code.length≤65536):Ev (fun k=>(spec_DrawTreeCount.f k code).bind fun t702=>((impl_TreeCount.f t702).bind fun bt705=>((spec_TreeCount.f k t702).bind fun bt707=>(if bt705.1=bt707.1 then(some (bt705.2==bt707.2)) else(some false))))) true:=by
 obtain⟨l,hD,hn⟩:=drawTrees hc hl;have hn:l.length≤9:=hn;refine Ev.bind hD (Ev.bind (iTrees_ev l (by omega)) (Ev.bind (SpTreeCount.treeCount_ev l (by omega)) (Ev.pos rfl ?_)));simp only[beq_self_eq_true];exact Ev.now _
theorem j7_law(code:List Int)(hc:Bytes code)(hl:code.length≤65536):Ev (fun k=>laws_FnResiduals.j7 k code false) true:=by
 refine Ev.step (fun k=>by simp only[laws_FnResiduals.j7,Bool.false_eq_true,if_false];rfl) ?_;exact tree_end code hc hl
theorem j5_law(code:List Int)(hc:Bytes code)(hl:code.length≤65536):Ev (fun k=>laws_FnResiduals.j5 k code) true:=by
 obtain⟨l,hD,hn⟩:=drawAdjDepth hc hl;have hn:l.length≤9:=hn;refine Ev.step (fun k=>by simp only[laws_FnResiduals.j5];rfl) ?_;refine Ev.bind hD (Ev.bind (iAdjD_ev l (by omega)) (Ev.bind (SpAdjustedDepth.depth_ev l (by omega)) (Ev.pos rfl (Ev.pos rfl ?_))));rw[bne_self_eq_false];have h7:=j7_law code hc hl;by_cases h:legsB l=true
 ·have hv:=legsB_iff.mp h;have e:depM l=(redN (highM l 2-lowM l 2) (treesM l),redD (highM l 2-lowM l 2) (treesM l),true):=by unfold depM;rw[if_pos h]
  rw[e];have i1:=iCount_ev l (by omega);have i2:=iDepth_ev l (by omega);unfold countM at i1;unfold depthM at i2;rw[if_pos h]at i1 i2;refine Ev.step (fun k=>by simp only[laws_FnResiduals.j6,Bool.false_eq_true,if_false,if_true];rfl) ?_;refine Ev.bind i1 (Ev.bind i2 (Ev.pos rfl (Ev.pos rfl ?_)));by_cases c:((closeL l).length:Int)=0
  ·have hd:=depth_one hv.2 hv.1 (List.eq_nil_of_length_eq_zero (by omega));refine Ev.pos c (Ev.pos hd.1 ?_);simp only[hd.2,bne_self_eq_false];exact h7
  · exact Ev.neg c h7
 ·have e:(depM l).2.2=false:=by unfold depM;rw[if_neg h]
  rw[e];refine Ev.step (fun k=>by simp only[laws_FnResiduals.j6,Bool.false_eq_true,if_false];rfl) ?_;exact tree_end code hc hl
theorem j3_law(code:List Int)(hc:Bytes code)(hl:code.length≤65536):Ev (fun k=>laws_FnResiduals.j3 k code) true:=by
 obtain⟨l,hD,hn⟩:=drawExact hc hl;have hn:l.length≤9:=hn;have i0:=iExact_ev l (by omega);have i9:=specExact_ev l (by omega);have h5:=j5_law code hc hl
 have hxl:(exA l 3).length≤1000:=by
  have h1:=exA_len l 3;have h2:=usedL_len l;omega
 refine Ev.step (fun k=>by simp only[laws_FnResiduals.j3];rfl) ?_;unfold exactM at i0;by_cases h:legsB l=true
 ·have hv:=legsB_iff.mp h;rw[if_pos h]at i0 i9;have i1:=iBridges_ev l (by omega);rw[if_pos h]at i1;have hbl:=bridges_len l
  have hw:∀x∈bridgesL l,x∈exA l 3:=fun x hx=>by
   have hm:=mem_bridges l hx;rw[exA_three];exact List.mem_filter.mpr ⟨hm.1,decide_eq_true ⟨bridge_nT hv.2 hv.1 0 hm.1 hm.2,bridge_nT hv.2 hv.1 1 hm.1 hm.2,bridge_nT hv.2 hv.1 2 hm.1 hm.2⟩⟩
  refine Ev.bind hD (Ev.bind i0 (Ev.bind i9 (Ev.neg (by simp) (Ev.bind (vInts_ev _ qz42) ?_))));refine Ev.step (fun k=>by simp only[laws_FnResiduals.j4,Bool.not_true,Bool.false_eq_true,if_false,if_true];rfl) ?_;exact Ev.bind i1 (Ev.pos rfl (Ev.bind (vWithin_ev _ _ (by first|omega|(simp only;omega)) (by first|omega|(simp only;omega)) hw) (Ev.pos rfl h5)))
 ·rw[if_neg h]at i0 i9;refine Ev.bind hD (Ev.bind i0 (Ev.bind i9 (Ev.neg (by simp) (Ev.bind (vInts_ev _ (by simp)) ?_))));exact Ev.step (f:=fun k=>laws_FnResiduals.j5 k code) (fun k=>by simp only[laws_FnResiduals.j4,Bool.not_true,Bool.false_eq_true,if_false]) h5
theorem l0_law(code:List Int)(hc:Bytes code)(hl:code.length≤65536)(l:L)(hn:l.length≤9)(hv:legsB l=true)(ax num a b m:Int)(h0:0≤ax∧ax≤2)(hm:m∈usedL l)(hbig:∀k∈usedL l,absI (nT l ax k)≤absI (nT l ax m))(ha:Red a b (nT l ax m) (treesM l))(hz:num=0↔a=0):∀(d i:Nat),i+d=l.length→Ev (fun k=>laws_FnResiduals.l0 k code l ax num a b true (i:Int)) true:=by
 have hv':=legsB_iff.mp hv;have h3:=j3_law code hc hl;have hT:=trees_pos hv'.2 hv'.1;have hT2:=trees_le hv'.2 hv'.1;have hab:∀k∈usedL l,absI (nT l ax k)≤11400000:=fun k hk=>nT_bound hv'.2 hv'.1 ax hk
 have hsa:=red_small (by omega) ha (hab m hm) hT2;have hav:laws_vFar.f a=some (absI a):=vFar_eq (by have:=hsa.1;unfold absI at this;omega) (by have:=hsa.1;unfold absI at this;omega);intro d
 induction d with
 | zero=>
  intro i hi;refine Ev.step (f:=fun k=>if((num==0) !=(a==0))=true then some false else laws_FnResiduals.j3 k code) (fun k=>?_) (Ev.neg ?_ h3)
  ·simp only[laws_FnResiduals.l0];rw[if_neg (by omega)]
  ·by_cases c:num=0
   · rw[c,hz.mp c];decide
   ·have c2:¬a=0:=fun e=>c (hz.mpr e)
    rw[show(num==0)=false from beq_eq_false_iff_ne.mpr c,show(a==0)=false from beq_eq_false_iff_ne.mpr c2];decide
 | succ d ih=>
  intro i hi;have hgo:=ih (i+1) (by omega);have hp:(i:Int)<(l.length:Int):=by omega
  have i1:=iResid_ev l (by omega) ax (i:Int);have ew:wrap64 ((i:Int)+1)=((i+1:Nat):Int):=by rw[w64 (by omega) (by omega)];omega
  refine Ev.step (f:=fun k=>(impl_ResidualOf.f l ax (i:Int)).bind fun bt667=>(if bt667.2.2=true then(if true=true then((laws_vFar.f bt667.1).bind fun t670=>((laws_vFar.f a).bind fun t671=>(if(wrap64 (t670*b))>(wrap64 (t671*bt667.2.1))then(some false) else(laws_FnResiduals.l0 k code l ax num a b true ((i+1:Nat):Int))))) else(some false)) else(laws_FnResiduals.l0 k code l ax num a b true ((i+1:Nat):Int)))) (fun k=>?_) (Ev.bind i1 ?_)
  ·simp only[laws_FnResiduals.l0];rw[if_pos hp,ew]
  ·clear ew hp;by_cases c:(i:Int)∈usedL l
   ·have e:resOfM l ax (i:Int)=(redN (nT l ax (i:Int)) (treesM l),redD (nT l ax (i:Int)) (treesM l),true):=by
     unfold resOfM;rw[if_pos ⟨hv,h0,c⟩]
    have hr:=red_red (n:=nT l ax (i:Int)) (d:=treesM l) (by omega);have hsi:=red_small (by omega) hr (hab _ c) hT2;have hiv:laws_vFar.f (redN (nT l ax (i:Int)) (treesM l))=some (absI (redN (nT l ax (i:Int)) (treesM l))):=vFar_eq (by have:=hsi.1;unfold absI at this;omega) (by have:=hsi.1;unfold absI at this;omega);have hle:=red_le (by omega) ha hr (hbig _ c);rw[e];refine Ev.pos rfl (Ev.pos rfl (Ev.bindc hiv (Ev.bindc hav (Ev.neg ?_ hgo))));simp only;generalize redN (nT l ax (i:Int)) (treesM l)=u at *;generalize redD (nT l ax (i:Int)) (treesM l)=v at *;have u0:0≤absI u:=by unfold absI;omega
    have a0:0≤absI a:=by unfold absI;omega
    have b1:0≤absI u*b∧absI u*b≤11400000*6561:=⟨Int.mul_nonneg u0 (by omega),Int.mul_le_mul hsi.1 hsa.2.2 (by omega) (by decide)⟩;have b2:0≤absI a*v∧absI a*v≤11400000*6561:=⟨Int.mul_nonneg a0 (by omega),Int.mul_le_mul hsa.1 hsi.2.2 (by omega) (by decide)⟩;rw[w64 (by omega) (by omega),w64 (by omega) (by omega)];omega
   ·have e:(resOfM l ax (i:Int)).2.2=false:=by
     unfold resOfM;rw[if_neg (fun h=>c h.2.2)]
    exact Ev.neg (by rw[e];decide) hgo
end Net
namespace Pure
open Go.RowKit YtmgkbhhnchnkcaaGreatDoorW.PrintWords Plain A Net Draw
theorem FnResiduals(code:List Int)(hb:code.length*1≤140737488351232)(hw:∀x∈code,(Lit.int .u8 x).wf=true):∃k,laws_FnResiduals.f k code=some true:=by
 refine Ev.rounds ?_;have hc:=Bytes.of_wf hw;refine Ev.bindc (show laws_vBig.f code=some (decide ((code.length:Int)>65536))from rfl) ?_;by_cases c:(code.length:Int)>65536
 · exact Ev.pos (decide_eq_true c) (Ev.now _)
 have hl:code.length≤65536:=by omega
 refine Ev.neg qz88 ?_;obtain⟨⟨l,ax⟩,hD,hn⟩:=drawSquare hc hl;have hn:l.length≤9:=hn;refine Ev.bind hD (Ev.bind (iSquare_ev l (by omega) ax) (Ev.bind (SpSquareSum.squareSum_ev l ax (by omega)) (Ev.pos rfl (Ev.pos rfl (Ev.neg (by simp) ?_)))));have i2:=iLarge_ev l (by omega) ax;have i3:=SpLargestResidual.largest_ev l ax (by omega);have h3:=j3_law code hc hl;by_cases h:legsB l=true∧(0≤ax∧ax≤2)
 ·have hv:=legsB_iff.mp h.1;have hT:=trees_pos hv.2 hv.1;have hTT:0<treesM l*treesM l:=Int.mul_pos (by omega) (by omega);have e:squM l ax=(redN (SA l ax) (treesM l*treesM l),redD (SA l ax) (treesM l*treesM l),true):=by unfold squM;rw[if_pos h]
  rw[e];have hrs:=red_red (n:=SA l ax) hTT
  have hnn:¬redN (SA l ax) (treesM l*treesM l)<0:=by
   have hS:=SA_nonneg l ax;have h1:=hrs.2.2;intro hlt;have h2:redN (SA l ax) (treesM l*treesM l)*(treesM l*treesM l)<0:=Int.mul_neg_of_neg_of_pos hlt hTT;have h3:0≤SA l ax*redD (SA l ax) (treesM l*treesM l):=Int.mul_nonneg hS (Int.le_of_lt hrs.1);omega
  simp only;rw[decide_eq_false hnn];refine Ev.step (fun k=>by simp only[laws_FnResiduals.j0,Bool.false_eq_true,if_false];rfl) ?_;refine Ev.bind i2 (Ev.bind i3 (Ev.pos rfl ?_));rw[bne_self_eq_false];have eb:bigM l ax=((bigTo l ax (usedL l).length).1,decide (0≤(bigTo l ax (usedL l).length).2)):=by unfold bigM;rw[if_pos h]
  rw[eb];by_cases c1:0≤(bigTo l ax (usedL l).length).2
  ·have hbg:=big_least l ax c1;rw[decide_eq_true c1];simp only;generalize (bigTo l ax (usedL l).length).1=m at *;have i4:=iResid_ev l (by omega) ax m;have em:resOfM l ax m=(redN (nT l ax m) (treesM l),redD (nT l ax m) (treesM l),true):=by unfold resOfM;rw[if_pos ⟨h.1,h.2,hbg.1⟩]
   rw[em]at i4;have hra:=red_red (n:=nT l ax m) (d:=treesM l) (by omega)
   have hzz:redN (SA l ax) (treesM l*treesM l)=0↔redN (nT l ax m) (treesM l)=0:=by
    rw[red_zero_iff hTT hrs,red_zero_iff (by omega) hra,SA_zero]
    constructor
    · exact fun q=>q m hbg.1
    ·intro q k hk;have:=hbg.2 k hk;rw[q]at this;unfold absI at this;omega
   refine Ev.step (fun k=>by simp only[laws_FnResiduals.j1,Bool.false_eq_true,if_false,if_true];rfl) ?_;refine Ev.bind i4 ?_;exact l0_law code hc hl l hn h.1 ax _ _ _ m h.2 hbg.1 hbg.2 hra hzz l.length 0 (Nat.zero_add _)
  ·rw[decide_eq_false c1];exact Ev.step (f:=fun k=>laws_FnResiduals.j3 k code) (fun k=>by simp only[laws_FnResiduals.j1,Bool.false_eq_true,if_false]) h3
 ·have e:squM l ax=(0,0,false):=by unfold squM;rw[if_neg h]
  have eb:(bigM l ax).2=false:=by unfold bigM;rw[if_neg h]
  rw[e];simp only;refine Ev.step (fun k=>by simp only[laws_FnResiduals.j0,show decide ((0:Int)<0)=false from rfl,Bool.false_eq_true,if_false];rfl) ?_;refine Ev.bind i2 (Ev.bind i3 (Ev.pos rfl ?_));rw[bne_self_eq_false,eb];exact Ev.step (f:=fun k=>laws_FnResiduals.j3 k code) (fun k=>by simp only[laws_FnResiduals.j1,Bool.false_eq_true,if_false]) h3
end Pure
namespace Opens
open Go.ChangeShapes Go.WideShapes Go.Deep Go.RowKit YtmgkbhhnchnkcaaGreatDoorW.PrintWords
theorem list_of{α:Type}{P:Nat→α→Prop}:∀(n:Nat),(∀i,i<n→∃x,P i x)→∃xs:List α,xs.length=n∧∀i x,xs[i]?=some x→P i x
 |0,_=>⟨[],rfl,fun i x h=>by simp at h⟩
 | n+1,h=>by
  obtain⟨xs,hl,hx⟩:=list_of n (fun i hi=>h i (Nat.lt_succ_of_lt hi));obtain⟨y,hy⟩:=h n (Nat.lt_succ_self n);refine⟨xs++[y],by simp[hl],fun i x hi=>?_⟩;by_cases hlt:i<xs.length
  ·rw[List.getElem?_append_left hlt]at hi;exact hx i x hi
  ·rw[List.getElem?_append_right (by omega)]at hi
   have h0:i-xs.length=0:=by
    have:=(List.getElem?_eq_some_iff.1 hi).1;simp at this;omega
   rw[h0]at hi;simp at hi;subst hi;have:i=n:=by omega
   subst this;exact hy
section
variable {H:Type} {enc:TypeId×Value→H} {P:Program} {w:World} {base:Nat} {spare:Nat→Bool} {held:Bool}
theorem open_row{α:Type}(d:Kd α){Q:α→Prop}{t e:TypeId}{a:Option Addr}{len cap:Nat}{dd:DataW H}{ps:List MemPlace}(ht:P.underlying t=some (.slice e))(hC:P.cellsOf e=d.sz)
  (hd:∀n cs y,DataW.trod enc P w base spare held n e cs=some y→∃x,d.K w x cs∧Q x)
  (h:DataW.Trod enc P w base spare held t (.slice a len cap) dd ps):∃xs:List α,xs.length=len∧len≤cap∧d.C w a len xs∧∀x∈xs,Q x:=by
 obtain⟨fuel,hf⟩:=h;rcases open_slice ht hf with⟨hcs,_⟩|⟨x,l,c,m,n,D,Pl,hcs,_,hl,hm,hmm,_,hi⟩
 ·simp[Value.cells]at hcs;obtain⟨rfl,rfl,rfl⟩:=hcs;exact⟨[],rfl,Nat.le_refl _,⟨rfl,by omega,fun h=>by omega⟩,fun x hx=>by simp at hx⟩
 ·simp[Value.cells]at hcs;obtain⟨rfl,rfl,rfl⟩:=hcs;have hle:len≤m:=by subst hmm;split<;>omega
  obtain⟨xs,hxl,hx⟩:=list_of (P:=fun i (z:α)=>Q z∧∃cs,d.K w z cs∧w.cells? base (x.add (i*d.sz)) d.sz=some cs) len (fun i hil=>by
   obtain⟨cs,h1,h2⟩:=hi i (by omega);rw[hC]at h1;obtain⟨z,h3,h4⟩:=hd _ _ _ h2
   exact⟨z,h4,cs,h3,h1⟩)
  refine⟨xs,hxl,hl,⟨hxl,(by unfold maxLen at hm;omega),fun _=>⟨x,rfl,fun j p hp=>?_⟩⟩,fun z hz=>?_⟩
  ·obtain⟨_,cs,h1,h2⟩:=hx j p hp;obtain⟨_,hlen,hat⟩:=World.cells?_some h2;refine⟨cs,hlen,h1,fun i u hu=>?_⟩;have hil:i<d.sz:=by have:=(List.getElem?_eq_some_iff.1 hu).1;omega
   rw[←Go.Deep.add_add,hat i hil,hu]
  ·obtain⟨j,hj⟩:=List.getElem?_of_mem hz;exact(hx j z hj).1
theorem sized_row{t e:TypeId}{a:Option Addr}{len cap:Nat}{d:DataW H}{ps:List MemPlace}{ts:List TypeId}{ds:List (DataW H)}{j:Nat}
  (hsz:(DataW.weightsEach P ts ds).all (· ≤reachBytes)=true) (ht:ts[j]?=some t) (hd:ds[j]?=some d) (hu:P.underlying t=some (.slice e)) {B:Nat} (hB:P.bytesOf e=B)
  (h:DataW.Trod enc P w base spare held t (.slice a len cap) d ps):len*B≤140737488351232:=by
 obtain⟨fuel,hf⟩:=h;rcases open_slice hu hf with⟨hcs,_⟩|⟨x,l,c,m,n,D,Pl,hcs,_,hl,hm,hmm,hx,hi⟩
 ·simp[Value.cells]at hcs;obtain⟨rfl,rfl,rfl⟩:=hcs;simp
 ·simp[Value.cells]at hcs;obtain⟨rfl,rfl,rfl⟩:=hcs;obtain⟨hx,_⟩:=Prod.mk.inj hx;subst hx;have z:=sized_slice hsz ht hd hu;rw[hB]at z;simp only[List.length_map,List.length_range]at z;have hle:len≤m:=by subst hmm;split<;>omega
  rw[show len+(m-len)=m by omega]at z;exact Nat.le_trans (Nat.mul_le_mul_right _ hle) z
end
end Opens
namespace fnResiduals
open Go.ChangeShapes Go.WideShapes Go.ChangeAt Go.RowKit
open Go.ChangeMaps (open_string shut_string)
open A YtmgkbhhnchnkcaaGreatDoorW.PrintWords Opens
theorem own:ownKnob Tryz.prog.godebug=none:=by kernel_rfl
theorem laidOut:laidOutB Tryz.prog=true:=by kernel_rfl
set_option maxRecDepth 100000 in
theorem lifted(os:Os)(started:os.Started)(H:Type)(enc:TypeId×Value→H):
  ReturnsInHanded {} Tryz.checked os 5 .any (fun w args=>(Rows.fnResidualsSpec.pre enc Tryz.prog Tryz.f5 [] false w args∧laidMetH Tryz.prog LaidT.list w)∧sizedMet enc Tryz.prog Tryz.f5 (OpenSpec.ofChange Rows.fnResidualsSpec) false w args) (Rows.fnResidualsSpec.post enc Tryz.prog Tryz.f5 false true false false):=by
 refine returnsInHanded_of_change_and (C:=Tryz.checked) (X:=fun w _=>laidMetH Tryz.prog LaidT.list w) (fun _ _ _ hh h=>h.of_heap hh) own started qz37 Tryz.func5
  (ChangeSpec.witness_shaped (enc:=enc) (C:=Tryz.checked) (os:=os) (X:=fun w _=>laidMetH Tryz.prog LaidT.list w) false (World.doorLaid Tryz.prog 400 os) #[.slice none 0 0] 8 rfl (World.shaped_of_RefB qz37 qz37) qz37 qz37 qz37 (LaidT.door_met os _)) ?_
 intro W base args ds gs before hval0 hW hcnd hsz0 hL _;have hsz:(DataW.weightsEach Tryz.prog (Tryz.f5.params.toList++Rows.fnResidualsSpec.plain.varTypes Tryz.prog) (ds++gs)).all (· ≤reachBytes)=true:=hsz0;have hval:∀(j:Nat) t v,Tryz.f5.params[j]?=some t→args[j]?=some v→Value.okWide Tryz.prog W .any base t v:=hval0
 have hW':=hW;obtain⟨p,q,hA0,hV,rfl,hfz,hnd⟩:=hW;have hA:DataW.TrodAll enc Tryz.prog W 0 (fun _=>true) true Tryz.f5.params.toList args.toList ds p:=hA0;rw[Tryz.params5]at hA hval hsz;obtain⟨v0,vs0,d0,ds0,p0,q0,hargs,rfl,rfl,h0,r0⟩:=trodAll_cons hA;obtain⟨rfl,rfl,rfl⟩:=trodAll_nil r0;obtain rfl:args= #[v0]:=by cases args;simp_all
 have hV2:=hV;obtain⟨_,_,_,_,gd,_,rfl,_,_,_,_,_⟩:=trodVars_one hV;have k0:=h0;have lt0:∀x∈p0,x.block<W.heap.size:=by obtain⟨m,hm⟩:=k0;exact DataW.trod_lt m _ _ _ hm
 obtain⟨a0,len0,cap0,rfl⟩:=okWide_slice Tryz.underlying22 (hval 0 22 v0 rfl rfl);obtain⟨l0,hl0,hc0,hr0,hw0⟩:=Opens.open_row (Kd.int .u8) (Q:=fun x=>(Lit.int .u8 x).wf=true) (e:=5) Tryz.underlying22 qz37 (fun _ _ _ h=>by obtain⟨x,rfl,_,hw⟩:=DataW.trod_int Tryz.underlying5 h;exact⟨x,rfl,hw⟩) h0;have y0:len0*1≤140737488351232:=Opens.sized_row hsz (j:=0) (t:=22) rfl rfl Tryz.underlying22 qz37 h0;subst hl0;clear hA0 hval0 hsz0 hsz;obtain⟨k,hk⟩:=Pure.FnResiduals l0 y0 hw0;refine(laws_FnResiduals.calls k _ _ l0 true W hr0 hc0 hk (LaidT.of_laid hL)).mono fun e W' ⟨he,hb⟩=>?_
 have bel:Below W.heap.size W W':=hb;subst he;exact⟨_,rfl,_,_,_,[],_,_,hW',trodAll_mk1 (shut_bool Tryz.underlying4 _),(trodAll_cons_mk (Below.trod laidOut qz37 (of_decide_eq_true qz37) k0 bel lt0) trodAll_mk0),Below.trodVars laidOut bel qz37 hV2,bel.frame _,fun h=>by cases h⟩
theorem over:Rows.fnResidualsRow.holds Tryz.pinned (OpenSpec.ofChange Rows.fnResidualsSpec):=
 OpenClaim.holds_of_wide 5 Tryz.f5 rfl rfl rfl rfl rfl rfl rfl ⟨rfl,rfl,rfl,rfl,rfl⟩ rfl rfl rfl rfl rfl qz37 Tryz.func5 qz37
  (of_decide_eq_true qz37) (by unfold Func.isWrapper;first|(rw[if_pos (by decide +kernel)];kernel_rfl)|(rw[if_neg (by decide +kernel)];exact⟨rfl,rfl⟩))
  (fun os started H enc _=>lifted os started H enc)
theorem card_holds:Rows.FnResidualsCardSaid:=
 Claim7.holds_tied_plain_at .later [] [.data] true (true, "29deea75730f3437510c702634a5acfdaa12a18c696fd8fe3cdf4bc032b8d754") false
  over (fun _ h=>by cases h) qz37 (fun _ h=>by cases h) fnResiduals_row_tie rfl ⟨rfl,rfl⟩ qz37 rfl
  (fun f fn hf hfn=>by
   obtain rfl : f = 5 := Option.some.inj ((show Tryz.prog.funcNamed "loop.example/g00933/laws.FnResiduals" = some 5 by kernel_rfl).symm.trans hf) |>.symm
   obtain rfl:fn=Tryz.f5:=(Option.some.inj (Tryz.func5.symm.trans hfn)).symm
   exact⟨by kernel_rfl,fun j t ht=>by
    rw[Tryz.params5]at ht;have hm:t∈[22]:=by simpa using Array.mem_of_getElem? ht
    have hall:([22].all fun u=>!Tryz.prog.wantsStandIn u)=true:=by kernel_rfl
    exact(show Tryz.prog.wantsStandIn t=false by simpa using List.all_eq_true.1 hall t hm)⟩)
  qz37
#print axioms card_holds
end fnResiduals
section
theorem fnResiduals_holds:Rows.FnResidualsCardSaid:=fnResiduals.card_holds
end
end Go.Proofs.YtmgkbhhnchnkcaaGreatDoor
