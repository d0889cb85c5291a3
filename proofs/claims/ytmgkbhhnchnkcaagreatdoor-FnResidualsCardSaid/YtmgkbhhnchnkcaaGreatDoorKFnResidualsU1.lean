/- A matrix in memory: a row of rows, each row in a block of its own. -/
import Derived.Outline
import Derived.Test.YtmgkbhhnchnkcaaGreatDoorRows
import Derived.ProofKit
import Derived.LaidMore
import Derived.OpenShut
import Derived.LaidLaws
import Derived.LaidHandle
import Derived.MakeChecks
import Derived.Stop.Joined
import Derived.Test.YtmgkbhhnchnkcaaGreatDoorKFnResiduals1
set_option maxHeartbeats 1000000
set_option linter.unusedSimpArgs false
set_option linter.unusedVariables false
namespace Go.Proofs.YtmgkbhhnchnkcaaGreatDoor
namespace Net
open Go.RowKit YtmgkbhhnchnkcaaGreatDoorW.PrintWords YtmgkbhhnchnkcaaGreatDoorW.PrintLast YtmgkbhhnchnkcaaGreatDoorW.PrintMore A
def Sine.tab:List Int:=[0,17,35,52,70,87,105,122,139,156,174,191,208,225,242,259,276,292,309,326,342,358,375,391,407,423,438,454,469,485,500,515,530,545,559,574,588,602,616,629,643,656,669,682,695,707,719,731,743,755,766,777,788,799,809,819,829,839,848,857,866,875,883,891,899,906,914,921,927,934,940,946,951,956,961,966,970,974,978,982,985,988,990,993,995,996,998,999,999,1000,1000]
def Sine.Laid(w:World):Prop:=∀i:Nat,i<91→w.cell? ⟨0,i,none⟩=some (.int .i64 (Sine.tab.getD i 0))
def Sine.s(d:Int):Int:=if d≤90 then Sine.tab.getD d.toNat 0 else Sine.tab.getD (180-d).toNat 0
theorem Sine.getD_bound(i:Nat):0≤Sine.tab.getD i 0∧Sine.tab.getD i 0≤1000:=by
  have h:∀x∈Sine.tab,0≤x∧x≤1000:=by decide
  by_cases hi:i<Sine.tab.length
  · rw[List.getD_eq_getElem?_getD,List.getElem?_eq_getElem hi]
    exact h _ (List.getElem_mem hi)
  · rw[List.getD_eq_getElem?_getD,List.getElem?_eq_none (by omega)]
    decide
theorem Sine.s_bound(d:Int):0≤Sine.s d∧Sine.s d≤1000:=by
  unfold Sine.s;split<;>exact Sine.getD_bound _
theorem Sine.keepc{w W:World}{a:Addr}{v:Value}(h:w.cell? a=some v)(hb:Below w.heap.size w W):W.cell? a=some v:=(hb.cell (World.block_lt_of_cell? w _ h)).trans h
theorem Sine.Laid.keep{w W:World}(h:Sine.Laid w)(hb:Below w.heap.size w W):Sine.Laid W:=fun i hi=>Sine.keepc (h i hi) hb
theorem Sine.low(d:Int)(w:World)(hL:Sine.Laid w)(h0:0≤d)(h1:d≤180):
    Calls Tryz.prog 152 #[.int .i64 d] w fun e w'=>e= .returned (.int .i64 (Sine.s d))∧Below w.heap.size w w':=by
  unfold Sine.s;by_cases hd:d≤90
  · rw[if_pos hd]
    have hm:d % 360=d:=by omega
    have hb0:(0:Int)≤d:=h0;have hb1:d<91:=by omega
    have h:=hL d.toNat (by omega);generalize Sine.tab.getD d.toNat 0=x at *;go_enter Tryz.func152,Tryz.ntmps152;go_wp2;go_ret;exact⟨rfl,(by repeat(first|exact Below.refl _ _|apply below_alloc))⟩
  · rw[if_neg hd]
    have hm:d % 360=d:=by omega
    have hb0:(0:Int)≤180-d:=by omega
    have hb1:180-d<91:=by omega
    have h:=hL (180-d).toNat (by omega);generalize Sine.tab.getD (180-d).toNat 0=x at *;go_enter Tryz.func152,Tryz.ntmps152;go_wp2;go_ret;exact⟨rfl,(by repeat(first|exact Below.refl _ _|apply below_alloc))⟩
def Sine.f(a:Int):Int:=if a % 360≤180 then Sine.s (a % 360) else-Sine.s (a % 360-180)
theorem Sine.calls(a:Int)(w:World)(hL:Sine.Laid w)(h0: -1000000≤a)(h1:a≤1000000):
    Calls Tryz.prog 152 #[.int .i64 a] w fun e w'=>e= .returned (.int .i64 (Sine.f a))∧Below w.heap.size w w':=by
  have hmod:impl_modulo.f a 360=some (a % 360):=by
    unfold impl_modulo.f;rw[if_neg (by decide)]
    have e0:Int.tmod a 360=a % 360∨Int.tmod a 360=a % 360-360:=by
      rw[Int.tmod_eq_emod];split
      · left;omega
      · right;simp
    have e1:wrap64 (Int.tmod a 360+360)=Int.tmod a 360+360:=by unfold wrap64;omega
    rw[e1,Int.tmod_eq_emod_of_nonneg (by omega)]
    congr 1
    omega
  have HM:=ak hmod;have HL:=ak hL;have g0:0≤a % 360:=by omega
  have g1:a % 360<360:=by omega
  clear hmod hL;unfold Sine.f;generalize a % 360=d at *;have keep:∀W,Below w.heap.size w W→Sine.Laid W:=fun W hb=>HL.out.keep hb
  have HK:=ak keep;clear keep HL;by_cases hd:d≤180
  · rw[if_pos hd]
    unfold Sine.s;by_cases hd9:d≤90
    · rw[if_pos hd9]
      have hb1:d<91:=by omega
      have HT:=ak (fun W hb=>HK.out W hb d.toNat (by omega));generalize Sine.tab.getD d.toNat 0=x at *;go_enter Tryz.func152,Tryz.ntmps152;go_wp2_with (go_at_call 155;(with_reducible refine(impl_modulo.calls _ _ _ _ HM.out).mono ?_);rintro e w' ⟨rfl,hq⟩;have HQ:=ak (show Below w.heap.size w w' from hq.below);have hcell:=HT.out w' HQ.out;clear hq);go_ret;exact⟨rfl,HQ.out⟩
    · rw[if_neg hd9]
      have hb0:(0:Int)≤180-d:=by omega
      have hb1:180-d<91:=by omega
      have HT:=ak (fun W hb=>HK.out W hb (180-d).toNat (by omega));generalize Sine.tab.getD (180-d).toNat 0=x at *;go_enter Tryz.func152,Tryz.ntmps152;go_wp2_with (go_at_call 155;(with_reducible refine(impl_modulo.calls _ _ _ _ HM.out).mono ?_);rintro e w' ⟨rfl,hq⟩;have HQ:=ak (show Below w.heap.size w w' from hq.below);have hcell:=HT.out w' HQ.out;clear hq);go_ret;exact⟨rfl,HQ.out⟩
  · rw[if_neg hd]
    have hb0:(0:Int)≤d-180:=by omega
    have hb1:d-180≤180:=by omega
    go_enter Tryz.func152,Tryz.ntmps152;go_wp2_with (first|(go_at_call 155;(with_reducible refine(impl_modulo.calls _ _ _ _ HM.out).mono ?_);rintro e w' ⟨rfl,hq⟩;have HQ:=ak (show Below w.heap.size w w' from hq.below);clear hq)|(go_at_call 152;(with_reducible refine(Sine.low (d-180) _ (HK.out _ HQ.out) hb0 hb1).mono ?_);rintro e w' ⟨rfl,hw⟩));go_ret;have hs:=Sine.s_bound (d-180);have hn:wrap64 (- Sine.s (d-180))= - Sine.s (d-180):=by unfold wrap64;omega
    exact⟨(by first|rfl|(simp only[hn];rfl)|(simp[hn];rfl)),below_step HQ.out hw⟩
end Net
namespace LaidT
open Go.ChangeShapes Go.WideShapes Go.RowKit Net
set_option maxRecDepth 100000
def list : List (String × DataW Unit) := [("loop.example/g00933/impl.sines", Rows.laid_loop_example_g00933_impl_sines)]
theorem gN : Tryz.prog.globalNamed "loop.example/g00933/impl.sines" = some 0 := by kernel_rfl
theorem gT:(Tryz.prog.globals[0]?).map (·.type)=some 135:=by kernel_rfl
theorem datum_eq:(Rows.laid_loop_example_g00933_impl_sines:DataW Unit)= .agg (Sine.tab.map fun v=> .lit (.int .i64 v)):=rfl
theorem door_met(os:Os)(args:Array Value):laidMetH Tryz.prog list ((World.doorLaid Tryz.prog 400 os).forCall (fun _ _=>0) ⟨#[],args,[]⟩).memory:=
  laidMetH_of_parts3 (fuel:=8) (laidMet_of_run' 8 qz37 qz37) qz37 qz37
theorem of_laid{W:World}(h:laidMetH Tryz.prog list W):Sine.Laid W:=by
  rw[MakeChecks.laidMetH_plain _ _ _ qz37]at h;obtain⟨ps,⟨g0,t0,cs0,f0,p0,q0,hg0,ht0,hv0,hd0,_,_⟩,_,_⟩:=h;obtain rfl:=Option.some.inj (gN.symm.trans hg0);obtain rfl:=Option.some.inj (gT.symm.trans ht0);obtain⟨xs,m,rfl,hx,hlen,hn,hel⟩:=DataW.trod_array Tryz.underlying135 hd0;intro i hi;have h0:=hel i hi;have c1:Tryz.prog.cellsOf 3=1:=by kernel_rfl
  obtain⟨x,hxi⟩:∃x,xs[i]?=some x:=⟨_,List.getElem?_eq_getElem (by omega)⟩
  rw[hxi,c1]at h0;obtain⟨k,e1,e2,_⟩:=DataW.trod_int Tryz.underlying3 h0
  have hL:Sine.tab.map (fun v=>(.lit (.int .i64 v):DataW Unit))=xs.map (·.1):=by
    have:=(Prod.mk.inj hx).1;rw[datum_eq]at this;exact DataW.agg.inj this
  have hk:=congrArg (fun l=>l[i]?) hL;simp only[List.getElem?_map,hxi,Option.map_some]at hk;have htab:i<Sine.tab.length:=hi;rw[List.getElem?_eq_getElem htab,Option.map_some,e2]at hk;have hk2:Sine.tab[i]=k:=by simpa using hk
  have hcell:=World.var?_cell hg0 hv0 i
  have e3:cs0.toList[i]?=some (.int .i64 k):=by
    have:=congrArg (fun l=>l[0]?) e1;simpa[List.getElem?_take,List.getElem?_drop]using this
  rw[hcell,←Array.getElem?_toList,e3,List.getD_eq_getElem?_getD,List.getElem?_eq_getElem htab,Option.getD_some,hk2]
end LaidT
namespace Plain
open Go.RowKit YtmgkbhhnchnkcaaGreatDoorW.PrintWords
theorem w64{x:Int}(h1: -9223372036854775808≤x)(h2:x≤9223372036854775807):wrap64 x=x:=by
  unfold wrap64;omega
theorem mul_bound{x y:Int}(A B:Int)(h1: -A≤x)(h2:x≤A)(h3: -B≤y)(h4:y≤B): -(A*B)≤x*y∧x*y≤A*B:=by
  have e1:0≤(A-x)*(B-y):=Int.mul_nonneg (by omega) (by omega);have e2:0≤(A+x)*(B+y):=Int.mul_nonneg (by omega) (by omega);have e3:0≤(A-x)*(B+y):=Int.mul_nonneg (by omega) (by omega);have e4:0≤(A+x)*(B-y):=Int.mul_nonneg (by omega) (by omega);simp only[Int.sub_mul,Int.mul_sub,Int.add_mul,Int.mul_add]at e1 e2 e3 e4;omega
theorem Ev.some{α:Type}{g:Nat→Option α}{r:α}(h:∀k,g k=some r):Ev g r:=⟨0,fun k _=>h k⟩
theorem Ev.ite{α:Type}{c:Prop}[Decidable c]{g f:Nat→Option α}{r q:α}(h:c→Ev g r)(k:¬c→Ev f q):Ev (fun n=>if c then g n else f n) (if c then r else q):=by
  by_cases hc:c
  · obtain⟨K,hK⟩:=h hc
    exact⟨K,fun n hn=>by simp only[if_pos hc];exact hK n hn⟩
  · obtain⟨K,hK⟩:=k hc
    exact⟨K,fun n hn=>by simp only[if_neg hc];exact hK n hn⟩
theorem Ev.pos{α:Type}{c:Prop}[Decidable c]{g f:Nat→Option α}{r:α}(hc:c)(h:Ev g r):Ev (fun n=>if c then g n else f n) r:=by
  obtain⟨K,hK⟩:=h;exact⟨K,fun n hn=>by simp only[if_pos hc];exact hK n hn⟩
theorem Ev.neg{α:Type}{c:Prop}[Decidable c]{g f:Nat→Option α}{r:α}(hc:¬c)(h:Ev f r):Ev (fun n=>if c then g n else f n) r:=by
  obtain⟨K,hK⟩:=h;exact⟨K,fun n hn=>by simp only[if_neg hc];exact hK n hn⟩
theorem Ev.bindc{α β:Type}{o:Option α}{f:Nat→α→Option β}{a:α}{r:β}(h:o=Option.some a)(k:Ev (fun n=>f n a) r):Ev (fun n=>o.bind (f n)) r:=by
  obtain⟨K,hK⟩:=k;exact⟨K,fun n hn=>by rw[h];exact hK n hn⟩
def allFrom(P:Nat→Bool):Nat→Nat→Bool
  |_,0=>true
  |i,d+1=>P i && allFrom P (i+1) d
theorem allFrom_iff (P:Nat→Bool):∀(d i:Nat),allFrom P i d=true↔∀j,i≤j→j<i+d→P j=true
  |0,i=>⟨fun _ j h1 h2=>by omega,fun _=>rfl⟩
  | d + 1,i=>by
    rw[allFrom,Bool.and_eq_true,allFrom_iff P d (i+1)]
    constructor
    · rintro⟨h0,h1⟩ j hj hj2
      by_cases e:j=i
      · subst e
        exact h0
      · exact h1 j (by omega) (by omega)
    · intro h
      exact⟨h i (by omega) (by omega),fun j hj hj2=>h j (by omega) (by omega)⟩
theorem allFrom_all{α:Type}(l:List α)(d:α)(p:α→Bool):allFrom (fun i=>p (l.getD i d)) 0 l.length=l.all p:=by
  rw[Bool.eq_iff_iff,allFrom_iff,List.all_eq_true]
  constructor
  · intro h x hx
    obtain⟨j,hj,rfl⟩:=List.getElem_of_mem hx;have:=h j (by omega) (by omega);simpa[List.getD,hj]using this
  · intro h j _ hj
    have hj':j<l.length:=by omega
    have:=h l[j] (List.getElem_mem hj');simpa[List.getD,hj']using this
theorem eq_loop{α:Type}(L:Nat→List α→List α→Int→Option Bool)
    (hL:∀k x0 x4,0≤x4→L (k+1) x0 x0 x4=if x4<(x0.length:Int)then L k x0 x0 (wrap64 (x4+1)) else some true)
    (x0:List α) (hb:x0.length≤140737488351232):∀(d k i:Nat),i+d=x0.length→d<k→L k x0 x0 (i:Int)=some true
  | 0,k,i,hi,hk=>by
    obtain⟨k,rfl⟩:∃m,k=m+1:=⟨k-1,by omega⟩
    rw[hL _ _ _ (by omega),if_neg (by omega)]
  | d+1,k,i,hi,hk=>by
    obtain⟨k,rfl⟩:∃m,k=m+1:=⟨k-1,by omega⟩
    rw[hL _ _ _ (by omega),if_pos (by omega),w64 (by omega) (by omega),show((i:Int)+1)=((i+1:Nat):Int) by omega];exact eq_loop L hL x0 hb d k (i+1) (by omega) (by omega)
theorem eq_all{α:Type}(L:Nat→List α→List α→Int→Option Bool)
    (hL:∀k x0 x4,0≤x4→L (k+1) x0 x0 x4=if x4<(x0.length:Int)then L k x0 x0 (wrap64 (x4+1)) else some true)
    (x0:List α) (hb:x0.length≤140737488351232):Ev (fun k=>L k x0 x0 0) true:=
  ⟨x0.length+1,fun k hk=>eq_loop L hL x0 hb x0.length k 0 (by omega) (by omega)⟩
theorem all_loop(P:Nat→Bool)(n:Nat)(hn:n≤140737488351232)(L:Nat→Int→Option Bool)(fin:Option Bool)
    (hL:∀k i,i<n→L (k+1) (i:Int)=if P i=true then L k (wrap64 (i+1)) else some false) (hend:∀k,L (k+1) (n:Int)=fin):
    ∀(d k i:Nat),i+d=n→d<k→L k (i:Int)=if allFrom P i d=true then fin else some false
  | 0,k,i,hi,hk=>by
    obtain⟨k,rfl⟩:∃m,k=m+1:=⟨k-1,by omega⟩
    obtain rfl:i=n:=by omega
    rw[hend,allFrom,if_pos rfl]
  | d+1,k,i,hi,hk=>by
    obtain⟨k,rfl⟩:∃m,k=m+1:=⟨k-1,by omega⟩
    rw[hL _ _ (by omega),w64 (by omega) (by omega),show((i:Int)+1)=((i+1:Nat):Int) by omega,all_loop P n hn L fin hL hend d k (i+1) (by omega) (by omega),allFrom];cases P i<;>simp
theorem all_ev(P:Nat→Bool)(n:Nat)(hn:n≤140737488351232)(L:Nat→Int→Option Bool)(fin:Option Bool)
    (hL:∀k i,i<n→L (k+1) (i:Int)=if P i=true then L k (wrap64 (i+1)) else some false) (hend:∀k,L (k+1) (n:Int)=fin):
    ∃K,∀k,K≤k→L k 0=if allFrom P 0 n=true then fin else some false:=
  ⟨n+1,fun k hk=>all_loop P n hn L fin hL hend n k 0 (by omega) (by omega)⟩
end Plain
namespace Elim
open Go Go.RowKit YtmgkbhhnchnkcaaGreatDoorW.PrintWords
abbrev Mx:=Nat→Nat→Int
def val(M:Mx)(k:Nat)(last:Int)(i j:Nat):Int:=wrap64 (Int.tdiv (wrap64 (wrap64 (M i j*M k k)-wrap64 (M i k*M k j))) last)
def swp{α:Type}(M:Nat→α)(a b:Nat):Nat→α:=fun i=>if i=a then M b else if i=b then M a else M i
def stp(M:Mx)(k:Nat)(last:Int):Mx:=fun i j=>if k<i∧k<j then val M k last i j else M i j
def piv(M:Mx)(k:Nat):Nat→Nat→Option Nat
  |0,_=>none
  |d+1,p=>if M p k=0 then piv M k d (p+1) else some p
def det:Nat→Nat→Int→Int→Mx→Int
  |0,_,s,l,_=>wrap64 (s*l)
  | d+1,k,s,l,M=>match piv M k (d+1) k with
    |none=>0
    |some p=>det d (k+1) (if p=k then s else wrap64 (-s)) ((swp M k p) k k) (stp (swp M k p) k l)
theorem piv_succ(M:Mx)(k d p:Nat):piv M k (d+1) p=if M p k=0 then piv M k d (p+1) else some p:=rfl
theorem det_succ(d k:Nat)(s l:Int)(M:Mx):det (d+1) k s l M=match piv M k (d+1) k with
    |none=>0
    |some p=>det d (k+1) (if p=k then s else wrap64 (-s)) ((swp M k p) k k) (stp (swp M k p) k l):=rfl
theorem piv_some(M:Mx)(k:Nat):∀(d p q:Nat),piv M k d p=some q→p≤q∧q<p+d∧M q k≠0∧∀i,p≤i→i<q→M i k=0
  |0,p,q,h=>by cases h
  | d +1,p,q,h=>by
    unfold piv at h;by_cases c:M p k=0
    · rw[if_pos c]at h
      obtain⟨h1,h2,h3,h4⟩:=piv_some M k d (p+1) q h;refine⟨by omega,by omega,h3,fun i hi hq=>?_⟩;by_cases e:i=p
      · rw[e];exact c
      · exact h4 i (by omega) hq
    · rw[if_neg c]at h
      obtain rfl:=Option.some.inj h;exact⟨Nat.le_refl _,by omega,c,fun i hi hq=>by omega⟩
def Same(k n:Nat)(M N:Mx):Prop:=∀i j,k≤i→i<n→k≤j→j<n→M i j=N i j
theorem piv_same{k n:Nat}{M N:Mx}(hk:k<n)(h:Same k n M N):∀(d p:Nat),k≤p→p+d≤n→piv M k d p=piv N k d p
  |0,p,_,_=>rfl
  | d+1,p,hp,hn=>by
    unfold piv;rw[h p k hp (by omega) (Nat.le_refl _) hk,piv_same hk h d (p+1) (by omega) (by omega)]
theorem swp_same{k n p:Nat}{M N:Mx}(hp:k≤p)(hpn:p<n)(hk:k<n)(h:Same k n M N):Same k n (swp M k p) (swp N k p):=fun i j hi hin hj hjn=>by
  unfold swp;by_cases c:i=k
  · rw[if_pos c,if_pos c];exact h p j hp hpn hj hjn
  · rw[if_neg c,if_neg c]
    by_cases c2:i=p
    · rw[if_pos c2,if_pos c2];exact h k j (Nat.le_refl _) hk hj hjn
    · rw[if_neg c2,if_neg c2];exact h i j hi hin hj hjn
theorem stp_same{k n:Nat}{M N:Mx}(l:Int)(hk:k<n)(h:Same k n M N):Same (k+1) n (stp M k l) (stp N k l):=fun i j hi hin hj hjn=>by
  unfold stp val;rw[if_pos ⟨by omega,by omega⟩,if_pos ⟨by omega,by omega⟩,h i j (by omega) hin (by omega) hjn,h k k (Nat.le_refl _) hk (Nat.le_refl _) hk,h i k (by omega) hin (Nat.le_refl _) hk,h k j (Nat.le_refl _) hk (by omega) hjn]
theorem det_same{n:Nat}:∀(d k:Nat) (s l:Int) (M N:Mx),k+d=n→Same k n M N→det d k s l M=det d k s l N
  |0,k,s,l,M,N,_,h=>rfl
  | d +1,k,s,l,M,N,hd,h=>by
    unfold det;rw[piv_same (by omega) h (d+1) k (Nat.le_refl _) (by omega)]
    cases hq:piv N k (d+1) k with
    |none=>rfl
    | some p=>
      have hp:=piv_some N k (d+1) k p hq;have hs:=swp_same (p:=p) hp.1 (by omega) (by omega) h;simp only;rw[hs k k (Nat.le_refl _) (by omega) (Nat.le_refl _) (by omega)];exact det_same d (k+1) _ _ _ _ (by omega) (stp_same l (by omega) hs)
def part(M:Mx)(k:Nat)(l:Int)(i:Nat):Mx:=fun a b=>if k<a∧a<i then(if k<b then val M k l a b else if b=k then 0 else M a b) else M a b
def partR(M:Mx)(k:Nat)(l:Int)(i c:Nat):Mx:=fun a b=>if a=i∧c≤b then(if k<b then val M k l a b else if b=k then 0 else M a b) else part M k l i a b
theorem part_start(M:Mx)(k:Nat)(l:Int):part M k l (k+1)=M:=by
  funext a b
  unfold part;rw[if_neg (by omega)]
theorem partR_end{M:Mx}{k:Nat}{l:Int}{i:Nat}(hi:k<i)(a b:Nat):partR M k l i k a b=part M k l (i+1) a b:=by
  unfold partR part;by_cases c:a=i
  · subst c
    rw[if_pos (show k<a∧a<a+1 from⟨by omega,by omega⟩),if_neg (show¬(k<a∧a<a)from fun h=>by omega)];by_cases hb:k≤b
    · rw[if_pos ⟨rfl,hb⟩]
    · rw[if_neg (fun h=>hb h.2),if_neg (by omega),if_neg (by omega)]
  · rw[if_neg (fun h=>c h.1)]
    by_cases d:k<a∧a<i
    · rw[if_pos d,if_pos (show k<a∧a<i+1 from⟨d.1,by omega⟩)]
    · rw[if_neg d,if_neg (show¬(k<a∧a<i+1)from fun h=>d ⟨h.1,by omega⟩)]
theorem partR_start{M:Mx}{k n:Nat}{l:Int}{i:Nat}(a b:Nat)(hb:b<n):partR M k l i n a b=part M k l i a b:=by
  unfold partR;rw[if_neg (fun h=>by omega)]
theorem part_row{M:Mx}{k:Nat}{l:Int}{i:Nat}(a b:Nat)(h:a≤k∨i≤a):part M k l i a b=M a b:=by
  unfold part;rw[if_neg (fun h'=>by omega)]
theorem partR_row{M:Mx}{k:Nat}{l:Int}{i c:Nat}(a b:Nat)(h:a≠i∨b<c)(h2:a≤k∨i≤a):partR M k l i c a b=M a b:=by
  unfold partR;rw[if_neg (fun h'=>by omega)];exact part_row a b h2
theorem partR_next{M:Mx}{k:Nat}{l:Int}{i j:Nat}(hl:l≠0)(hj:k≤j)(a b:Nat):partR M k l i j a b=if a=i∧b=j then val M k l i j else partR M k l i (j+1) a b:=by
  by_cases c:a=i∧b=j
  · obtain⟨rfl,rfl⟩:=c
    rw[if_pos ⟨rfl,rfl⟩];unfold partR;rw[if_pos ⟨rfl,Nat.le_refl _⟩];by_cases d:k<b
    · rw[if_pos d]
    · obtain rfl:b=k:=by omega
      rw[if_neg d,if_pos rfl];unfold val;rw[Int.sub_self];have:wrap64 0=0:=by unfold wrap64;omega
      rw[this,Int.zero_tdiv,this]
  · rw[if_neg c]
    unfold partR;by_cases d:a=i∧j+1≤b
    · rw[if_pos (show a=i∧j≤b from⟨d.1,by omega⟩),if_pos d]
    · rw[if_neg (show¬(a=i∧j≤b)from fun h=>d ⟨h.1,(by rcases Nat.lt_or_ge j b with hh|hh;exact hh;exact absurd ⟨h.1,by omega⟩ c)⟩),if_neg d]
theorem part_end{M:Mx}{k n:Nat}{l:Int}{a b:Nat}(ha:k+1≤a)(hn:a<n)(hb:k+1≤b):part M k l n a b=stp M k l a b:=by
  unfold part stp;rw[if_pos ⟨by omega,by omega⟩,if_pos (by omega),if_pos ⟨by omega,by omega⟩]
def partI(M:Mx)(k:Nat)(l:Int)(i:Nat):Mx:=fun a b=>if k<a∧a<i∧k<b then val M k l a b else M a b
def partC(M:Mx)(k:Nat)(l:Int)(i c:Nat):Mx:=fun a b=>if a=i∧k<b∧b<c then val M k l a b else partI M k l i a b
theorem partI_start(M:Mx)(k:Nat)(l:Int):partI M k l (k+1)=M:=by
  funext a b
  unfold partI;rw[if_neg (by omega)]
theorem partI_row{M:Mx}{k:Nat}{l:Int}{i:Nat}(a b:Nat)(h:a≤k∨i≤a):partI M k l i a b=M a b:=by
  unfold partI;rw[if_neg (by omega)]
theorem partC_row{M:Mx}{k:Nat}{l:Int}{i c:Nat}(a b:Nat)(h:a≠i∨b≤k∨c≤b)(h2:a≤k∨i≤a):partC M k l i c a b=M a b:=by
  unfold partC;rw[if_neg (by omega)];exact partI_row a b h2
theorem partC_start{M:Mx}{k:Nat}{l:Int}{i:Nat}(a b:Nat):partC M k l i (k+1) a b=partI M k l i a b:=by
  unfold partC;rw[if_neg (by omega)]
theorem partC_next {M:Mx} {k:Nat} {l:Int} {i j:Nat} (hj:k<j) (a b:Nat):partC M k l i (j+1) a b=if a=i∧b=j then val M k l i j else partC M k l i j a b:=by
  by_cases c:a=i∧b=j
  · obtain⟨rfl,rfl⟩:=c
    rw[if_pos ⟨rfl,rfl⟩];unfold partC;rw[if_pos ⟨rfl,hj,by omega⟩]
  · rw [if_neg c]
    unfold partC;by_cases d:a=i∧k<b∧b<j
    · rw[if_pos (show a=i∧k<b∧b<j+1 from⟨d.1,d.2.1,by omega⟩),if_pos d]
    · rw[if_neg (show¬(a=i∧k<b∧b<j+1)from fun h=>d ⟨h.1,h.2.1,by
        rcases Nat.lt_or_ge b j with hh|hh
        · exact hh
        · exact absurd ⟨h.1,by omega⟩ c⟩),if_neg d]
theorem partC_end{M:Mx}{k n:Nat}{l:Int}{i:Nat}(hi:k<i)(a b:Nat)(hb:b<n):partC M k l i n a b=partI M k l (i+1) a b:=by
  unfold partC partI;by_cases c:a=i
  · subst c
    by_cases d:k<b
    · rw[if_pos (show a=a∧k<b∧b<n from⟨rfl,d,hb⟩),if_pos (show k<a∧a<a+1∧k<b from⟨hi,by omega,d⟩)]
    · rw[if_neg (show¬(a=a∧k<b∧b<n)from fun h=>d h.2.1),if_neg (by omega),if_neg (by omega)]
  · rw[if_neg (fun h=>c h.1)]
    by_cases d:k<a∧a<i∧k<b
    · rw[if_pos d,if_pos (show k<a∧a<i+1∧k<b from⟨d.1,by omega,d.2.2⟩)]
    · rw[if_neg d,if_neg (show¬(k<a∧a<i+1∧k<b)from fun h=>d ⟨h.1,by omega,h.2.2⟩)]
theorem partI_end{M:Mx}{k n:Nat}{l:Int}{a b:Nat}(ha:k+1≤a)(hn:a<n)(hb:k+1≤b):partI M k l n a b=stp M k l a b:=by
  unfold partI stp;rw[if_pos ⟨by omega,by omega,by omega⟩,if_pos ⟨by omega,by omega⟩]
def pvI(M:Mx)(k n:Nat):Int:=match piv M k (n-k) k with
  |none=> -1
  |some p=>(p:Int)-(k:Int)
end Elim
namespace Net
open Go.RowKit YtmgkbhhnchnkcaaGreatDoorW.PrintWords YtmgkbhhnchnkcaaGreatDoorW.PrintLast YtmgkbhhnchnkcaaGreatDoorW.PrintMore A
theorem Sine.f_bound(a:Int): -1000≤Sine.f a∧Sine.f a≤1000:=by
  unfold Sine.f;split
  · have:=Sine.s_bound (a % 360);omega
  · have:=Sine.s_bound (a % 360-180);omega
def rnd(a:Int):Int:=if a<0 then-((2*(- a)+1000)/2000) else(2*a+1000)/2000
theorem rounded_eq(a:Int)(h0: -1000000000000≤a)(h1:a≤1000000000000):impl_rounded.f 2 a 1000=some (rnd a):=by
  have pos:∀k b:Int,0≤b→b≤1000000000000→∀n:Nat,impl_rounded.f (n+1) b 1000=some ((2*b+1000)/2000):=by
    intro k b hb0 hb1 n;have e1:wrap64 (2*b)=2*b:=by unfold wrap64;omega
    have e2:wrap64 (2*b+1000)=2*b+1000:=by unfold wrap64;omega
    have e3:wrap64 (2*1000)=2000:=by unfold wrap64;omega
    have e4:Int.tdiv (2*b+1000) 2000=(2*b+1000)/2000:=Int.tdiv_eq_ediv_of_nonneg (by omega);have e5:wrap64 ((2*b+1000)/2000)=(2*b+1000)/2000:=by unfold wrap64;omega
    have n0:¬b<0:=by omega
    simp only[impl_rounded.f,if_neg n0,e1,e2,e3,e4,e5];simp
  unfold rnd;by_cases h:a<0
  · have e1:wrap64 (-a)= -a:=by unfold wrap64;omega
    have e5:wrap64 (-((2*(- a)+1000)/2000))= -((2*(- a)+1000)/2000):=by unfold wrap64;omega
    rw[if_pos h];simp only[impl_rounded.f,if_pos h,e1];have:=pos 0 (-a) (by omega) (by omega) 0;simp only[Nat.zero_add,impl_rounded.f]at this;simp only[this,Option.bind_some,e5]
  · rw[if_neg h]
    exact pos 0 a (by omega) h1 1
theorem cosine(a:Int)(w:World)(hL:Sine.Laid w)(h0: -100000≤a)(h1:a≤100000):
    Calls Tryz.prog 151 #[.int .i64 a] w fun e w'=>e= .returned (.int .i64 (Sine.f (a+90)))∧Below w.heap.size w w':=by
  have b0: -1000000≤a+90:=by omega
  have b1:a+90≤1000000:=by omega
  have HL:=ak hL;clear hL;go_enter Tryz.func151,Tryz.ntmps151;go_wp2_with (go_at_call 152;(with_reducible refine(Sine.calls (a+90) _ ?s1 b0 b1).mono ?_);(case s1=>exact HL.out.keep (by repeat(first|exact Below.refl _ _|apply below_alloc|apply below_drew1)));rintro e w' ⟨rfl,hw⟩);go_ret;exact⟨rfl,(by first|exact hw|exact below_step (by repeat(first|exact Below.refl _ _|apply below_alloc|apply below_drew1)) hw)⟩
def part(l a:Int):Int×Int:=(rnd (l*Sine.f (a+90)),rnd (l*Sine.f a))
theorem prod_bound(l a:Int)(h0: -100000≤l)(h1:l≤100000): -100000000≤l*Sine.f a∧l*Sine.f a≤100000000:=by
  have hs:=Sine.f_bound a;generalize Sine.f a=s at *;have a1:(l+100000)*(1000-s)≥0:=Int.mul_nonneg (by omega) (by omega);have a2:(l+100000)*(s+1000)≥0:=Int.mul_nonneg (by omega) (by omega);have a3:(100000-l)*(1000-s)≥0:=Int.mul_nonneg (by omega) (by omega);have a4:(100000-l)*(s+1000)≥0:=Int.mul_nonneg (by omega) (by omega);simp only[Int.add_mul,Int.mul_add,Int.sub_mul,Int.mul_sub]at a1 a2 a3 a4;omega
theorem partOf(l a:Int)(w:World)(hL:Sine.Laid w)(h0: -100000≤l)(h1:l≤100000)(h2: -10000≤a)(h3:a≤10000):
    Calls Tryz.prog 136 #[.int .i64 l,.int .i64 a] w fun e w'=>e= .returned (.tuple #[.int .i64 (part l a).1,.int .i64 (part l a).2])∧Below w.heap.size w w':=by
  have b0: -100000≤a:=by omega
  have b1:a≤100000:=by omega
  have b2: -1000000≤a:=by omega
  have b3:a≤1000000:=by omega
  have p1:=prod_bound l (a+90) h0 h1;have p2:=prod_bound l a h0 h1;have e1:wrap64 (l*Sine.f (a+90))=l*Sine.f (a+90):=by unfold wrap64;omega
  have e2:wrap64 (l*Sine.f a)=l*Sine.f a:=by unfold wrap64;omega
  have R1:=ak (rounded_eq (l*Sine.f (a+90)) (by omega) (by omega));have R2:=ak (rounded_eq (l*Sine.f a) (by omega) (by omega));have HL:=ak hL;unfold part;clear hL p1 p2 h0 h1 h2 h3;have HB:=ak (Below.refl w.heap.size w);go_enter Tryz.func136,Tryz.ntmps136
  go_wp2_with (first
    |(go_at_call 151;(with_reducible refine(cosine a _ ?s1 b0 b1).mono ?_);(case s1=>exact HL.out.keep qz46);rintro e w' ⟨rfl,hw⟩;replace HB:=ak (below_step qz46 hw);clear hw)
    |(go_at_call 152;(with_reducible refine(Sine.calls a _ ?s1 b2 b3).mono ?_);(case s1=>exact HL.out.keep qz46);rintro e w' ⟨rfl,hw⟩;replace HB:=ak (below_step qz46 hw);clear hw)
    |(go_at_call 150;(first|(with_reducible refine(impl_rounded.calls 2 _ _ _ _ R1.out).mono ?_)|(with_reducible refine(impl_rounded.calls 2 _ _ _ _ R2.out).mono ?_));rintro e w' ⟨rfl,hq⟩;have hw:=hq.below;clear hq;replace HB:=ak (below_step qz46 hw);clear hw))
  exact bodyPost_ret (v:= .tuple #[.int .i64 (rnd (l*Sine.f (a+90))),.int .i64 (rnd (l*Sine.f a))]) (by simp[results,Tryz.results136,go_sem]) rfl ⟨rfl,qz46⟩
theorem mul_bound(l s b:Int)(h0: -b≤l)(h1:l≤b)(hs: -1000≤s∧s≤1000): -(1000*b)≤l*s∧l*s≤1000*b:=by
  have a1:(l+b)*(1000-s)≥0:=Int.mul_nonneg (by omega) (by omega);have a2:(l+b)*(s+1000)≥0:=Int.mul_nonneg (by omega) (by omega);have a3:(b-l)*(1000-s)≥0:=Int.mul_nonneg (by omega) (by omega);have a4:(b-l)*(s+1000)≥0:=Int.mul_nonneg (by omega) (by omega);simp only[Int.add_mul,Int.mul_add,Int.sub_mul,Int.mul_sub]at a1 a2 a3 a4;have c:=Int.mul_comm b s;omega
theorem rnd_bound(x b:Int)(h0: -(1000*b)≤x)(h1:x≤1000*b): -b≤rnd x∧rnd x≤b:=by
  unfold rnd;split<;>omega
theorem part_bound(l a b:Int)(h0: -b≤l)(h1:l≤b):(-b≤(part l a).1∧(part l a).1≤b)∧(-b≤(part l a).2∧(part l a).2≤b):=by
  unfold part;have h2:=mul_bound l _ b h0 h1 (Sine.f_bound (a+90));have h3:=mul_bound l _ b h0 h1 (Sine.f_bound a);exact⟨rnd_bound _ b h2.1 h2.2,rnd_bound _ b h3.1 h3.2⟩
def Good(x:S82):Prop:=(0≤x.f0∧x.f0<8)∧(0≤x.f1∧x.f1<8)∧x.f0≠x.f1∧(1≤x.f2∧x.f2≤500)∧(0≤x.f3∧x.f3≤359)∧(-90≤x.f4∧x.f4≤90)
def shift(x:S82):S72:=⟨(part (part x.f2 x.f4).1 x.f3).2,(part (part x.f2 x.f4).1 x.f3).1,(part x.f2 x.f4).2⟩
theorem shift_bound(x:S82)(h:Good x):(-500≤(shift x).f0∧(shift x).f0≤500)∧(-500≤(shift x).f1∧(shift x).f1≤500)∧(-500≤(shift x).f2∧(shift x).f2≤500):=by
  obtain⟨_,_,_,h2,h3,h4⟩:=h;have a:=part_bound x.f2 x.f4 500 (by omega) (by omega);have b:=part_bound (part x.f2 x.f4).1 x.f3 500 a.1.1 a.1.2;exact⟨b.2,b.1,a.2⟩
theorem keepz{w W:World}{a:Addr}{v:Value}(h:w.cell? a=some v)(hf:w.frozen? a=false)(hb:Below w.heap.size w W):W.frozen? a=false:=(hb.frozen (World.block_lt_of_cell? w _ h)).trans hf
theorem legShift(x:S82)(w:World)(hL:Sine.Laid w)(h:Good x):
    Calls Tryz.prog 111 #[.agg #[.int .i64 x.f0,.int .i64 x.f1,.int .i64 x.f2,.int .i64 x.f3,.int .i64 x.f4]] w fun e w'=>e= .returned (.agg #[.int .i64 (shift x).f0,.int .i64 (shift x).f1,.int .i64 (shift x).f2])∧Below w.heap.size w w':=by
  obtain⟨_,_,_,h2,h3,h4⟩:=h;have a:=part_bound x.f2 x.f4 500 (by omega) (by omega);have P1:=fun W hl=>ak (partOf x.f2 x.f4 W hl (by omega) (by omega) (by omega) (by omega))
  have P2:=fun W hl=>ak (partOf (part x.f2 x.f4).1 x.f3 W hl (by omega) (by omega) (by omega) (by omega))
  have HL:=ak hL;have HB:=ak (Below.refl w.heap.size w);clear hL a h2 h3 h4;unfold shift;generalize part x.f2 x.f4=p at *;generalize part p.1 x.f3=r at *;go_enter Tryz.func111,Tryz.ntmps111
  go_wp2_with (first
    | (go_at_call 136;(first|(with_reducible refine(P1 _ ?s1).out.mono ?_)|(with_reducible refine(P2 _ ?s1).out.mono ?_));(case s1=>exact HL.out.keep qz46);rintro e w' ⟨rfl,hw⟩;replace HB:=ak (below_step qz46 hw)
       have k2:w'.cell? ⟨w.heap.size,2,none⟩=some (.int .i64 x.f2):=Sine.keepc qz57 hw;have k3:w'.cell? ⟨w.heap.size,3,none⟩=some (.int .i64 x.f3):=Sine.keepc qz57 hw;have k4:w'.cell? ⟨w.heap.size,4,none⟩=some (.int .i64 x.f4):=Sine.keepc qz57 hw;have g0:w'.cell? ⟨w.heap.size+1,0,none⟩=some (.int .i64 0):=Sine.keepc qz57 hw;have g1:w'.cell? ⟨w.heap.size+1,1,none⟩=some (.int .i64 0):=Sine.keepc qz57 hw;have g2:w'.cell? ⟨w.heap.size+1,2,none⟩=some (.int .i64 0):=Sine.keepc qz57 hw;have z0:w'.frozen? ⟨w.heap.size+1,0,none⟩=false:=keepz (v:= .int .i64 0) qz57 qz57 hw;have z1:w'.frozen? ⟨w.heap.size+1,1,none⟩=false:=keepz (v:= .int .i64 0) qz57 qz57 hw;have z2:w'.frozen? ⟨w.heap.size+1,2,none⟩=false:=keepz (v:= .int .i64 0) qz57 qz57 hw
       clear hw))
  refine bodyPost_ret (v:= .agg #[.int .i64 r.2,.int .i64 r.1,.int .i64 p.2]) (by simp[results,Tryz.results111,go_sem,g0,g1,g2]) rfl ⟨rfl,(by repeat(first|exact HB.out|apply below_alloc|apply below_drew1|(refine below_set ?_ (by omega))))⟩
end Net
namespace Tree
variable {V E:Type}
def verts(r:V)(q:List (E×V×V)):List V:=r::q.map (fun x=>x.2.2)
def legs(q:List (E×V×V)):List E:=q.map (fun x=>x.1)
inductive Tr (r:V):List (E×V×V)→Prop
  |nil:Tr r []
  |cons {q i u s}:Tr r q→u∈verts r q→s∉verts r q→i∉legs q→Tr r ((i,u,s)::q)
def Joins(q:List (E×V×V))(i:E)(a b:V):Prop:=(i,a,b)∈q∨(i,b,a)∈q
inductive Walk (q:List (E×V×V)):V→Option E→List E→V→Prop
  |nil {a o}:Walk q a o [] a
  |cons {a o i c l b}:Joins q i a c→o≠some i→Walk q c (some i) l b→Walk q a o (i::l) b
def W[DecidableEq V]:List (E×V×V)→V→V→List E
  |[],_,_=>[]
  |(i,u,s)::q,a,b=>if a=s then(if b=s then[] else i::W q u b) else if b=s then W q a u++[i] else W q a b
theorem joins_verts{r:V}{q:List (E×V×V)}(t:Tr r q){i a c}(h:Joins q i a c):a∈verts r q∧c∈verts r q∧i∈legs q:=by
  induction t with
  |nil=>simp[Joins]at h
  | cons t hu hs hi ih=>
    simp only[Joins,List.mem_cons,Prod.mk.injEq]at h
    have up:∀{x:V} {q:List (E×V×V)} {y},x∈verts r q→x∈verts r (y::q):=by
      intro x q y hx;simp only[verts,List.map_cons,List.mem_cons]at hx ⊢;rcases hx with h|h
      · exact Or.inl h
      · exact Or.inr (Or.inr h)
    rcases h with(⟨rfl,rfl,rfl⟩|h)|(⟨rfl,rfl,rfl⟩|h)
    · exact⟨up hu,(by simp[verts]),(by simp[legs])⟩
    · obtain⟨p,q',l⟩:=ih (Or.inl h)
      exact⟨up p,up q',(by simp only[legs,List.map_cons,List.mem_cons]at l ⊢;exact Or.inr l)⟩
    · exact⟨(by simp[verts]),up hu,(by simp[legs])⟩
    · obtain⟨p,q',l⟩:=ih (Or.inr h)
      exact⟨up p,up q',(by simp only[legs,List.map_cons,List.mem_cons]at l ⊢;exact Or.inr l)⟩
theorem W_self[DecidableEq V](q:List (E×V×V))(a:V):W q a a=[]:=by
  induction q with
  |nil=>rfl
  | cons x q ih=>
    obtain⟨i,u,s⟩:=x;simp only[W];by_cases h:a=s
    · rw[if_pos h,if_pos h]
    · rw[if_neg h,if_neg h,ih]
theorem W_len [DecidableEq V] (q:List (E×V×V)) (a b:V):(W q a b).length≤q.length:=by
  induction q generalizing a b with
  |nil=>simp[W]
  | cons x q ih=>
    obtain⟨i,u,s⟩:=x;simp only[W,List.length_cons];split
    · split
      · simp
      · have:=ih u b
        simp only[List.length_cons];omega
    · split
      · have:=ih a u
        simp only[List.length_append,List.length_cons,List.length_nil];omega
      · have:=ih a b
        omega
theorem Walk.snoc{q:List (E×V×V)}{i:E}{a o l u s}(h:Walk q a o l u)(hj:Joins q i u s)(hi:i∉l)(ho:o≠some i):Walk q a o (l++[i]) s:=by
  induction h with
  |nil=>exact .cons hj ho .nil
  | cons hj1 ho1 _ ih=>
    exact .cons hj1 ho1 (ih hj (fun h=>hi (List.mem_cons_of_mem _ h)) (fun e=>hi (by injection e with e;rw[e];exact List.mem_cons_self)))
end Tree
namespace Conn
variable {V:Type}
inductive Conn (R:V→V→Prop) (x:V):V→Prop
  |refl:Conn R x x
  |step {y z}:Conn R x y→R y z→Conn R x z
theorem Conn.one{R:V→V→Prop}{x y:V}(h:R x y):Conn R x y:= .step .refl h
theorem Conn.trans{R:V→V→Prop}{x y z:V}(h:Conn R x y)(h':Conn R y z):Conn R x z:=by
  induction h' with
  |refl=>exact h
  |step _ r ih=>exact .step ih r
theorem Conn.symm{R:V→V→Prop}(hs:∀a b,R a b→R b a){x y:V}(h:Conn R x y):Conn R y x:=by
  induction h with
  |refl=>exact .refl
  |step _ r ih=>exact(Conn.one (hs _ _ r)).trans ih
theorem Conn.closed{R:V→V→Prop}{S:V→Prop}(hc:∀a b,S a→R a b→S b){x y:V}(hx:S x)(h:Conn R x y):S y:=by
  induction h with
  |refl=>exact hx
  |step _ r ih=>exact hc _ _ ih r
theorem Conn.map{R Q:V→V→Prop}(hr:∀a b,R a b→Conn Q a b){x y:V}(h:Conn R x y):Conn Q x y:=by
  induction h with
  |refl=>exact .refl
  |step _ r ih=>exact ih.trans (hr _ _ r)
theorem round{R Q:V→V→Prop}(hs:∀a b,Q a b→Q b a){a b o:V}(hr:∀x y,R x y→Q x y∨(x=a∧y=b)∨(x=b∧y=a))
    (ho:Conn R o a):Conn Q a b↔(Conn Q o a∧Conn Q o b):=by
  constructor
  · intro h
    have up:Conn Q o a:=ho.map (fun x y r=>by
      rcases hr x y r with q|⟨rfl,rfl⟩|⟨rfl,rfl⟩
      · exact .one q
      · exact h
      · exact h.symm hs)
    exact⟨up,up.trans h⟩
  · rintro⟨h1,h2⟩
    exact(h1.symm hs).trans h2
end Conn
namespace Grow
open Tree Conn
abbrev Q:=List (Int×Int×Int)
variable (e:Int→Int×Int)
def step(q:Q)(i:Int):Q:=
  if(e i).1∈verts 0 q∧(e i).2∉verts 0 q then(i,(e i).1,(e i).2)::q
  else if(e i).2∈verts 0 q∧(e i).1∉verts 0 q then(i,(e i).2,(e i).1)::q
  else q
def sweep:Nat→Int→Q→Q
  |0,_,q=>q
  |m+1,a,q=>sweep m (a+1) (step e q a)
def grow(n:Nat):Nat→Q→Q
  |0,q=>q
  |k+1,q=>if(sweep e n 0 q).length=q.length then q else grow n k (sweep e n 0 q)
structure Ok(n:Nat)(q:Q):Prop where
  tr:Tr (0:Int) q
  ends:∀x∈q,(e x.1=(x.2.1,x.2.2)∨e x.1=(x.2.2,x.2.1))∧0≤x.1∧x.1<n
theorem Ok.nil(n:Nat):Ok e n []:=⟨.nil,by simp⟩
theorem Ok.legs_ends{n:Nat}{q:Q}(h:Ok e n q){i}(hi:i∈legs q):(e i).1∈verts 0 q∧(e i).2∈verts 0 q∧Joins q i (e i).1 (e i).2∧0≤i∧i<n:=by
  simp only[legs,List.mem_map]at hi;obtain⟨⟨j,u,s⟩,hx,rfl⟩:=hi;obtain⟨he,h0⟩:=h.ends _ hx;have hj:Joins q j u s:=Or.inl hx;have hv:=joins_verts h.tr hj;simp only at he h0 ⊢;rcases he with he|he<;>rw[he]
  · exact⟨hv.1,hv.2.1,hj,h0⟩
  · exact⟨hv.2.1,hv.1,Or.inr hx,h0⟩
theorem Ok.step{n:Nat}{q:Q}(h:Ok e n q){i:Int}(h0:0≤i)(h1:i<n):Ok e n (step e q i):=by
  unfold Grow.step;split
  · rename_i c
    refine⟨.cons h.tr c.1 c.2 (fun hi=>c.2 (h.legs_ends e hi).2.1),?_⟩;intro x hx;rcases List.mem_cons.mp hx with rfl|hx
    · exact⟨Or.inl rfl,h0,h1⟩
    · exact h.ends x hx
  · split
    · rename_i c
      refine⟨.cons h.tr c.1 c.2 (fun hi=>c.2 (h.legs_ends e hi).1),?_⟩;intro x hx;rcases List.mem_cons.mp hx with rfl|hx
      · exact⟨Or.inr rfl,h0,h1⟩
      · exact h.ends x hx
    · exact h
theorem Ok.sweep{n:Nat}:∀{m:Nat} {a:Int} {q:Q},Ok e n q→0≤a→a+m≤n→Ok e n (sweep e m a q)
  |0,_,_,h,_,_=>h
  |m+1,a,_,h,h0,h1=>Ok.sweep (m:=m) (h.step e h0 (by omega)) (by omega) (by omega)
theorem step_len(q:Q)(i:Int):q.length≤(step e q i).length:=by
  unfold step;split
  · simp
  · split<;>simp
theorem sweep_len:∀(m:Nat) (a:Int) (q:Q),q.length≤(sweep e m a q).length
  |0,_,_=>Nat.le_refl _
  |m+1,a,q=>Nat.le_trans (step_len e q a) (sweep_len m (a+1) (step e q a))
theorem step_same{q:Q}{i:Int}(h:(step e q i).length=q.length):step e q i=q∧((e i).1∈verts 0 q↔(e i).2∈verts 0 q):=by
  unfold step at h ⊢;split at h
  · simp at h
  · rename_i c
    split at h
    · simp at h
    · rename_i c2
      rw[if_neg c,if_neg c2];refine⟨rfl,?_⟩;by_cases p:(e i).1∈verts 0 q<;>by_cases p2:(e i).2∈verts 0 q<;>simp_all
theorem sweep_same:∀{m:Nat} {a:Int} {q:Q},(sweep e m a q).length=q.length →
    sweep e m a q=q∧∀i:Int,a≤i→i<a+m→((e i).1∈verts 0 q↔(e i).2∈verts 0 q)
  |0,a,q,_=>⟨rfl,fun i h0 h1=>by omega⟩
  | m+1,a,q,h=>by
    have l1:=step_len e q a;have l2:=sweep_len e m (a+1) (step e q a);simp only[sweep]at h ⊢;obtain⟨s1,s2⟩:=step_same e (q:=q) (i:=a) (by omega);rw[s1]at h ⊢;obtain⟨t1,t2⟩:=sweep_same (m:=m) (a:=a+1) h;refine⟨t1,fun i h0 h1=>?_⟩;by_cases hi:i=a
    · subst hi;exact s2
    · exact t2 i (by omega) (by omega)
theorem nodup{q:Q}(t:Tr (0:Int) q):(verts 0 q).Nodup:=by
  induction t with
  |nil=>simp[verts]
  | cons _ _ hs _ ih=>
    simp only[verts,List.map_cons,List.nodup_cons,List.mem_cons,not_or]at ih hs ⊢;exact⟨⟨fun h=>hs.1 h.symm,ih.1⟩,hs.2,ih.2⟩
theorem in_range{n:Nat}{q:Q}(h:Ok e n q)(hr:∀i:Int,0≤i→i<n→0≤(e i).1∧(e i).1<8∧0≤(e i).2∧(e i).2<8):∀s∈verts 0 q,0≤s∧s<8:=by
  intro s hs;simp only[verts,List.mem_cons,List.mem_map]at hs;rcases hs with rfl|⟨x,hx,rfl⟩
  · omega
  · obtain⟨he,h0,h1⟩:=h.ends x hx
    have:=hr _ h0 h1;rcases he with he|he<;>rw[he]at this<;>simp only at this<;>omega
theorem nodup_len:∀{m:Nat} {l:List Int},l.Nodup→(∀s∈l,0≤s∧s<m)→l.length≤m
  | 0,l,_,h=>by
    cases l with
    |nil=>simp
    |cons a l=>have:=h a List.mem_cons_self;omega
  | m + 1,l,hn,h=>by
    by_cases hm:(m:Int)∈l
    · have:=nodup_len (m:=m) (l:=l.erase m) (hn.erase _) (fun s hs=>by
        have h1:=h s (List.mem_of_mem_erase hs);have h2:s≠m:=fun e=>by subst e;exact(List.Nodup.not_mem_erase hn) hs
        omega)
      rw[List.length_erase_of_mem hm]at this;omega
    · have:=nodup_len (m:=m) (l:=l) hn (fun s hs=>by
        have h1:=h s hs;have h2:s≠m:=fun e=>hm (e▸hs)
        omega)
      omega
theorem Ok.len{n:Nat}{q:Q}(h:Ok e n q)(hr:∀i:Int,0≤i→i<n→0≤(e i).1∧(e i).1<8∧0≤(e i).2∧(e i).2<8):q.length≤7:=by
  have:=nodup_len (m:=8) (nodup h.tr) (in_range e h hr);simp only[verts,List.length_cons,List.length_map]at this;omega
theorem grow_end{n:Nat}(hr:∀i:Int,0≤i→i<n→0≤(e i).1∧(e i).1<8∧0≤(e i).2∧(e i).2<8):
    ∀ (k:Nat) (q:Q),Ok e n q→8≤k+q.length→Ok e n (grow e n k q)∧sweep e n 0 (grow e n k q)=grow e n k q ∧
      ∀i:Int,0≤i→i<n→((e i).1∈verts 0 (grow e n k q)↔(e i).2∈verts 0 (grow e n k q))
  |0,q,h,hk=>by have:=h.len e hr;omega
  | k +1,q,h,hk=>by
    simp only[grow];have hs:Ok e n (sweep e n 0 q):=h.sweep e (by omega) (by omega);split
    · rename_i c
      obtain⟨s1,s2⟩:=sweep_same e c;exact⟨h,s1,fun i h0 h1=>s2 i h0 (by omega)⟩
    · rename_i c
      have:=sweep_len e n 0 q;exact grow_end hr k _ hs (by omega)
def Rel(n:Nat)(a b:Int):Prop:=∃i:Int,0≤i∧i<n∧(e i=(a,b)∨e i=(b,a))
theorem Ok.conn{n:Nat}{q:Q}(h:Ok e n q):∀s∈verts 0 q,Conn (Rel e n) 0 s:=by
  obtain⟨t,hx⟩:=h
  induction t with
  |nil=>intro s hs;simp[verts]at hs;subst hs;exact .refl
  | cons t hu hs hi ih=>
    rename_i q i u s
    intro x hm;simp only[verts,List.map_cons,List.mem_cons]at hm;have ih':=ih (fun x h=>hx x (List.mem_cons_of_mem _ h));rcases hm with rfl|rfl|hm
    · exact .refl
    · obtain⟨he,h0,h1⟩:=hx (i,u,x) List.mem_cons_self
      exact(ih' u hu).step ⟨i,h0,h1,he⟩
    · exact ih' x qz87
end Grow
namespace Bfs
open Tree Conn Grow
variable (e:Int→Int×Int) (use:Int→Bool) (r:Int)
def other(i a:Int):Int:=(e i).1+(e i).2-a
def look(a:Int)(q:Q)(i:Int):Q:=
  if((e i).1≠a∧(e i).2≠a)∨use i=false then q
  else if other e i a∈verts r q then q else(i,a,other e i a)::q
def scan(a:Int):Nat→Int→Q→Q
  |0,_,q=>q
  |m+1,b,q=>scan a m (b+1) (look e use r a q b)
def queue(q:Q):List Int:=r::(q.map (fun x=>x.2.2)).reverse
def run(n:Nat):Nat→Nat→Q→Q
  |0,_,q=>q
  |f+1,k,q=>if k<(queue r q).length then run n f (k+1) (scan e use r ((queue r q).getD k 0) n 0 q) else q
structure Ok(n:Nat)(q:Q):Prop where
  tr:Tr r q
  ends:∀x∈q,(e x.1=(x.2.1,x.2.2)∨e x.1=(x.2.2,x.2.1))∧(0≤x.1∧x.1<n)∧use x.1=true
theorem Ok.nil(n:Nat):Ok e use r n []:=⟨.nil,by simp⟩
theorem mem_queue(q:Q)(s:Int):s∈queue r q↔s∈verts r q:=by simp[queue,verts]
theorem look_cases{a i:Int}(h:¬(((e i).1≠a∧(e i).2≠a)∨use i=false)):
    use i=true∧(e i=(a,other e i a)∨e i=(other e i a,a)):=by
  have hu:use i=true:=by
    cases hb:use i
    · exact absurd (Or.inr hb) h
    · rfl
  refine⟨hu,?_⟩;by_cases h1:(e i).1=a
  · left
    ext
    · exact h1
    · simp only[other];omega
  · by_cases h2:(e i).2=a
    · right
      ext
      · simp only[other];omega
      · exact h2
    · exact absurd (Or.inl ⟨h1,h2⟩) h
theorem Ok.legs_ends{n:Nat}{q:Q}(h:Ok e use r n q){i}(hi:i∈legs q):(e i).1∈verts r q∧(e i).2∈verts r q:=by
  simp only[legs,List.mem_map]at hi;obtain⟨⟨j,u,s⟩,hx,rfl⟩:=hi;obtain⟨he,h0⟩:=h.ends _ hx;have hj:Joins q j u s:=Or.inl hx;have hv:=joins_verts h.tr hj;simp only at he h0 ⊢;rcases he with he|he<;>rw[he]
  · exact⟨hv.1,hv.2.1⟩
  · exact⟨hv.2.1,hv.1⟩
theorem Ok.look {n:Nat} {q:Q} (h:Ok e use r n q) {a i:Int} (ha:a∈verts r q) (h0:0≤i) (h1:i<n):Ok e use r n (look e use r a q i):=by
  unfold Bfs.look;split
  · exact h
  · rename_i c
    obtain⟨hu,he⟩:=look_cases e use c;split
    · exact h
    · rename_i c2
      refine⟨.cons h.tr ha c2 (fun hi=>?_),?_⟩
      · have:=h.legs_ends e use r hi
        rcases he with he|he<;>rw[he]at this
        · exact c2 this.2
        · exact c2 this.1
      · intro x hx
        rcases List.mem_cons.mp hx with rfl|hx
        · exact⟨he,⟨h0,h1⟩,hu⟩
        · exact h.ends x hx
def Ext(q q':Q):Prop:=∃p,q'=p++q
theorem Ext.refl(q:Q):Ext q q:=⟨[],rfl⟩
theorem Ext.trans{a b c:Q}(h:Ext a b)(h':Ext b c):Ext a c:=by
  obtain⟨p,rfl⟩:=h;obtain⟨p',rfl⟩:=h';exact⟨p'++p,(by rw[List.append_assoc])⟩
theorem look_ext(a:Int)(q:Q)(i:Int):Ext q (look e use r a q i):=by
  unfold look;split
  · exact .refl q
  · split
    · exact .refl q
    · exact⟨[_],rfl⟩
theorem scan_ext(a:Int):∀(m:Nat) (b:Int) (q:Q),Ext q (scan e use r a m b q)
  |0,_,q=> .refl q
  |m+1,b,q=>(look_ext e use r a q b).trans (scan_ext a m (b+1) _)
theorem Ext.verts{q q':Q}(h:Ext q q'){s:Int}(hs:s∈Tree.verts r q):s∈Tree.verts r q':=by
  obtain⟨p,rfl⟩:=h;simp only[Tree.verts,List.map_append,List.mem_cons,List.mem_append]at hs ⊢;rcases hs with h|h
  · exact Or.inl h
  · exact Or.inr (Or.inr h)
theorem Ext.queue{q q':Q}(h:Ext q q'):∃t,Bfs.queue r q'=Bfs.queue r q++t:=by
  obtain⟨p,rfl⟩:=h;exact⟨(p.map (fun x=>x.2.2)).reverse,(by simp[Bfs.queue])⟩
theorem Ext.queue_getD{q q':Q}(h:Ext q q'){k:Nat}(hk:k<(Bfs.queue r q).length):(Bfs.queue r q').getD k 0=(Bfs.queue r q).getD k 0:=by
  obtain⟨t,ht⟩:=h.queue r;rw[ht];simp[List.getD_eq_getElem?_getD,List.getElem?_append_left hk]
theorem scan_ok{n:Nat}{a:Int}:∀{m:Nat} {b:Int} {q:Q},Ok e use r n q→a∈verts r q→0≤b→b+m≤n→Ok e use r n (scan e use r a m b q)
  |0,_,_,h,_,_,_=>h
  |m+1,b,q,h,ha,h0,h1=>scan_ok (m:=m) (h.look e use r ha h0 (by omega)) ((look_ext e use r a q b).verts r ha) (by omega) (by omega)
theorem scan_done {a:Int}:∀{m:Nat} {b:Int} {q:Q} (i c:Int),b≤i→i<b+m→use i=true→(e i=(a,c)∨e i=(c,a))→c∈verts r (scan e use r a m b q)
  |0,_,_,i,c,h0,h1,_,_=>by omega
  | m + 1,b,q,i,c,h0,h1,hu,he=>by
    simp only[scan];by_cases hi:i=b
    · subst hi
      refine(scan_ext e use r a m (i+1) _).verts r ?_
      have hc:other e i a=c:=by
        simp only[other];rcases he with he|he<;>rw[he]<;>simp only<;>omega
      unfold look;split
      · rename_i h
        rcases h with⟨x,y⟩|h
        · rcases he with he|he<;>rw[he]at x y
          · exact absurd rfl x
          · exact absurd rfl y
        · rw[hu]at h;cases h
      · rw[hc]
        split
        · assumption
        · simp[verts]
    · exact scan_done (m:=m) i c (by omega) (by omega) hu he
def Done(n:Nat)(k:Nat)(q:Q):Prop:=∀j,j<k→j<(queue r q).length→∀i c:Int,0≤i→i<n→use i=true →
  (e i=((queue r q).getD j 0,c)∨e i=(c,(queue r q).getD j 0))→c∈verts r q
theorem nodup{q:Q}(t:Tr r q):(verts r q).Nodup:=by
  induction t with
  |nil=>simp[verts]
  | cons _ _ hs _ ih=>
    simp only[verts,List.map_cons,List.nodup_cons,List.mem_cons,not_or]at ih hs ⊢;exact⟨⟨fun h=>hs.1 h.symm,ih.1⟩,hs.2,ih.2⟩
theorem Ok.len{n:Nat}{q:Q}(h:Ok e use r n q)(h0:0≤r∧r<8)(hr:∀i:Int,0≤i→i<n→0≤(e i).1∧(e i).1<8∧0≤(e i).2∧(e i).2<8):q.length≤7:=by
  have:=nodup_len (m:=8) (nodup r h.tr) (by
    intro s hs;simp only[verts,List.mem_cons,List.mem_map]at hs;rcases hs with rfl|⟨x,hx,rfl⟩
    · exact h0
    · obtain⟨he,⟨h0,h1⟩,_⟩:=h.ends x hx
      have:=hr _ h0 h1
      rcases he with he|he<;>rw[he]at this<;>simp only at this<;>omega)
  simp only[verts,List.length_cons,List.length_map]at this;omega
theorem queue_len(q:Q):(queue r q).length=q.length+1:=by simp[queue]
theorem run_end {n:Nat} (h0:0≤r∧r<8) (hr:∀i:Int,0≤i→i<n→0≤(e i).1∧(e i).1<8∧0≤(e i).2∧(e i).2<8):
    ∀ (f k:Nat) (q:Q),Ok e use r n q→Done e use r n k q→8<f+k→k≤(queue r q).length →
      Ok e use r n (run e use r n f k q)∧∀a∈verts r (run e use r n f k q),∀i c:Int,0≤i→i<n→use i=true→(e i=(a,c)∨e i=(c,a))→c∈verts r (run e use r n f k q)
  | 0,k,q,h,hd,hk,hl=>by
    have:=h.len e use r h0 hr;have:=queue_len r q;omega
  | f + 1,k,q,h,hd,hk,hl=>by
    simp only[run];split
    · rename_i c
      have ha:(queue r q).getD k 0∈verts r q:=by
        rw[←mem_queue];rw[List.getD_eq_getElem?_getD,List.getElem?_eq_getElem c];exact List.getElem_mem c
      have hx:=scan_ext e use r ((queue r q).getD k 0) n 0 q;have hq:=hx.queue r;refine run_end h0 hr f (k+1) _ (scan_ok e use r h ha (by omega) (by omega)) ?_ (by omega) ?_
      · intro j hj hj' i d hi0 hi1 hu he
        have hjl:j<(queue r q).length:=by omega
        rw[hx.queue_getD r hjl]at he;by_cases hjk:j=k
        · subst hjk
          exact scan_done e use r i d hi0 (by omega) hu he
        · exact hx.verts r (hd j (by omega) hjl i d hi0 hi1 hu he)
      · obtain⟨t,ht⟩:=hq
        rw[ht,List.length_append];omega
    · rename_i c
      refine⟨h,?_⟩;intro a ha i d hi0 hi1 hu he;rw[←mem_queue]at ha;obtain⟨j,hj,hja⟩:=List.getElem_of_mem ha;refine hd j (by omega) hj i d hi0 hi1 hu ?_;rw[List.getD_eq_getElem?_getD,List.getElem?_eq_getElem hj,hja];exact he
def RelU(n:Nat)(a b:Int):Prop:=∃i:Int,0≤i∧i<n∧use i=true∧(e i=(a,b)∨e i=(b,a))
theorem Ok.conn{n:Nat}{q:Q}(h:Ok e use r n q):∀s∈verts r q,Conn (RelU e use n) r s:=by
  obtain⟨t,hx⟩:=h
  induction t with
  |nil=>intro s hs;simp[verts]at hs;subst hs;exact .refl
  | cons t hu hs hi ih=>
    rename_i q i u s
    intro x hm;simp only[verts,List.map_cons,List.mem_cons]at hm;have ih':=ih (fun x h=>hx x (List.mem_cons_of_mem _ h));rcases hm with rfl|rfl|hm
    · exact .refl
    · obtain⟨he,⟨h0,h1⟩,hu'⟩:=hx (i,u,x) List.mem_cons_self
      exact(ih' u hu).step ⟨i,h0,h1,hu',he⟩
    · exact ih' x qz87
theorem found_iff{n:Nat}(h0:0≤r∧r<8)(hr:∀i:Int,0≤i→i<n→0≤(e i).1∧(e i).1<8∧0≤(e i).2∧(e i).2<8)(s:Int):
    s∈verts r (run e use r n 9 0 [])↔Conn (RelU e use n) r s:=by
  obtain⟨h1,h2⟩:=run_end e use r h0 hr 9 0 [] (Ok.nil e use r n) (by intro j hj;omega) (by omega) (by omega);refine⟨h1.conn e use r s,fun hs=>hs.closed ?_ (by simp[verts])⟩;rintro a b ha ⟨i,hi0,hi1,hu,he⟩;exact h2 a ha i b hi0 hi1 hu he
def back:Q→Int→List Int
  |[],_=>[]
  |(i,u,s)::q,a=>if a=s then i::back q u else back q a
theorem back_eq{q:Q}(t:Tr r q):∀{a},a∈verts r q→back q a=W q a r:=by
  induction t with
  |nil=>intro a _;rfl
  | cons t hu hs hi ih=>
    rename_i q i u s
    intro a ha;have hr:¬r=s:=fun e=>hs (by simp[verts,e])
    simp only[back,W];by_cases c:a=s
    · rw[if_pos c,if_pos c,if_neg hr,ih hu]
    · rw[if_neg c,if_neg c,if_neg hr]
      refine ih ?_;simp only[verts,List.map_cons,List.mem_cons]at ha ⊢;rcases ha with h|h|h
      · exact Or.inl h
      · exact absurd h c
      · exact Or.inr h
end Bfs
namespace Way
open Tree Conn Grow
theorem Walk.map{q q':Q}(hj:∀i a b,Joins q i a b→Joins q' i a b){a:Int}{o:Option Int}{l:List Int}{b:Int}(h:Walk q a o l b):Walk q' a o l b:=by
  induction h with
  |nil=>exact .nil
  |cons h1 h2 _ ih=>exact .cons (hj _ _ _ h1) h2 ih
variable (e:Int→Int×Int)
end Way
namespace Dfs
open Tree Grow
theorem Walk.ext{q:Q}{i:Int}{a:Int}{o:Option Int}{l:List Int}{b c:Int}(h:Walk q a o l b)(hj:Joins q i b c)(hi:l.getLast?.or o≠some i):Walk q a o (l++[i]) c:=by
  induction h with
  |nil=>exact .cons hj hi .nil
  | cons h1 h2 h3 ih=>
    rename_i a o j d l b
    refine .cons h1 h2 (ih hj ?_);rw[List.getLast?_cons]at hi
    cases hl:l.getLast? with
    |none=>rw[hl]at hi;simpa using hi
    |some z=>rw[hl]at hi;simpa using hi
variable (e:Int→Int×Int)
mutual
def dfs(tree:List Int)(dst:Int):Nat→Int→Int→Option (List Int×Bool)
  |0,_,_=>none
  |f+1,fr,last=>if fr=dst then some ([],true) else try_ tree dst f fr last tree
  termination_by f=>(f,0)
def try_ (tree:List Int) (dst:Int) (f:Nat) (fr last:Int):List Int→Option (List Int×Bool)
  |[]=>some ([],false)
  | i::t=>if i=last∨((e i).1≠fr∧(e i).2≠fr)then try_ tree dst f fr last t
    else(dfs tree dst f ((e i).1+(e i).2-fr) i).bind fun x=>if x.2=true then some (i::x.1,true) else try_ tree dst f fr last t
  termination_by l=>(f,l.length+1)
end
end Dfs
namespace Sum
open Tree Grow
variable (e:Int→Int×Int) (sh:Int→Int)
def pl:Q→Int→Int
  |[],_=>0
  |(i,u,s)::q,x=>if x=s then(if(e i).1=u then pl q u+sh i else pl q u-sh i) else pl q x
theorem pl_leg{n:Nat}{q:Q}(h:Ok e n q){i a b:Int}(hj:Joins q i a b)(he:e i=(a,b)):
    pl e sh q b=pl e sh q a+sh i:=by
  obtain⟨t,hx⟩:=h
  induction t generalizing a b with
  |nil=>simp[Joins]at hj
  | cons t hu hs hi ih=>
    rename_i q j u s
    have hv:∀{a b},Joins q i a b→a≠s∧b≠s:=fun h=>by
      have:=joins_verts t h;exact⟨fun e=>hs (e▸this.1),fun e=>hs (e▸this.2.1)⟩
    have ih':=fun{a b}=> @ih a b (hx:=fun x h=>hx x (List.mem_cons_of_mem _ h))
    obtain⟨hb,h0,h1⟩:=hx (j,u,s) List.mem_cons_self;have us:u≠s:=fun e=>hs (e▸hu)
    simp only[Joins,List.mem_cons,Prod.mk.injEq]at hj;simp only[pl];rcases hj with(⟨rfl,rfl,rfl⟩|hj)|(⟨rfl,rfl,rfl⟩|hj)
    · rw[if_pos rfl,if_neg us,he];simp
    · have:=hv (Or.inl hj)
      rw[if_neg this.1,if_neg this.2];exact ih' (Or.inl hj) he
    · rw[if_neg us,if_pos rfl,he]
      simp only;rw[if_neg (fun e=>us e.symm)];omega
    · have:=hv (Or.inr hj)
      rw[if_neg this.1,if_neg this.2];exact ih' (Or.inr hj) he
variable (w:Int→Int) (hr:∀x,(w x-x) % 18446744073709551616=0) (hc:∀x y,(x-y) % 18446744073709551616=0→w x=w y)
end Sum
end Go.Proofs.YtmgkbhhnchnkcaaGreatDoor
namespace Go.Proofs.YtmgkbhhnchnkcaaGreatDoor.Sort
def Asc(l:List Int):Prop:=l.Pairwise (· < ·)
def put:List Int→Int→List Int
  |[],n=>[n]
  |x::l,n=>if x<n then x::put l n else if x=n then x::l else n::x::l
theorem mem_put (l:List Int) (n s:Int):s∈put l n↔s=n∨s∈l:=by
  induction l with
  |nil=>simp[put]
  | cons x l ih=>
    simp only[put];split
    · simp only[List.mem_cons,ih]
      constructor
      · rintro(h|h|h)<;>simp[h]
      · rintro(h|h|h)<;>simp[h]
    · split
      · rename_i h;subst h
        simp only[List.mem_cons]
        constructor
        · rintro(h|h)<;>simp[h]
        · rintro(h|h|h)<;>simp[h]
      · simp only[List.mem_cons]
theorem asc_put {l:List Int} (h:Asc l) (n:Int):Asc (put l n):=by
  induction l with
  |nil=>simp[put,Asc]
  | cons x l ih=>
    have h':=List.pairwise_cons.mp h;simp only[put];split
    · rename_i c
      refine List.pairwise_cons.mpr ⟨fun s hs=>?_,ih h'.2⟩;rcases(mem_put l n s).mp hs with rfl|hs
      · exact c
      · exact h'.1 s hs
    · split
      · exact h
      · refine List.pairwise_cons.mpr ⟨fun s hs=>?_,h⟩
        rcases List.mem_cons.mp hs with rfl|hs
        · omega
        · have:=h'.1 s hs;omega
theorem ext:∀{l m:List Int},Asc l→Asc m→(∀s,s∈l↔s∈m)→l=m
  |[],[],_,_,_=>rfl
  |[],y::m,_,_,h=>by have:=(h y).mpr List.mem_cons_self;simp at this
  |x::l,[],_,_,h=>by have:=(h x).mp List.mem_cons_self;simp at this
  | x ::l,y::m,hl,hm,h=>by
    have hl':=List.pairwise_cons.mp hl;have hm':=List.pairwise_cons.mp hm
    have e:x=y:=by
      have h1:=(h x).mp List.mem_cons_self;have h2:=(h y).mpr List.mem_cons_self;rcases List.mem_cons.mp h1 with h1|h1
      · exact h1
      · rcases List.mem_cons.mp h2 with h2|h2
        · exact h2.symm
        · have a:=hm'.1 x h1;have b:=hl'.1 y h2;omega
    subst e;rw[ext hl'.2 hm'.2 (fun s=>?_)];have:=h s;simp only[List.mem_cons]at this
    constructor
    · intro hs
      rcases this.mp (Or.inr hs)with rfl|h1
      · have:=hl'.1 s hs;omega
      · exact h1
    · intro hs
      rcases this.mpr (Or.inr hs)with rfl|h1
      · have:=hm'.1 s hs;omega
      · exact h1
end Go.Proofs.YtmgkbhhnchnkcaaGreatDoor.Sort
namespace Go.Proofs.YtmgkbhhnchnkcaaGreatDoor
namespace Net
open Go.RowKit YtmgkbhhnchnkcaaGreatDoorW.PrintWords YtmgkbhhnchnkcaaGreatDoorW.PrintLast YtmgkbhhnchnkcaaGreatDoorW.PrintMore A
open Tree (verts legs)
open Grow (Q)
abbrev L:=List S82
def leg(ls:L)(i:Int):S82:=rd_T82 ls i
def ends(ls:L)(i:Int):Int×Int:=((leg ls i).f0,(leg ls i).f1)
def plus(a b:S72)(k:Int):S72:=⟨wrap64 (a.f0+wrap64 (k*b.f0)),wrap64 (a.f1+wrap64 (k*b.f1)),wrap64 (a.f2+wrap64 (k*b.f2))⟩
def plq(ls:L):Q→Int→S72
  |[],_=>z72
  |(i,u,s)::q,x=>if x=s then plus (plq ls q u) (shift (leg ls i)) (if(ends ls i).1=u then 1 else -1) else plq ls q x
theorem shiftPlus(a b:S72)(k:Int)(w:World):
    Calls Tryz.prog 110 #[.agg #[.int .i64 a.f0,.int .i64 a.f1,.int .i64 a.f2],.agg #[.int .i64 b.f0,.int .i64 b.f1,.int .i64 b.f2],.int .i64 k] w fun e w'=>e= .returned (.agg #[.int .i64 (plus a b k).f0,.int .i64 (plus a b k).f1,.int .i64 (plus a b k).f2])∧Below w.heap.size w w':=
  (impl_Shift_plus.calls a.f0 a.f1 a.f2 b.f0 b.f1 b.f2 k _ _ _ w rfl).mono fun e w' h=>⟨h.1,h.2⟩
theorem info4:(Tryz.prog.info? 4).map (fun i=>(i.zero,i.size,i.bytes))=some (some (.bool false),1,1):=by kernel_rfl
theorem makeBools(n:Nat)(hn:n≤12)(w:World):(Instr.makeSlice 74 (.int .i64 (n:Int)) (.int .i64 (n:Int))).run Tryz.prog w= .ok (.slice (some ⟨w.heap.size,0,none⟩) n n) (w.alloc (.cells (madeCells #[.bool false] n) 4)):=by
  obtain⟨i0,hi,hzz⟩:=Option.map_eq_some_iff.1 info4;simp only[Prod.mk.injEq]at hzz;obtain⟨hz0,hz1,hz2⟩:=hzz;have h:=run_make (P:=Tryz.prog) w 74 4 i0 (.bool false) Tryz.underlying74 hi hz0 .i64 .i64 (n:Int) (n:Int) (by omega) (Int.le_refl _) (by rw[hz2];omega) (by omega);rw[hz1]at h;simpa[Value.cells]using h
structure St(n:Nat)(T g:Nat)(P:Nat→Bool)(X:Nat→S72)(B:Nat→Bool)(cl:Value)(W:World):Prop where
  pb:∀s:Nat,s<8→W.cell? ⟨g,s,none⟩=some (.bool (P s))
  px:∀s:Nat,s<8→W.cell? ⟨g,8+s*3,none⟩=some (.int .i64 (X s).f0)
  py:∀s:Nat,s<8→W.cell? ⟨g,8+s*3+1,none⟩=some (.int .i64 (X s).f1)
  pz:∀s:Nat,s<8→W.cell? ⟨g,8+s*3+2,none⟩=some (.int .i64 (X s).f2)
  tc:W.cell? ⟨g,32,none⟩=some (.slice (some ⟨T,0,none⟩) n n)
  cc:W.cell? ⟨g,33,none⟩=some cl
  tb:∀i:Nat,i<n→W.cell? ⟨T,i,none⟩=some (.bool (B i))
  fg:∀j,W.frozen? ⟨g,j,none⟩=false
  ft:∀j,W.frozen? ⟨T,j,none⟩=false
  ne:g≠T
  ge:T<W.heap.size
section
variable {n:Nat} {T g:Nat} {P P':Nat→Bool} {X X':Nat→S72} {B B':Nat→Bool} {cl:Value} {w W:World}
theorem St.keep(h:St n T g P X B cl w)(hb:Below w.heap.size w W):St n T g P X B cl W:=
  have hg:g<w.heap.size:=World.block_lt_of_cell? w _ h.tc
  ⟨fun s hs=>Sine.keepc (h.pb s hs) hb,fun s hs=>Sine.keepc (h.px s hs) hb,fun s hs=>Sine.keepc (h.py s hs) hb,fun s hs=>Sine.keepc (h.pz s hs) hb,Sine.keepc h.tc hb,Sine.keepc h.cc hb,
    fun i hi=>Sine.keepc (h.tb i hi) hb,fun j=>(hb.frozen (p:=⟨g,j,none⟩) hg).trans (h.fg j),fun j=>(hb.frozen (p:=⟨T,j,none⟩) h.ge).trans (h.ft j),h.ne,Nat.lt_of_lt_of_le h.ge hb.size⟩
theorem St.blocks(h:St n T g P X B cl w)(hg:W.heap[g]?=w.heap[g]?)(hT:W.heap[T]?=w.heap[T]?)(hs:w.heap.size≤W.heap.size):St n T g P X B cl W:=
  have c:∀{i:Nat} {v:Value},w.cell? ⟨g,i,none⟩=some v→W.cell? ⟨g,i,none⟩=some v:=fun h=>(World.cell?_of_block hg).trans h
  ⟨fun s hs=>c (h.pb s hs),fun s hs=>c (h.px s hs),fun s hs=>c (h.py s hs),fun s hs=>c (h.pz s hs),c h.tc,c h.cc,fun i hi=>(World.cell?_of_block (a:=⟨T,i,none⟩) hT).trans (h.tb i hi),
    fun j=>(World.frozen?_of_block (a:=⟨g,j,none⟩) hg).trans (h.fg j),fun j=>(World.frozen?_of_block (a:=⟨T,j,none⟩) hT).trans (h.ft j),h.ne,Nat.lt_of_lt_of_le h.ge hs⟩
theorem St.congr(h:St n T g P X B cl W)(hP:∀s,s<8→P' s=P s)(hX:∀s,s<8→X' s=X s)(hB:∀i,i<n→B' i=B i):St n T g P' X' B' cl W:=
  ⟨fun s hs=>hP s hs▸h.pb s hs,fun s hs=>hX s hs▸h.px s hs,fun s hs=>hX s hs▸h.py s hs,fun s hs=>hX s hs▸h.pz s hs,h.tc,h.cc,fun i hi=>hB i hi▸h.tb i hi,h.fg,h.ft,h.ne,h.ge⟩
theorem far{a b:Addr}{v u:Value}(h:W.cell? b=some u)(hne:a≠b):(W.setCell a v).cell? b=some u:=by rw[World.cell?_setCell_other (h:=hne)];exact h
theorem cdrew{a:Addr}{u:Value}(h:W.cell? a=some u):W.drew.cell? a=some u:=h
theorem St.drew(h:St n T g P X B cl W):St n T g P X B cl W.drew:=h.keep (below_drew1 (Below.refl _ _))
theorem same{a:Addr}{v u:Value}(h:W.cell? a=some u):(W.setCell a v).cell? a=some v:=World.cell?_setCell_same' W a v (by rw[h];rfl)
theorem offne{g i j:Nat}(h:i≠j):(⟨g,i,none⟩:Addr)≠⟨g,j,none⟩:=fun e=>h (by injection e)
theorem blkne{g k i j:Nat}(h:g≠k):(⟨g,i,none⟩:Addr)≠⟨k,j,none⟩:=fun e=>h (by injection e)
theorem frz(a:Addr)(v:Value)(p:Addr):(W.setCell a v).frozen? p=W.frozen? p:=by go_simp
theorem St.setP(h:St n T g P X B cl W){s:Nat}(hs:s<8):St n T g (fun i=>if i=s then true else P i) X B cl (W.setCell ⟨g,s,none⟩ (.bool true)):=by
  refine⟨fun i hi=>?_,fun i hi=>far (h.px i hi) (offne (by omega)),fun i hi=>far (h.py i hi) (offne (by omega)),fun i hi=>far (h.pz i hi) (offne (by omega)),far h.tc (offne (by omega)),far h.cc (offne (by omega)),
    fun i hi=>far (h.tb i hi) (blkne h.ne),fun j=>(frz _ _ _).trans (h.fg j),fun j=>(frz _ _ _).trans (h.ft j),h.ne,by simpa using h.ge⟩
  by_cases e:i=s
  · subst e;rw[if_pos rfl];exact same (h.pb i hi)
  · rw[if_neg e];exact far (h.pb i hi) (offne (fun e'=>e e'.symm))
theorem St.setB(h:St n T g P X B cl W){s:Nat}(hs:s<n):St n T g P X (fun i=>if i=s then true else B i) cl (W.setCell ⟨T,s,none⟩ (.bool true)):=by
  have hn:=fun e=>h.ne (Eq.symm e)
  refine⟨fun i hi=>far (h.pb i hi) (blkne hn),fun i hi=>far (h.px i hi) (blkne hn),fun i hi=>far (h.py i hi) (blkne hn),fun i hi=>far (h.pz i hi) (blkne hn),far h.tc (blkne hn),far h.cc (blkne hn),
    fun i hi=>?_,fun j=>(frz _ _ _).trans (h.fg j),fun j=>(frz _ _ _).trans (h.ft j),h.ne,by simpa using h.ge⟩
  by_cases e:i=s
  · subst e;simp only[if_true];exact same (h.tb i hi)
  · rw[if_neg e];exact far (h.tb i hi) (offne (fun e'=>e e'.symm))
theorem St.setC(h:St n T g P X B cl W)(v:Value):St n T g P X B v (W.setCell ⟨g,33,none⟩ v):=
  ⟨fun i hi=>far (h.pb i hi) (offne (by omega)),fun i hi=>far (h.px i hi) (offne (by omega)),fun i hi=>far (h.py i hi) (offne (by omega)),fun i hi=>far (h.pz i hi) (offne (by omega)),far h.tc (offne (by omega)),same h.cc,
    fun i hi=>far (h.tb i hi) (blkne h.ne),fun j=>(frz _ _ _).trans (h.fg j),fun j=>(frz _ _ _).trans (h.ft j),h.ne,by simpa using h.ge⟩
theorem St.setX(h:St n T g P X B cl W){s:Nat}(hs:s<8)(v:S72):St n T g P (fun i=>if i=s then v else X i) B cl
    (((W.setCell ⟨g,8+s*3,none⟩ (.int .i64 v.f0)).setCell ⟨g,8+s*3+1,none⟩ (.int .i64 v.f1)).setCell ⟨g,8+s*3+2,none⟩ (.int .i64 v.f2)):=by
  have f3:∀{b:Addr} {u:Value} {x y z:Value},W.cell? b=some u→(⟨g,8+s*3,none⟩:Addr)≠b→(⟨g,8+s*3+1,none⟩:Addr)≠b→(⟨g,8+s*3+2,none⟩:Addr)≠b →
      (((W.setCell ⟨g,8+s*3,none⟩ x).setCell ⟨g,8+s*3+1,none⟩ y).setCell ⟨g,8+s*3+2,none⟩ z).cell? b=some u:=fun h h1 h2 h3=>far (far (far h h1) h2) h3
  refine⟨fun i hi=>f3 (h.pb i hi) (offne (by omega)) (offne (by omega)) (offne (by omega)),fun i hi=>?_,fun i hi=>?_,fun i hi=>?_,f3 h.tc (offne (by omega)) (offne (by omega)) (offne (by omega)),f3 h.cc (offne (by omega)) (offne (by omega)) (offne (by omega)),
    fun i hi=>f3 (h.tb i hi) (blkne h.ne) (blkne h.ne) (blkne h.ne),fun j=>(frz _ _ _).trans ((frz _ _ _).trans ((frz _ _ _).trans (h.fg j))),fun j=>(frz _ _ _).trans ((frz _ _ _).trans ((frz _ _ _).trans (h.ft j))),h.ne,by simpa using h.ge⟩
  · by_cases e:i=s
    · subst e;simp only[if_true];exact far (far (same (h.px i hi)) (offne (by omega))) (offne (by omega))
    · rw[if_neg e];exact f3 (h.px i hi) (offne (by omega)) (offne (by omega)) (offne (by omega))
  · by_cases e:i=s
    · subst e;simp only[if_true];exact far (same (far (h.py i hi) (offne (by omega)))) (offne (by omega))
    · rw[if_neg e];exact f3 (h.py i hi) (offne (by omega)) (offne (by omega)) (offne (by omega))
  · by_cases e:i=s
    · subst e;simp only[if_true];exact same (far (far (h.pz i hi) (offne (by omega))) (offne (by omega)))
    · rw[if_neg e];exact f3 (h.pz i hi) (offne (by omega)) (offne (by omega)) (offne (by omega))
end
def Pq(q:Q)(s:Nat):Bool:=decide ((s:Int)∈verts 0 q)
def Xq(ls:L)(q:Q)(s:Nat):S72:=plq ls q s
def Bq(q:Q)(i:Nat):Bool:=decide ((i:Int)∈legs q)
theorem Pq_cons(k u s i:Nat)(q:Q):Pq (((k:Int),(u:Int),(s:Int))::q) i=if i=s then true else Pq q i:=by
  unfold Pq;by_cases h:i=s
  · subst h;simp[verts]
  · rw[if_neg h,decide_eq_decide]
    simp only[verts,List.map_cons,List.mem_cons]
    constructor
    · rintro(h1|h1|h1)
      · exact Or.inl h1
      · omega
      · exact Or.inr h1
    · rintro(h1|h1)
      · exact Or.inl h1
      · exact Or.inr (Or.inr h1)
theorem Bq_cons(k u s i:Nat)(q:Q):Bq (((k:Int),(u:Int),(s:Int))::q) i=if i=k then true else Bq q i:=by
  unfold Bq;by_cases h:i=k
  · subst h;simp[legs]
  · rw[if_neg h,decide_eq_decide]
    simp only[legs,List.map_cons,List.mem_cons]
    constructor
    · rintro(h1|h1)
      · omega
      · exact h1
    · exact Or.inr
theorem Xq_fore{ls:L}{k a d:Nat}{q:Q}{x:S82}(he:ends ls k=((a:Int),(d:Int)))(hx:leg ls k=x)(i:Nat):Xq ls (((k:Int),(a:Int),(d:Int))::q) i=if i=d then plus (Xq ls q a) (shift x) 1 else Xq ls q i:=by
  unfold Xq;simp only[plq,he,hx,if_true];by_cases h:i=d
  · subst h;simp
  · rw[if_neg h,if_neg (by omega)]
theorem Xq_back{ls:L}{k a d:Nat}{q:Q}{x:S82}(he:ends ls k=((a:Int),(d:Int)))(had:(a:Int)≠d)(hx:leg ls k=x)(i:Nat):Xq ls (((k:Int),(d:Int),(a:Int))::q) i=if i=a then plus (Xq ls q d) (shift x) (-1) else Xq ls q i:=by
  unfold Xq;simp only[plq,he,hx,if_neg had];by_cases h:i=a
  · subst h;simp
  · rw[if_neg h,if_neg (by omega)]
theorem St.start (ls:L) (w:World):St ls.length w.heap.size (w.heap.size+1) (Pq []) (Xq ls []) (Bq []) (.slice none 0 0) ((w.alloc (Obj.cells (madeCells #[Value.bool false] ls.length) 4)).alloc
      (Obj.cells
        #[Value.bool true,Value.bool false,Value.bool false,Value.bool false,Value.bool false,Value.bool false,
          Value.bool false,Value.bool false,Value.int IntKind.i64 0,Value.int IntKind.i64 0,Value.int IntKind.i64 0,
          Value.int IntKind.i64 0,Value.int IntKind.i64 0,Value.int IntKind.i64 0,Value.int IntKind.i64 0,
          Value.int IntKind.i64 0,Value.int IntKind.i64 0,Value.int IntKind.i64 0,Value.int IntKind.i64 0,
          Value.int IntKind.i64 0,Value.int IntKind.i64 0,Value.int IntKind.i64 0,Value.int IntKind.i64 0,
          Value.int IntKind.i64 0,Value.int IntKind.i64 0,Value.int IntKind.i64 0,Value.int IntKind.i64 0,
          Value.int IntKind.i64 0,Value.int IntKind.i64 0,Value.int IntKind.i64 0,Value.int IntKind.i64 0,
          Value.int IntKind.i64 0,
          Value.slice (some {block:=w.heap.size,off:=0}) (List.length ls) (List.length ls),Value.slice none 0 0]
        76)):=by
  refine⟨?_,?_,?_,?_,?_,?_,?_,?_,?_,by omega,qz82⟩
  · intro s hs
    have:s=0∨s=1∨s=2∨s=3∨s=4∨s=5∨s=6∨s=7:=by omega
    rcases this with rfl|rfl|rfl|rfl|rfl|rfl|rfl|rfl<;>go_simp<;>first|rfl|simp[verts,Pq]
  · intro s hs
    have:s=0∨s=1∨s=2∨s=3∨s=4∨s=5∨s=6∨s=7:=by omega
    rcases this with rfl|rfl|rfl|rfl|rfl|rfl|rfl|rfl<;>go_simp<;>first|rfl|simp[verts,Pq]
  · intro s hs
    have:s=0∨s=1∨s=2∨s=3∨s=4∨s=5∨s=6∨s=7:=by omega
    rcases this with rfl|rfl|rfl|rfl|rfl|rfl|rfl|rfl<;>go_simp<;>first|rfl|simp[verts,Pq]
  · intro s hs
    have:s=0∨s=1∨s=2∨s=3∨s=4∨s=5∨s=6∨s=7:=by omega
    rcases this with rfl|rfl|rfl|rfl|rfl|rfl|rfl|rfl<;>go_simp<;>first|rfl|simp[verts,Pq]
  · go_simp
  · go_simp
  · intro i hi
    go_simp;simp[madeCells,legs,Bq,hi,Nat.mod_one]
  · intro j
    go_simp
  · intro j
    go_simp
end Net
namespace Net
open Go Go.RowKit YtmgkbhhnchnkcaaGreatDoorW.PrintWords YtmgkbhhnchnkcaaGreatDoorW.PrintLast YtmgkbhhnchnkcaaGreatDoorW.PrintMore A Plain
open Elim (Mx swp)
structure MatAt(W:World)(bm n:Nat)(R C:Nat→Nat)(M:Mx)(lo:Nat):Prop where
  pc:∀i:Nat,i<n→W.cell? ⟨bm,i,none⟩=some (.slice (some ⟨R i,0,none⟩) n (C i))
  mc:∀i j:Nat,i<n→j<n→W.cell? ⟨R i,j,none⟩=some (.int .i64 (M i j))
  fp:∀j:Nat,j<n→W.frozen? ⟨bm,j,none⟩=false
  fm:∀i j:Nat,i<n→j<n→W.frozen? ⟨R i,j,none⟩=false
  inj:∀i j:Nat,i<n→j<n→R i=R j→i=j
  ne:∀i:Nat,i<n→R i≠bm
  lb:lo≤bm
  lr:∀i:Nat,i<n→lo≤R i
section
variable {W W':World} {bm n lo:Nat} {R C:Nat→Nat} {M N:Mx}
theorem MatAt.keep(h:MatAt W bm n R C M lo)(hb:Below W.heap.size W W'):MatAt W' bm n R C M lo:=
  ⟨fun i hi=>Sine.keepc (h.pc i hi) hb,fun i j hi hj=>Sine.keepc (h.mc i j hi hj) hb,fun j hj=>(hb.frozen (p:=⟨bm,j,none⟩) (World.block_lt_of_cell? W _ (h.pc j hj))).trans (h.fp j hj),
    fun i j hi hj=>(hb.frozen (p:=⟨R i,j,none⟩) (World.block_lt_of_cell? W _ (h.mc i j hi hj))).trans (h.fm i j hi hj),h.inj,h.ne,h.lb,h.lr⟩
theorem MatAt.congr(h:MatAt W bm n R C M lo)(he:∀i j,i<n→j<n→N i j=M i j):MatAt W bm n R C N lo:=
  ⟨h.pc,fun i j hi hj=>by rw[he i j hi hj];exact h.mc i j hi hj,h.fp,h.fm,h.inj,h.ne,h.lb,h.lr⟩
theorem MatAt.set(h:MatAt W bm n R C M lo){i j:Nat}(hi:i<n)(hj:j<n)(v:Int):MatAt (W.setCell ⟨R i,j,none⟩ (.int .i64 v)) bm n R C (fun a b=>if a=i∧b=j then v else M a b) lo:=by
  refine⟨fun a ha=>far (h.pc a ha) (blkne (h.ne i hi)),fun a b ha hb=>?_,fun a ha=>(frz _ _ _).trans (h.fp a ha),fun a b ha hb=>(frz _ _ _).trans (h.fm a b ha hb),h.inj,h.ne,h.lb,h.lr⟩;by_cases c:a=i∧b=j
  · obtain⟨rfl,rfl⟩:=c
    rw[if_pos ⟨rfl,rfl⟩];exact same (h.mc a b ha hb)
  · rw[if_neg c]
    refine far (h.mc a b ha hb) ?_;by_cases d:a=i
    · subst d
      exact offne (fun e=>c ⟨rfl,e.symm⟩)
    · exact blkne (fun e=>d (h.inj a i ha hi e.symm))
theorem MatAt.swap (h:MatAt W bm n R C M lo) {k p:Nat} (hk:k<n) (hp:p<n) (hkp:p≠k):MatAt ((W.setCell ⟨bm,p,none⟩ (.slice (some ⟨R k,0,none⟩) n (C k))).setCell ⟨bm,k,none⟩ (.slice (some ⟨R p,0,none⟩) n (C p))) bm n (swp R k p) (swp C k p) (swp M k p) lo:=by
  have key:∀i,i<n→∃q,q<n∧swp R k p i=R q∧swp C k p i=C q∧swp M k p i=M q∧(i=k→q=p)∧(i=p→q=k)∧(i≠k→i≠p→q=i):=fun i hi=>by
    unfold swp;by_cases c:i=k
    · rw[if_pos c,if_pos c,if_pos c]
      exact⟨p,hp,rfl,rfl,rfl,fun _=>rfl,fun e=>by omega,fun h1 _=>absurd c h1⟩
    · rw[if_neg c,if_neg c,if_neg c]
      by_cases d:i=p
      · rw[if_pos d,if_pos d,if_pos d]
        exact⟨k,hk,rfl,rfl,rfl,fun e=>absurd e c,fun _=>rfl,fun _ h2=>absurd d h2⟩
      · rw[if_neg d,if_neg d,if_neg d]
        exact⟨i,hi,rfl,rfl,rfl,fun e=>absurd e c,fun e=>absurd e d,fun _ _=>rfl⟩
  refine⟨fun i hi=>?_,fun i j hi hj=>?_,fun j hj=>(frz _ _ _).trans ((frz _ _ _).trans (h.fp j hj)),fun i j hi hj=>?_,fun i j hi hj e=>?_,fun i hi=>?_,h.lb,fun i hi=>?_⟩
  · obtain⟨q,hq,e1,e2,_,q1,q2,q3⟩:=key i hi
    rw[e1,e2];by_cases c:i=k
    · rw[q1 c,c]
      exact same (far (h.pc k hk) (offne hkp))
    · by_cases d:i=p
      · rw[q2 d,d]
        exact far (same (h.pc p hp)) (offne (fun e=>hkp e.symm))
      · rw[q3 c d]
        exact far (far (h.pc i hi) (offne (fun e=>d e.symm))) (offne (fun e=>c e.symm))
  · obtain⟨q,hq,e1,_,e3,_⟩:=key i hi
    rw[e1,e3];exact far (far (h.mc q j hq hj) (blkne (fun e=>h.ne q hq e.symm))) (blkne (fun e=>h.ne q hq e.symm))
  · obtain⟨q,hq,e1,_⟩:=key i hi
    rw[e1];exact(frz _ _ _).trans ((frz _ _ _).trans (h.fm q j hq hj))
  · obtain⟨q,hq,e1,_,_,q1,q2,q3⟩:=key i hi
    obtain⟨r,hr,e1',_,_,r1,r2,r3⟩:=key j hj;rw[e1,e1']at e;have:=h.inj q r hq hr e;by_cases c:i=k
    · by_cases c':j=k
      · omega
      · by_cases d':j=p
        · rw[q1 c,r2 d']at this;omega
        · rw[q1 c,r3 c' d']at this;omega
    · by_cases d:i=p
      · by_cases c':j=k
        · rw[q2 d,r1 c']at this;omega
        · by_cases d':j=p
          · omega
          · rw[q2 d,r3 c' d']at this;omega
      · by_cases c':j=k
        · rw[q3 c d,r1 c']at this;omega
        · by_cases d':j=p
          · rw[q3 c d,r2 d']at this;omega
          · rw[q3 c d,r3 c' d']at this;exact this
  · obtain⟨q,hq,e1,_⟩:=key i hi
    rw[e1];exact h.ne q hq
  · obtain⟨q,hq,e1,_⟩:=key i hi
    rw[e1];exact h.lr q hq
theorem MatAt.fresh(h:MatAt W bm n R C M lo)(h0:0<n):bm≠W.heap.size∧∀i,i<n→R i≠W.heap.size:=
  ⟨Nat.ne_of_lt (World.block_lt_of_cell? W _ (h.pc 0 h0)),fun i hi=>Nat.ne_of_lt (World.block_lt_of_cell? W _ (h.mc i 0 hi h0))⟩
theorem swp_comm{α:Type}(f:Nat→α)(k p:Nat):swp f p k=swp f k p:=by
  funext i
  unfold swp;by_cases c:i=p
  · by_cases d:i=k
    · rw[if_pos c,if_pos d,←c,←d]
    · rw[if_pos c,if_neg d,if_pos c]
  · by_cases d:i=k
    · rw[if_neg c,if_pos d,if_pos d]
    · rw[if_neg c,if_neg d,if_neg d,if_neg c]
theorem MatAt.swap'(h:MatAt W bm n R C M lo){k p:Nat}(hk:k<n)(hp:p<n)(hkp:p≠k):MatAt ((W.setCell ⟨bm,k,none⟩ (.slice (some ⟨R p,0,none⟩) n (C p))).setCell ⟨bm,p,none⟩ (.slice (some ⟨R k,0,none⟩) n (C k))) bm n (swp R k p) (swp C k p) (swp M k p) lo:=by
  have:=h.swap hp hk (fun e=>hkp e.symm);rw[swp_comm R k p,swp_comm C k p,swp_comm M k p]at this;exact this
end
def mx(rows:List (List Int)):Mx:=fun i j=>(rows.getD i []).getD j 0
theorem MatAt.of_S{w:World}{base n g cap:Nat}{ok:Nat→Prop}{rows:List (List Int)}(h:Kd.S (Kd.slice 3 (Kd.int .i64)) 46 w base ok (.slice (some ⟨g,0,none⟩) n cap) rows)(hn:rows.length=n)(hr:∀r∈rows,r.length=n)(h0:0<n):
    ∃R C,MatAt w g n R C (mx rows) base:=by
  obtain⟨f,hf⟩:=h;have hz:rows.zipIdx.length=n:=by rw[List.length_zipIdx,hn]
  have key:∀i:Nat,i<n→∃b c,w.cell? ⟨g,i,none⟩=some (.slice (some ⟨b,0,none⟩) n c)∧w.frozen? ⟨g,i,none⟩=false∧f b=i∧b≠g∧base≤b∧(∀j,j<n→w.cell? ⟨b,j,none⟩=some (.int .i64 (mx rows i j)))∧(∀j,j<n→w.frozen? ⟨b,j,none⟩=false):=fun i hi=>by
    obtain⟨c,hcl,hM,hcc,hfr⟩:=Kd.R_elem hf (([],0):List Int×Nat) (i:Int) (by omega) (by omega);rw[Int.toNat_natCast]at hM hcc hfr;have hsz:(Kd.tag f (Kd.slice 3 (Kd.int .i64))).sz=1:=rfl;rw[hsz,Nat.mul_one]at hcc hfr
    have hg:rows.zipIdx.getD i ([],0)=(rows.getD i [],i):=by
      rw[List.getD_eq_getElem?_getD,List.getElem?_zipIdx,List.getD_eq_getElem?_getD,List.getElem?_eq_getElem (by omega)];simp
    rw[hg]at hM;obtain⟨v,rfl,hv⟩:=hM;simp only at hv;have hrl:(rows.getD i []).length=n:=hr _ (by rw[List.getD_eq_getElem?_getD,List.getElem?_eq_getElem (by omega)];exact List.getElem_mem _);obtain⟨b,cp,rfl,hb1,hb2,_,_⟩:=Kd.R_form hv (by omega);have hok:=hv.1 b (by simp[Value.ownBlock]);have hc0:=hcc 0 _ rfl;rw[Nat.add_zero,hrl]at hc0;refine⟨b,cp,hc0,(by have:=hfr 0;rwa [Nat.add_zero]at this),hok.2,fun e=>hok.1.2 e,hb1,fun j hj=>?_,fun j hj=>?_⟩
    · obtain⟨c2,_,hM2,hcc2,_⟩:=Kd.R_elem hv 0 (j:Int) (by omega) (by omega)
      have e2:c2=[.int .i64 ((rows.getD i []).getD (j:Int).toNat 0)]:=hM2;subst e2;have:=hcc2 0 _ rfl;rw[Int.toNat_natCast,show(Kd.int .i64).sz=1 from rfl,Nat.mul_one,Nat.add_zero]at this;exact this
    · obtain⟨c2,_,hM2,_,hfr2⟩:=Kd.R_elem hv 0 (j:Int) (by omega) (by omega)
      have:=hfr2 0;rw[Int.toNat_natCast,show(Kd.int .i64).sz=1 from rfl,Nat.mul_one,Nat.add_zero]at this;exact this
  obtain⟨R,kR⟩:∃R:Nat→Nat,∀i (hi:i<n),R i=(key i hi).choose:=⟨fun i=>if h:i<n then(key i h).choose else 0,fun i hi=>dif_pos hi⟩
  obtain⟨C,kC⟩:∃C:Nat→Nat,∀i (hi:i<n),C i=(key i hi).choose_spec.choose:=⟨fun i=>if h:i<n then(key i h).choose_spec.choose else 0,fun i hi=>dif_pos hi⟩
  have hgb:base≤g:=by
    obtain⟨_,_,e,hb,_⟩:=Kd.R_form hf (by omega);injection e with e1
    injection e1 with e2
    injection e2 with e3
    omega
  refine⟨R,C,fun i hi=>?_,fun i j hi hj=>?_,fun j hj=>(key j hj).choose_spec.choose_spec.2.1,fun i j hi hj=>?_,fun i j hi hj e=>?_,fun i hi=>?_,hgb,fun i hi=>?_⟩
  · rw[kR i hi,kC i hi];exact(key i hi).choose_spec.choose_spec.1
  · rw[kR i hi];exact(key i hi).choose_spec.choose_spec.2.2.2.2.2.1 j hj
  · rw[kR i hi];exact(key i hi).choose_spec.choose_spec.2.2.2.2.2.2 j hj
  · rw[kR i hi,kR j hj]at e
    have h1:=(key i hi).choose_spec.choose_spec.2.2.1;have h2:=(key j hj).choose_spec.choose_spec.2.2.1;rw[e,h2]at h1;exact h1.symm
  · rw[kR i hi];exact(key i hi).choose_spec.choose_spec.2.2.2.1
  · rw[kR i hi];exact(key i hi).choose_spec.choose_spec.2.2.2.2.1
end Net
end Go.Proofs.YtmgkbhhnchnkcaaGreatDoor
